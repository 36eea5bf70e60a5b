/-
  The functions of the program that this law reaches, as functions over plain data (printed by a program). Conditions: none.
-/
import Derived.Test.YtkhnjoehenkmcaaGreatFxD
import Derived.Test.YtkhnjoehenkmcaaGreatA
namespace Go.Fx.D
open Go Go.Fx Go.Proofs
set_option linter.unusedVariables false
noncomputable section
def cY (k : Looker) (c : Cont) : Option Looker :=
 let e:=mget (fun x => c.Id == x.k) k.noticed (⟨c.Id,0⟩ : Ent4_IntInt)
 let e1:=mget (fun x2 => c.Id == x2.k) k.leaf (⟨c.Id,[]⟩ : Ent2_IntListUInt8)
 let e2:=mget (fun x3 => e1.v == x3.k) k.over (⟨e1.v,0⟩ : Ent0_ListUInt8Int)
 some (⟨⟨⟨k.s.Conf.Labels,k.s.Conf.Queues⟩,k.s.Nodes,k.s.Apps,k.s.Conts,k.s.Slots,k.s.Plans,k.s.Now,k.s.Epoch,k.s.Seq⟩,k.label,mput (fun x4 => e1.v == x4.k) k.over (⟨e1.v,w64 (e2.v - c.Size.Mem)⟩ : Ent0_ListUInt8Int),k.leaf,mput (fun x1 => c.Id == x1.k) k.noticed (⟨c.Id,w64 (e.v + 1)⟩ : Ent4_IntInt),w64 (k.gone + c.Size.Mem)⟩ : Looker)
def h34 : Hint:=.z
def sp34 : Spec fam:=⟨[.box (.st 18) [11,12,13],.v (.st 7) []],[],fun a => cY a.1 a.2.1⟩
def eB (v : Vec) : Option Bool :=
 bif decide (v.Mem ≥ 0) then
 bif decide (v.Mem ≤ 1125899906842624) then
  bif decide (v.Cores ≥ 0) then
  some (decide (v.Cores ≤ 1125899906842624))
  else
  some false
 else
  some false
 else
 some false
def h225 : Hint:=.z
def sp225 : Spec fam:=⟨[.v (.st 0) []],[.v .bool []],fun a => eB a.1⟩
def pu (v : Vec) : Option (Vec × Int) :=
 (eB v).bind fun x =>
 bif ! x then
 some ((⟨0,0⟩ : Vec),11)
 else
 some (v,0)
def h226 : Hint:=.z
def sp226 : Spec fam:=⟨[.v (.st 0) []],[.v (.st 0) [],.v (.int .i64) []],fun a => pu a.1⟩
def oK (a : Vec) (b : Vec) : Option (Vec × Int) :=
 (
 (eB a).bind fun x =>
 bif ! x then
  some true
 else
  (eB b).bind fun x1 =>
  some (! x1)).bind fun q =>
 bif q then
 some ((⟨0,0⟩ : Vec),1)
 else
 (pu (⟨w64 (a.Mem + b.Mem),w64 (a.Cores + b.Cores)⟩ : Vec)).bind fun x2 =>
 some (x2.1,x2.2)
def h194 : Hint:=(.s .z (.s (.s (.j [] [(0,[(13,.v .bool [])])] .z) .z) .z))
def sp194 : Spec fam:=⟨[.v (.st 0) [],.v (.st 0) []],[.v (.st 0) [],.v (.int .i64) []],fun a => oK a.1 a.2.1⟩
def sa (l : List Vec) (t : Vec × Int) : Option ((Vec × Int) ⊕ Vec) :=
 bif decide (t.2 < (l.length : Int)) then
 (idx l t.2).bind fun x =>
 (oK t.1 x).bind fun x1 =>
 some (.inl (x1.1,w64 (t.2 + 1)))
 else
 some (.inr t.1)
def sZ (l : List Vec) : Option Vec :=
 (loop (sa l) ((⟨0,0⟩ : Vec),0)).bind fun out =>
 some out
def h146 : Hint:=(.s .z (.s .z (.s (.s .z (.b (.l [(3,.box (.st 0) []),(8,.v (.int .i64) [])] [3,5,8] [(2,[(3,.box (.st 0) [])])] .z))) .z)))
def sp146 : Spec fam:=⟨[.v (.slice (.st 0)) []],[.v (.st 0) []],fun a => sZ a.1⟩
def oZ (s : State) (label : Int) (t : List Vec × Int) : Option ((List Vec × Int) ⊕ List Vec) :=
 bif decide (t.2 < (s.Nodes.length : Int)) then
 (
  (idx s.Nodes t.2).bind fun x =>
  (
  bif x.Up then
   some (x.Label == label)
  else
   some false).bind fun q =>
  bif q then
  (app 16 t.1 [x.Cap]).bind fun l =>
  some l
  else
  some t.1).bind fun l1 =>
 some (.inl (l1,w64 (t.2 + 1)))
 else
 some (.inr t.1)
def kn (s : State) (label : Int) : Option Vec :=
 (loop (oZ s label) ([],0)).bind fun l2 =>
 (sZ l2).bind fun x1 =>
 some x1
def h85 : Hint:=(.s .z (.s .z (.s (.s .z (.b (.l [(5,.v (.slice (.st 0)) [0]),(11,.v (.int .i64) [])] [5,7,11,22] [(2,[(5,.v (.slice (.st 0)) [0])])] (.s .z (.s .z (.s (.j [5,7,22] [(0,[(5,.v (.slice (.st 0)) [0])])] (.b (.s .z (.s (.j [] [(0,[(22,.v .bool [])])] .z) .z)))) .z)))))) .z)))
def sp85 : Spec fam:=⟨[.v (.st 10) [],.v (.int .i64) []],[.v (.st 0) []],fun a => kn a.1 a.2.1⟩
def kw (v : View) (c : Cont) (t : App × Int) : Option ((App × Int) ⊕ ((App × Bool) ⊕ App)) :=
 bif decide (t.2 < (v.s.Apps.length : Int)) then
 (idx v.s.Apps t.2).bind fun x =>
 bif x.Id == c.App then
  some (.inr (.inl (x,true)))
 else
  some (.inl (t.1,w64 (t.2 + 1)))
 else
 some (.inr (.inr (t.1)))
def jP (v : View) (c : Cont) : Option (App × Bool) :=
 (loop (kw v c) ((⟨0,0,[],0,0,⟨0,0⟩,[],0,0,[],[],[],[]⟩ : App),0)).bind fun q0 =>
 match q0 with
 | .inl q =>
 some (q.1,q.2)
 | .inr q1 =>
 some ((⟨0,0,[],0,0,⟨0,0⟩,[],0,0,[],[],[],[]⟩ : App),false)
def h192 : Hint:=(.s .z (.s (.s .z (.b (.l [(4,.box (.st 6) [7,10,11,12,13]),(12,.v (.int .i64) [])] [4,5,7,12] [(1,[(4,.box (.st 6) []),(5,.v .bool [])]),(2,[(4,.box (.st 6) [7,10,11,12,13])])] .z))) .z))
def sp192 : Spec fam:=⟨[.v (.st 17) [],.v (.st 7) []],[.v (.st 6) [],.v .bool []],fun a => jP a.1 a.2.1⟩
def en (s : List UInt8) (prefix_ : List UInt8) : Option Bool :=
 bif decide ((s.length : Int) ≥ (prefix_.length : Int)) then
 (slc s 0 (prefix_.length : Int)).bind fun s1 =>
 some (s1 == prefix_)
 else
 some false
def h250 : Hint:=.z
def sp250 : Spec fam:=⟨[.v .str [],.v .str []],[.v .bool []],fun a => en a.1 a.2.1⟩
def iF (s : List UInt8) (prefix_ : List UInt8) : Option Bool :=
 (en s prefix_).bind fun x =>
 some x
def h224 : Hint:=.z
def sp224 : Spec fam:=⟨[.v .str [],.v .str []],[.v .bool []],fun a => iF a.1 a.2.1⟩
def iM (v : View) (a : App) : Option Bool :=
 (
 bif a.Queue == v.path then
  some true
 else
  (cat v.path ([46] : List UInt8)).bind fun s =>
  (iF a.Queue s).bind fun x =>
  some x).bind fun below =>
 bif below then
 bif v.user == (-1) then
  some true
 else
  some (a.User == v.user)
 else
 some false
def h193 : Hint:=(.s .z (.s (.j [] [(0,[(5,.v .bool [])])] .z) .z))
def sp193 : Spec fam:=⟨[.v (.st 17) [],.v (.st 6) []],[.v .bool []],fun a => iM a.1 a.2.1⟩
def kS (v : View) (t : Vec × Int) : Option ((Vec × Int) ⊕ Vec) :=
 bif decide (t.2 < (v.s.Conts.length : Int)) then
 (
  (idx v.s.Conts t.2).bind fun x =>
  (jP v x).bind fun x1 =>
  (
  bif x1.2 then
   bif x.Label == v.label then
   (iM v x1.1).bind fun x2 =>
   some x2
   else
   some false
  else
   some false).bind fun q =>
  bif q then
  (oK t.1 x.Size).bind fun x3 =>
  some x3.1
  else
  some t.1).bind fun out =>
 some (.inl (out,w64 (t.2 + 1)))
 else
 some (.inr t.1)
def kK (v : View) : Option Vec :=
 (loop (kS v) ((⟨0,0⟩ : Vec),0)).bind fun out1 =>
 some out1
def h141 : Hint:=(.s .z (.s .z (.s .z (.s (.s .z (.b (.l [(3,.box (.st 0) []),(15,.v (.int .i64) [])] [3,6,7,8,15,37] [(2,[(3,.box (.st 0) [])])] (.s .z (.s .z (.s (.j [3,6,7,8,37] [(0,[(3,.box (.st 0) [])])] (.b (.s .z (.s .z (.s (.j [] [(0,[(37,.v .bool [])])] .z) .z))))) .z)))))) .z))))
def sp141 : Spec fam:=⟨[.v (.st 17) []],[.v (.st 0) []],fun a => kK a.1⟩
def gS (s : State) (path : List UInt8) (label : Int) : Option Vec :=
 (kK (⟨⟨⟨s.Conf.Labels,s.Conf.Queues⟩,s.Nodes,s.Apps,s.Conts,s.Slots,s.Plans,s.Now,s.Epoch,s.Seq⟩,path,label,(-1)⟩ : View)).bind fun x =>
 some x
def h82 : Hint:=.z
def sp82 : Spec fam:=⟨[.v (.st 10) [],.v .str [],.v (.int .i64) []],[.v (.st 0) []],fun a => gS a.1 a.2.1 a.2.2.1⟩
def dm (s : List UInt8) (c : Int) (i1 : Int) : Option (Int ⊕ (Int ⊕ Unit)) :=
 bif decide (i1 ≥ 0) then
 (idx s i1).bind fun ch =>
 bif (ch.toNat : Int) == c then
  some (.inr (.inl i1))
 else
  some (.inl (w64 (i1 - 1)))
 else
 some (.inr (.inr ()))
def cy (s : List UInt8) (c : Int) : Option Int :=
 let i:=w64 ((s.length : Int) - 1)
 (loop (dm s c) i).bind fun q0 =>
 match q0 with
 | .inl q =>
 some q
 | .inr _ =>
 some (-1)
def h269 : Hint:=(.s .z (.s (.s .z (.b (.l [(5,.v (.int .i64) [])] [4,5] [(1,[(4,.v (.int .i64) [])]),(2,[])] .z))) .z))
def sp269 : Spec fam:=⟨[.v .str [],.v (.int .u8) []],[.v (.int .i64) []],fun a => cy a.1 a.2.1⟩
def dO (t1 : Int × Int × Int) : Option ((Int × Int × Int) ⊕ Int) :=
 bif decide (t1.2.2 > 0) then
 (
  bif (andK .i64 t1.2.2 1) != 0 then
  let pow:=IntKind.u32.wrap (t1.1 * t1.2.1)
  some pow
  else
  some t1.1).bind fun pow1 =>
 let sq:=IntKind.u32.wrap (t1.2.1 * t1.2.1)
 some (.inl (pow1,sq,shrK .i64 t1.2.2 1))
 else
 some (.inr t1.1)
def dN (sep : List UInt8) (t : Int × Int) : Option ((Int × Int) ⊕ Int) :=
 bif decide (t.2 ≥ 0) then
 (idx sep t.2).bind fun ch =>
 let hash:=IntKind.u32.wrap ((IntKind.u32.wrap (t.1 * 16777619)) + (IntKind.u32.wrap (ch.toNat : Int)))
 some (.inl (hash,w64 (t.2 - 1)))
 else
 some (.inr t.1)
def cM (sep : List UInt8) : Option (Int × Int) :=
 let i:=w64 ((sep.length : Int) - 1)
 (loop (dN sep) (0,i)).bind fun hash1 =>
 (loop dO (1,16777619,(sep.length : Int))).bind fun pow2 =>
 some (hash1,pow2)
def h277 : Hint:=(.s .z (.s .z (.s (.s .z (.b (.l [(4,.v (.int .u32) []),(5,.v (.int .i64) [])] [4,5] [(2,[(4,.v (.int .u32) [])])] .z))) (.s .z (.s (.s .z (.b (.l [(6,.v (.int .u32) []),(7,.v (.int .u32) []),(8,.v (.int .i64) [])] [6,7,8] [(4,[(6,.v (.int .u32) [])])] (.s .z (.s (.b (.s (.j [6] [(0,[(6,.v (.int .u32) [])])] .z) .z)) .z))))) .z)))))
def sp277 : Spec fam:=⟨[.v .str []],[.v (.int .u32) [],.v (.int .u32) []],fun a => cM a.1⟩
def bS (s : List UInt8) (sep : List UInt8) (x : Int × Int) (t1 : Int × Int) : Option ((Int × Int) ⊕ (Int ⊕ Unit)) :=
 bif decide (t1.2 ≥ 0) then
 (idx s t1.2).bind fun ch1 =>
 let h2:=IntKind.u32.wrap ((IntKind.u32.wrap (t1.1 * 16777619)) + (IntKind.u32.wrap (ch1.toNat : Int)))
 (idx s (w64 (t1.2 + (sep.length : Int)))).bind fun ch2 =>
 let h3:=IntKind.u32.wrap (h2 - (IntKind.u32.wrap (x.2 * (IntKind.u32.wrap (ch2.toNat : Int)))))
 (
  bif h3 == x.1 then
  (slc s t1.2 (w64 (t1.2 + (sep.length : Int)))).bind fun s2 =>
  some (s2 == sep)
  else
  some false).bind fun q1 =>
 bif q1 then
  some (.inr (.inl (t1.2)))
 else
  some (.inl (h3,w64 (t1.2 - 1)))
 else
 some (.inr (.inr ()))
def bU (s : List UInt8) (last : Int) (t : Int × Int) : Option ((Int × Int) ⊕ Int) :=
 bif decide (t.2 ≥ last) then
 (idx s t.2).bind fun ch =>
 let h:=IntKind.u32.wrap ((IntKind.u32.wrap (t.1 * 16777619)) + (IntKind.u32.wrap (ch.toNat : Int)))
 some (.inl (h,w64 (t.2 - 1)))
 else
 some (.inr t.1)
def be (s : List UInt8) (sep : List UInt8) : Option Int :=
 (cM sep).bind fun x =>
 let last:=w64 ((s.length : Int) - (sep.length : Int))
 let i:=w64 ((s.length : Int) - 1)
 (loop (bU s last) (0,i)).bind fun h1 =>
 (
 bif h1 == x.1 then
  (slc s last (s.length : Int)).bind fun s1 =>
  some (s1 == sep)
 else
  some false).bind fun q =>
 bif q then
 some last
 else
 (loop (bS s sep x) (h1,w64 (last - 1))).bind fun q0 =>
 match q0 with
 | .inl q2 =>
  some q2
 | .inr _ =>
  some (-1)
def h270 : Hint:=(.s .z (.s .z (.s .z (.s .z (.s .z (.s (.s .z (.b (.l [(9,.v (.int .u32) []),(10,.v (.int .i64) [])] [9,10] [(2,[(9,.v (.int .u32) [])])] .z))) (.s (.s (.j [] [(0,[(47,.v .bool [])])] .z) .z) (.s (.s .z (.b (.l [(9,.v (.int .u32) []),(11,.v (.int .i64) [])] [4,9,11,85] [(1,[(4,.v (.int .i64) [])]),(4,[])] (.s .z (.s (.b (.s .z (.s .z (.s .z (.s (.j [] [(0,[(85,.v .bool [])])] .z) .z))))) .z))))) .z))))))))
def sp270 : Spec fam:=⟨[.v .str [],.v .str []],[.v (.int .i64) []],fun a => be a.1 a.2.1⟩
def iL (s : List UInt8) (substr : List UInt8) : Option Int :=
 bif (substr.length : Int) == 0 then
 some (s.length : Int)
 else
 bif (substr.length : Int) == 1 then
  (idx substr 0).bind fun ch =>
  (cy s (ch.toNat : Int)).bind fun x =>
  some x
 else
  bif (substr.length : Int) == (s.length : Int) then
  bif substr == s then
   some 0
  else
   some (-1)
  else
  bif decide ((substr.length : Int) > (s.length : Int)) then
   some (-1)
  else
   (be s substr).bind fun x1 =>
   some x1
def h249 : Hint:=.z
def sp249 : Spec fam:=⟨[.v .str [],.v .str []],[.v (.int .i64) []],fun a => iL a.1 a.2.1⟩
def nH (path : List UInt8) : Option (List UInt8 × Bool) :=
 (iL path ([46] : List UInt8)).bind fun i =>
 bif decide (i < 0) then
 some (([] : List UInt8),false)
 else
 (slc path 0 i).bind fun s =>
 some (s,true)
def h220 : Hint:=.z
def sp220 : Spec fam:=⟨[.v .str []],[.v .str [],.v .bool []],fun a => nH a.1⟩
def uF (t : List UInt8 × List (List UInt8)) : Option ((List UInt8 × List (List UInt8)) ⊕ List (List UInt8)) :=
 bif ! (t.1 == ([] : List UInt8)) then
 (app 16 t.2 [t.1]).bind fun l =>
 (nH t.1).bind fun x =>
 some (.inl (x.1,l))
 else
 some (.inr t.2)
def wT (path : List UInt8) : Option (List (List UInt8)) :=
 (loop uF (path,[])).bind fun out =>
 some out
def h227 : Hint:=(.s .z (.s .z (.s (.b (.l [(0,.v .str []),(3,.v (.slice (.str)) [0])] [0,3] [(2,[(3,.v (.slice (.str)) [0])])] .z)) .z)))
def sp227 : Spec fam:=⟨[.v .str []],[.v (.slice (.str)) [0]],fun a => wT a.1⟩
def BS (s : List Cap) : Option (List Cap) :=
 bif s.isEmpty then
 none
 else
 (app 16 [] s).bind fun l =>
 some l
def re (s : List Cap) : Option (List Cap):=app 16 [] s
def h155 : Hint:=.z
def sp155 : Spec fam:=⟨[.v (.slice (.st 1)) []],[.v (.slice (.st 1)) [0]],fun a => re a.1⟩
def Fb : Spec fam:=⟨[.v (.slice (.st 1)) []],[.v (.slice (.st 1)) [0]],fun a => BS a.1⟩
def pT (s : List Queue) (f : (TupT fam [.st 2] → Option Bool)) (t : Int) : Option (Int ⊕ (Int ⊕ Unit)) :=
 bif decide (t < (s.length : Int)) then
 (idx s t).bind fun x =>
 (f (x,())).bind fun r =>
 bif r then
  some (.inr (.inl t))
 else
  some (.inl (w64 (t + 1)))
 else
 some (.inr (.inr ()))
def qR (s : List Queue) (f : (TupT fam [.st 2] → Option Bool)) : Option Int :=
 (loop (pT s f) 0).bind fun q0 =>
 match q0 with
 | .inl q =>
 some q
 | .inr _ =>
 some (-1)
def h251 : Hint:=(.s .z (.s (.s .z (.b (.l [(8,.v (.int .i64) [])] [4,5,8] [(1,[(4,.v (.int .i64) [])]),(2,[])] .z))) .z))
def sp251 : Spec fam:=⟨[.v (.slice (.st 2)) [],.fn [.st 2] .bool],[.v (.int .i64) []],fun a => qR a.1 a.2.1⟩
def pc (q : Queue) (p : List UInt8) : Option Bool :=
 some (q.Path == p)
def h252 : Hint:=.z
def sp252 : Spec fam:=⟨[.v (.st 2) [],.rp .str],[.v .bool []],fun a => pc a.1 a.2.1⟩
def pG (c : Conf) (path : List UInt8) : Option (Queue × Bool) :=
 (qR c.Queues (fun a' => pc a'.1 path)).bind fun i =>
 bif decide (i < 0) then
 some ((⟨[],[],0⟩ : Queue),false)
 else
 (idx c.Queues i).bind fun x =>
 (re x.Caps).bind fun x1 =>
 some ((⟨x.Path,x1,x.User⟩ : Queue),true)
def h228 : Hint:=.z
def sp228 : Spec fam:=⟨[.v (.st 3) [],.v .str []],[.v (.st 2) [1],.v .bool []],fun a => pG a.1 a.2.1⟩
def qB (x : Int) (y : Int) : Option (Int × Int) :=
 let w0:=IntKind.u64.wrap ((andK .u64 x 4294967295) * (andK .u64 y 4294967295))
 let t:=IntKind.u64.wrap ((IntKind.u64.wrap ((shrK .u64 x 32) * (andK .u64 y 4294967295))) + (shrK .u64 w0 32))
 let w1:=IntKind.u64.wrap ((andK .u64 t 4294967295) + (IntKind.u64.wrap ((andK .u64 x 4294967295) * (shrK .u64 y 32))))
 let hi:=IntKind.u64.wrap ((IntKind.u64.wrap ((IntKind.u64.wrap ((shrK .u64 x 32) * (shrK .u64 y 32))) + (shrK .u64 t 32))) + (shrK .u64 w1 32))
 some (hi,IntKind.u64.wrap (x * y))
def h271 : Hint:=.z
def sp271 : Spec fam:=⟨[.v (.int .u64) [],.v (.int .u64) []],[.v (.int .u64) [],.v (.int .u64) []],fun a => qB a.1 a.2.1⟩
def nL (x : Int) : Option Int :=
 (
 bif decide (x ≥ 4294967296) then
  some (shrK .u64 x 32,32)
 else
  some (x,0)).bind fun q =>
 (
 bif decide (q.1 ≥ 65536) then
  some (shrK .u64 q.1 16,w64 (q.2 + 16))
 else
  some (q.1,q.2)).bind fun q1 =>
 (
 bif decide (q1.1 ≥ 256) then
  some (shrK .u64 q1.1 8,w64 (q1.2 + 8))
 else
  some (q1.1,q1.2)).bind fun q2 =>
 (idx ([0,1,2,2,3,3,3,3,4,4,4,4,4,4,4,4,5,5,5,5,5,5,5,5,5,5,5,5,5,5,5,5,6,6,6,6,6,6,6,6,6,6,6,6,6,6,6,6,6,6,6,6,6,6,6,6,6,6,6,6,6,6,6,6,7,7,7,7,7,7,7,7,7,7,7,7,7,7,7,7,7,7,7,7,7,7,7,7,7,7,7,7,7,7,7,7,7,7,7,7,7,7,7,7,7,7,7,7,7,7,7,7,7,7,7,7,7,7,7,7,7,7,7,7,7,7,7,7,8,8,8,8,8,8,8,8,8,8,8,8,8,8,8,8,8,8,8,8,8,8,8,8,8,8,8,8,8,8,8,8,8,8,8,8,8,8,8,8,8,8,8,8,8,8,8,8,8,8,8,8,8,8,8,8,8,8,8,8,8,8,8,8,8,8,8,8,8,8,8,8,8,8,8,8,8,8,8,8,8,8,8,8,8,8,8,8,8,8,8,8,8,8,8,8,8,8,8,8,8,8,8,8,8,8,8,8,8,8,8,8,8,8,8,8,8,8,8,8,8,8,8,8,8,8,8,8] : List UInt8) (IntKind.u8.wrap q2.1)).bind fun ch =>
 let n:=w64 (q2.2 + (w64 (ch.toNat : Int)))
 some n
def h177 : Hint:=(.s .z (.s (.j [0,2] [(0,[(0,.v (.int .u64) []),(2,.v (.int .i64) [])])] .z) (.s (.j [0,2] [(0,[(0,.v (.int .u64) []),(2,.v (.int .i64) [])])] .z) (.s (.j [0,2] [(0,[(0,.v (.int .u64) []),(2,.v (.int .i64) [])])] .z) .z))))
def sp177 : Spec fam:=⟨[.v (.int .u64) []],[.v (.int .i64) []],fun a => nL a.1⟩
def fU (x : Int) : Option Int :=
 (nL x).bind fun x1 =>
 some (w64 (64 - x1))
def h278 : Hint:=.z
def sp278 : Spec fam:=⟨[.v (.int .u64) []],[.v (.int .i64) []],fun a => fU a.1⟩
def pY (yn1 : Int) (yn0 : Int) (un0 : Int) (t1 : Int × Int) : Option ((Int × Int) ⊕ Int) :=
 (
 bif decide (t1.2 ≥ 4294967296) then
  some true
 else
  some (decide ((IntKind.u64.wrap (t1.2 * yn0)) > (IntKind.u64.wrap ((IntKind.u64.wrap (4294967296 * t1.1)) + un0))))).bind fun q2 =>
 bif q2 then
 bif decide ((IntKind.u64.wrap (t1.1 + yn1)) ≥ 4294967296) then
  some (.inr (IntKind.u64.wrap (t1.2 - 1)))
 else
  some (.inl (IntKind.u64.wrap (t1.1 + yn1),IntKind.u64.wrap (t1.2 - 1)))
 else
 some (.inr t1.2)
def qf (yn1 : Int) (yn0 : Int) (un1 : Int) (t : Int × Int) : Option ((Int × Int) ⊕ Int) :=
 (
 bif decide (t.1 ≥ 4294967296) then
  some true
 else
  some (decide ((IntKind.u64.wrap (t.1 * yn0)) > (IntKind.u64.wrap ((IntKind.u64.wrap (4294967296 * t.2)) + un1))))).bind fun q =>
 bif q then
 bif decide ((IntKind.u64.wrap (t.2 + yn1)) ≥ 4294967296) then
  some (.inr (IntKind.u64.wrap (t.1 - 1)))
 else
  some (.inl (IntKind.u64.wrap (t.1 - 1),IntKind.u64.wrap (t.2 + yn1)))
 else
 some (.inr t.1)
def qV (hi : Int) (lo : Int) (y : Int) : Option (Int × Int) :=
 bif y == 0 then
 none
 else
 bif decide (y ≤ hi) then
  none
 else
  bif hi == 0 then
  (nz y).bind fun _ =>
  (nz y).bind fun _ =>
  some (IntKind.u64.wrap (Int.tdiv lo y),Int.tmod lo y)
  else
  (fU y).bind fun x =>
  (nn (IntKind.u64.wrap x)).bind fun _ =>
  let yn1:=shrK .u64 (shlK .u64 y (IntKind.u64.wrap x)) 32
  let yn0:=andK .u64 (shlK .u64 y (IntKind.u64.wrap x)) 4294967295
  (nn (IntKind.u64.wrap x)).bind fun _ =>
  (nn (IntKind.u64.wrap (64 - (IntKind.u64.wrap x)))).bind fun _ =>
  let un32:=orK .u64 (shlK .u64 hi (IntKind.u64.wrap x)) (shrK .u64 lo (IntKind.u64.wrap (64 - (IntKind.u64.wrap x))))
  (nn (IntKind.u64.wrap x)).bind fun _ =>
  let un1:=shrK .u64 (shlK .u64 lo (IntKind.u64.wrap x)) 32
  let un0:=andK .u64 (shlK .u64 lo (IntKind.u64.wrap x)) 4294967295
  (nz yn1).bind fun _ =>
  let rhat:=IntKind.u64.wrap (un32 - (IntKind.u64.wrap ((IntKind.u64.wrap (Int.tdiv un32 yn1)) * yn1)))
  (loop (qf yn1 yn0 un1) (IntKind.u64.wrap (Int.tdiv un32 yn1),rhat)).bind fun q1 =>
  let un21:=IntKind.u64.wrap ((IntKind.u64.wrap ((IntKind.u64.wrap (un32 * 4294967296)) + un1)) - (IntKind.u64.wrap (q1 * (shlK .u64 y (IntKind.u64.wrap x)))))
  (nz yn1).bind fun _ =>
  let rhat1:=IntKind.u64.wrap (un21 - (IntKind.u64.wrap ((IntKind.u64.wrap (Int.tdiv un21 yn1)) * yn1)))
  (loop (pY yn1 yn0 un0) (rhat1,IntKind.u64.wrap (Int.tdiv un21 yn1))).bind fun q0 =>
  (nn (IntKind.u64.wrap x)).bind fun _ =>
  let quo:=IntKind.u64.wrap ((IntKind.u64.wrap (q1 * 4294967296)) + q0)
  let rem:=shrK .u64 (IntKind.u64.wrap ((IntKind.u64.wrap ((IntKind.u64.wrap (un21 * 4294967296)) + un0)) - (IntKind.u64.wrap (q0 * (shlK .u64 y (IntKind.u64.wrap x)))))) (IntKind.u64.wrap x)
  some (quo,rem)
def h272 : Hint:=(.s .z (.s .z (.s .z (.s .z (.s .z (.s .z (.s .z (.s .z (.s .z (.s .z (.s .z (.s .z (.s .z (.s .z (.s (.b (.l [(15,.v (.int .u64) []),(16,.v (.int .u64) [])] [15,16,78] [(2,[(15,.v (.int .u64) [])])] (.s (.s (.j [] [(0,[(78,.v .bool [])])] .z) .z) .z))) (.s .z (.s .z (.s .z (.s (.b (.l [(16,.v (.int .u64) []),(18,.v (.int .u64) [])] [16,18,113] [(4,[(18,.v (.int .u64) [])])] (.s (.s (.j [] [(0,[(113,.v .bool [])])] .z) .z) .z))) .z)))))))))))))))))))
def sp272 : Spec fam:=⟨[.v (.int .u64) [],.v (.int .u64) [],.v (.int .u64) []],[.v (.int .u64) [],.v (.int .u64) []],fun a => qV a.1 a.2.1 a.2.2.1⟩
def pD (n : Int) (bp : Int) : Option Int :=
 (qB (IntKind.u64.wrap n) (IntKind.u64.wrap bp)).bind fun x =>
 (qV x.1 x.2 10000).bind fun x1 =>
 some (w64 x1.1)
def h253 : Hint:=.z
def sp253 : Spec fam:=⟨[.v (.int .i64) [],.v (.int .i64) []],[.v (.int .i64) []],fun a => pD a.1 a.2.1⟩
def qM (a : Vec) (bp : Int) : Option (Vec × Int) :=
 (
 (eB a).bind fun x =>
 bif ! x then
  some true
 else
  bif decide (bp < 0) then
  some true
  else
  some (decide (bp > 1000000))).bind fun q =>
 bif q then
 some ((⟨0,0⟩ : Vec),1)
 else
 (pD a.Mem bp).bind fun x1 =>
 (pD a.Cores bp).bind fun x2 =>
 (pu (⟨x1,x2⟩ : Vec)).bind fun x3 =>
 some (x3.1,x3.2)
def h229 : Hint:=(.s .z (.s (.s (.j [] [(0,[(16,.v .bool [])])] .z) .z) .z))
def sp229 : Spec fam:=⟨[.v (.st 0) [],.v (.int .i64) []],[.v (.st 0) [],.v (.int .i64) []],fun a => qM a.1 a.2.1⟩
def qb (s : State) (label : Int) (part : (TupT fam [.st 1] → Option Int)) (up : List (List UInt8)) (t : Vec × Vec × Int) : Option ((Vec × Vec × Int) ⊕ (Vec ⊕ (Vec × Vec))) :=
 bif decide (t.2.2 ≥ 0) then
 (inb t.2.2 up.length).bind fun i1 =>
 (up[i1]?).bind fun x2 =>
 (pG s.Conf x2).bind fun x3 =>
 (
  bif ! x3.2 then
  some true
  else
  bif decide (label < 0) then
   some true
  else
   some (decide (label ≥ (x3.1.Caps.length : Int)))).bind fun q =>
 bif q then
  some (.inr (.inl (⟨0,0⟩ : Vec)))
 else
  (inb label x3.1.Caps.length).bind fun i2 =>
  (x3.1.Caps[i2]?).bind fun x4 =>
  (part (x4,())).bind fun r =>
  (qM t.2.1 r).bind fun x5 =>
  some (.inl (t.1,x5.1,w64 (t.2.2 - 1)))
 else
 some (.inr (.inr (t.1,t.2.1)))
def ng (s : State) (path : List UInt8) (label : Int) (part : (TupT fam [.st 1] → Option Int)) : Option Vec :=
 (wT path).bind fun up =>
 (pG s.Conf path).bind fun x =>
 bif ! x.2 then
 some (⟨0,0⟩ : Vec)
 else
 (kn s label).bind fun x1 =>
 let i:=w64 ((up.length : Int) - 2)
 (loop (qb s label part up) ((⟨0,0⟩ : Vec),x1,i)).bind fun q0 =>
 match q0 with
 | .inl q1 =>
  some q1
 | .inr q2 =>
  some q2.2
def h197 : Hint:=(.s .z (.s .z (.s .z (.s .z (.s (.s .z (.b (.l [(8,.box (.st 0) []),(12,.box (.st 0) []),(13,.v (.int .i64) [])] [8,12,13,14,60] [(1,[(8,.box (.st 0) [])]),(2,[(8,.box (.st 0) []),(12,.box (.st 0) [])])] (.s .z (.s (.b (.s .z (.s (.s (.j [] [(0,[(60,.v .bool [])])] .z) .z) .z))) .z))))) .z)))))
def sp197 : Spec fam:=⟨[.v (.st 10) [],.v .str [],.v (.int .i64) [],.fn [.st 1] (.int .i64)],[.v (.st 0) []],fun a => ng a.1 a.2.1 a.2.2.1 a.2.2.2.1⟩
def eQ (c : Cap) : Option Int :=
 some c.Least
def h198 : Hint:=.z
def sp198 : Spec fam:=⟨[.v (.st 1) []],[.v (.int .i64) []],fun a => eQ a.1⟩
def md (s : State) (path : List UInt8) (label : Int) : Option Vec :=
 (ng s path label (fun a' => eQ a'.1)).bind fun x =>
 some x
def h143 : Hint:=.z
def sp143 : Spec fam:=⟨[.v (.st 10) [],.v .str [],.v (.int .i64) []],[.v (.st 0) []],fun a => md a.1 a.2.1 a.2.2.1⟩
def pE (a : App) : Option Bool :=
 bif a.State == 1 then
 some true
 else
 some (a.State == 2)
def h144 : Hint:=.z
def sp144 : Spec fam:=⟨[.v (.st 6) []],[.v .bool []],fun a => pE a.1⟩
def dl (s : List Int) (f : (TupT fam [.int .i64] → Option Bool)) (t : Int) : Option (Int ⊕ (Int ⊕ Unit)) :=
 bif decide (t < (s.length : Int)) then
 (idx s t).bind fun x =>
 (f (x,())).bind fun r =>
 bif r then
  some (.inr (.inl t))
 else
  some (.inl (w64 (t + 1)))
 else
 some (.inr (.inr ()))
def cz (s : List Int) (f : (TupT fam [.int .i64] → Option Bool)) : Option Int :=
 (loop (dl s f) 0).bind fun q0 =>
 match q0 with
 | .inl q =>
 some q
 | .inr _ =>
 some (-1)
def h279 : Hint:=(.s .z (.s (.s .z (.b (.l [(8,.v (.int .i64) [])] [4,5,8] [(1,[(4,.v (.int .i64) [])]),(2,[])] .z))) .z))
def sp279 : Spec fam:=⟨[.v (.slice (.int .i64)) [],.fn [.int .i64] .bool],[.v (.int .i64) []],fun a => cz a.1 a.2.1⟩
def bN (s : List Int) (f : (TupT fam [.int .i64] → Option Bool)) : Option Bool :=
 (cz s f).bind fun x =>
 some (decide (x ≥ 0))
def h273 : Hint:=.z
def sp273 : Spec fam:=⟨[.v (.slice (.int .i64)) [],.fn [.int .i64] .bool],[.v .bool []],fun a => bN a.1 a.2.1⟩
def qW (n : Int) (p : Int) (p1 : Int) : Option Bool :=
 bif decide (n < p) then
 some true
 else
 some (decide (n > p1))
def h274 : Hint:=.z
def sp274 : Spec fam:=⟨[.v (.int .i64) [],.rp (.int .i64),.rp (.int .i64)],[.v .bool []],fun a => qW a.1 a.2.1 a.2.2.1⟩
def rZ (least : Int) (most : Int) (l : List Int) : Option Bool :=
 (bN l (fun a' => qW a'.1 least most)).bind fun x =>
 some (! x)
def h254 : Hint:=.z
def sp254 : Spec fam:=⟨[.v (.int .i64) [],.v (.int .i64) [],.v (.slice (.int .i64)) []],[.v .bool []],fun a => rZ a.1 a.2.1 a.2.2.1⟩
def nX (l : List Ask) (label : Int) (t : Vec × Int) : Option ((Vec × Int) ⊕ Vec) :=
 bif decide (t.2 < (l.length : Int)) then
 (
  (idx l t.2).bind fun x =>
  (
  bif x.Label == label then
   (rZ 0 1125899906842624 [x.Size.Mem,x.Size.Cores]).bind fun x1 =>
   bif x1 then
   (rZ 0 50 [x.Count]).bind fun x2 =>
   some x2
   else
   some false
  else
   some false).bind fun q =>
  bif q then
  some (⟨w64 (t.1.Mem + (w64 (x.Size.Mem * x.Count))),w64 (t.1.Cores + (w64 (x.Size.Cores * x.Count)))⟩ : Vec)
  else
  some t.1).bind fun out =>
 some (.inl (out,w64 (t.2 + 1)))
 else
 some (.inr t.1)
def m6 (l : List Ask) (label : Int) : Option Vec :=
 (loop (nX l label) ((⟨0,0⟩ : Vec),0)).bind fun out1 =>
 some out1
def h230 : Hint:=(.s .z (.s .z (.s (.s .z (.b (.l [(5,.box (.st 0) []),(10,.v (.int .i64) [])] [5,7,10,33] [(2,[(5,.box (.st 0) [])])] (.s .z (.s .z (.s (.j [5,7,33] [(0,[(5,.box (.st 0) [])])] (.b (.s .z (.s (.j [] [(0,[(33,.v .bool [])])] .z) .z)))) .z)))))) .z)))
def sp230 : Spec fam:=⟨[.v (.slice (.st 5)) [],.v (.int .i64) []],[.v (.st 0) []],fun a => m6 a.1 a.2.1⟩
def iW (v : View) (t : Vec × Int) : Option ((Vec × Int) ⊕ Vec) :=
 bif decide (t.2 < (v.s.Apps.length : Int)) then
 (
  (idx v.s.Apps t.2).bind fun x =>
  (
  (pE x).bind fun x1 =>
  bif x1 then
   (iM v x).bind fun x2 =>
   some x2
  else
   some false).bind fun q =>
  bif q then
  (m6 x.Asks v.label).bind fun x3 =>
  (oK t.1 x3).bind fun x4 =>
  some x4.1
  else
  some t.1).bind fun out =>
 some (.inl (out,w64 (t.2 + 1)))
 else
 some (.inr t.1)
def gX (v : View) : Option Vec :=
 (loop (iW v) ((⟨0,0⟩ : Vec),0)).bind fun out1 =>
 some out1
def h199 : Hint:=(.s .z (.s .z (.s (.s .z (.b (.l [(3,.box (.st 0) []),(10,.v (.int .i64) [])] [3,5,10,20] [(2,[(3,.box (.st 0) [])])] (.s .z (.s .z (.s (.j [3,5,20] [(0,[(3,.box (.st 0) [])])] (.b (.s .z (.s (.j [] [(0,[(20,.v .bool [])])] .z) .z)))) .z)))))) .z)))
def sp199 : Spec fam:=⟨[.v (.st 17) []],[.v (.st 0) []],fun a => gX a.1⟩
def kg (s : State) (path : List UInt8) (label : Int) : Option Vec :=
 (gX (⟨⟨⟨s.Conf.Labels,s.Conf.Queues⟩,s.Nodes,s.Apps,s.Conts,s.Slots,s.Plans,s.Now,s.Epoch,s.Seq⟩,path,label,(-1)⟩ : View)).bind fun x =>
 some x
def h145 : Hint:=.z
def sp145 : Spec fam:=⟨[.v (.st 10) [],.v .str [],.v (.int .i64) []],[.v (.st 0) []],fun a => kg a.1 a.2.1 a.2.2.1⟩
def q_ (c : Conf) (path : List UInt8) (t : List (List UInt8) × Int) : Option ((List (List UInt8) × Int) ⊕ List (List UInt8)) :=
 bif decide (t.2 < (c.Queues.length : Int)) then
 (
  (idx c.Queues t.2).bind fun x =>
  (nH x.Path).bind fun x1 =>
  (
  bif x1.2 then
   some (x1.1 == path)
  else
   some false).bind fun q =>
  bif q then
  (app 16 t.1 [x.Path]).bind fun l =>
  some l
  else
  some t.1).bind fun out =>
 some (.inl (out,w64 (t.2 + 1)))
 else
 some (.inr t.1)
def sM (c : Conf) (path : List UInt8) : Option (List (List UInt8)) :=
 (loop (q_ c path) ([],0)).bind fun out1 =>
 some out1
def h189 : Hint:=(.s .z (.s .z (.s (.s .z (.b (.l [(5,.v (.slice (.str)) [0]),(13,.v (.int .i64) [])] [5,7,8,9,13,28] [(2,[(5,.v (.slice (.str)) [0])])] (.s .z (.s .z (.s (.j [5,7,8,9,28] [(0,[(5,.v (.slice (.str)) [0])])] (.b (.s .z (.s .z (.s (.j [] [(0,[(28,.v .bool [])])] .z) .z))))) .z)))))) .z)))
def sp189 : Spec fam:=⟨[.v (.st 3) [],.v .str []],[.v (.slice (.str)) [0]],fun a => sM a.1 a.2.1⟩
def fZ (c : Cap) : Option Int :=
 some c.Most
def h221 : Hint:=.z
def sp221 : Spec fam:=⟨[.v (.st 1) []],[.v (.int .i64) []],fun a => fZ a.1⟩
def qQ (s : State) (path : List UInt8) (label : Int) : Option Vec :=
 (ng s path label (fun a' => fZ a'.1)).bind fun x =>
 some x
def h190 : Hint:=.z
def sp190 : Spec fam:=⟨[.v (.st 10) [],.v .str [],.v (.int .i64) []],[.v (.st 0) []],fun a => qQ a.1 a.2.1 a.2.2.1⟩
def nC (l : List Int) (t : Int × Int) : Option ((Int × Int) ⊕ Int) :=
 bif decide (t.2 < (l.length : Int)) then
 (idx l t.2).bind fun x =>
 some (.inl (imin t.1 x,w64 (t.2 + 1)))
 else
 some (.inr t.1)
def fI (first : Int) (l : List Int) : Option Int :=
 (loop (nC l) (first,0)).bind fun first1 =>
 some first1
def h222 : Hint:=(.s .z (.s (.s .z (.b (.l [(0,.v (.int .i64) []),(9,.v (.int .i64) [])] [0,6,9] [(2,[(0,.v (.int .i64) [])])] .z))) .z))
def sp222 : Spec fam:=⟨[.v (.int .i64) [],.v (.slice (.int .i64)) []],[.v (.int .i64) []],fun a => fI a.1 a.2.1⟩
def eZ (n : Int) : Option Int :=
 (
 bif decide (n < 0) then
  some true
 else
  some (decide (n > 1125899906842624))).bind fun q =>
 bif q then
 some 0
 else
 some n
def h223 : Hint:=(.s .z (.s (.s (.j [] [(0,[(8,.v .bool [])])] .z) .z) .z))
def sp223 : Spec fam:=⟨[.v (.int .i64) []],[.v (.int .i64) []],fun a => eZ a.1⟩
def oQ (want : List Int) (most : List Int) (n : Int) (t1 : List Int × Int × Int) : Option ((List Int × Int × Int) ⊕ List Int) :=
 bif decide (t1.2.2 < n) then
 (idx want t1.2.2).bind fun x9 =>
 (eZ x9).bind fun x10 =>
 (idx most t1.2.2).bind fun x11 =>
 (eZ x11).bind fun x12 =>
 (fI x10 [x12]).bind fun x13 =>
 (inb t1.2.2 t1.1.length).bind fun i2 =>
 (t1.1[i2]?).bind fun x14 =>
 (fI (imax (w64 (x13 - x14)) 0) [t1.2.1]).bind fun more =>
 (inb t1.2.2 t1.1.length).bind fun i3 =>
 (t1.1[i3]?).bind fun x15 =>
 (inb t1.2.2 t1.1.length).bind fun i4 =>
 (t1.1[i4]?).bind fun x16 =>
 some (.inl (List.set t1.1 i4 (w64 (x15 + more)),w64 (t1.2.1 - more),w64 (t1.2.2 + 1)))
 else
 some (.inr t1.1)
def oN (least : List Int) (want : List Int) (most : List Int) (n : Int) (t : List Int × Int × Int) : Option ((List Int × Int × Int) ⊕ ((List Int × Int))) :=
 bif decide (t.2.2 < n) then
 (idx least t.2.2).bind fun x =>
 (eZ x).bind fun x1 =>
 (idx want t.2.2).bind fun x2 =>
 (eZ x2).bind fun x3 =>
 (idx most t.2.2).bind fun x4 =>
 (eZ x4).bind fun x5 =>
 (fI x1 [x3,x5,t.2.1]).bind fun x6 =>
 (inb t.2.2 t.1.length).bind fun i =>
 (t.1[i]?).bind fun x7 =>
 (inb t.2.2 (List.set t.1 i x6).length).bind fun i1 =>
 ((List.set t.1 i x6)[i1]?).bind fun x8 =>
 some (.inl (List.set t.1 i x6,w64 (t.2.1 - x8),w64 (t.2.2 + 1)))
 else
 some (.inr (t.1,t.2.1))
def pe (total : Int) (least : List Int) (want : List Int) (most : List Int) : Option (List Int) :=
 (fI (least.length : Int) [(want.length : Int),(most.length : Int)]).bind fun n =>
 (mkl 8 n n 0).bind fun l =>
 (eZ total).bind fun left =>
 (loop (oN least want most n) (l,left,0)).bind fun q =>
 (loop (oQ want most n) (q.1,q.2,0)).bind fun out =>
 some out
def h191 : Hint:=(.s .z (.s .z (.s .z (.s .z (.s (.s .z (.b (.l [(10,.row (.int .i64) false),(11,.v (.int .i64) []),(28,.v (.int .i64) [])] [10,11,12,28,29,30,31,32,33,34,35,36,37,38,39,40,41,42,43,44,45,46,47,48,49,50,51,52,53,54,55,56,57,58] [(2,[(10,.row (.int .i64) false),(11,.v (.int .i64) [])])] .z))) (.s (.s .z (.b (.l [(10,.row (.int .i64) false),(11,.v (.int .i64) []),(60,.v (.int .i64) [])] [10,11,13,14,60] [(4,[(10,.row (.int .i64) false)])] .z))) .z))))))
def sp191 : Spec fam:=⟨[.v (.int .i64) [],.v (.slice (.int .i64)) [],.v (.slice (.int .i64)) [],.v (.slice (.int .i64)) []],[.v (.slice (.int .i64)) [0]],fun a => pe a.1 a.2.1 a.2.2.1 a.2.2.2.1⟩
def mI (s : State) (label : Int) (deep : Int) (self : State → (List UInt8) → Int → Int → Int → Option (List Share)) (kids : List (List UInt8)) (x5 : List Int) (t1 : List Share × Int) : Option ((List Share × Int) ⊕ List Share) :=
 bif decide (t1.2 < (x5.length : Int)) then
 (inb t1.2 x5.length).bind fun i1 =>
 (x5[i1]?).bind fun x6 =>
 (inb t1.2 kids.length).bind fun i2 =>
 (kids[i2]?).bind fun x7 =>
 (self s x7 label x6 (w64 (deep + 1))).bind fun x8 =>
 (app 24 t1.1 x8).bind fun l3 =>
 some (.inl (l3,w64 (t1.2 + 1)))
 else
 some (.inr t1.1)
def mC (s : State) (label : Int) (kids : List (List UInt8)) (t : Rows3_ListInt × Int) : Option ((Rows3_ListInt × Int) ⊕ Rows3_ListInt) :=
 bif decide (t.2 < (kids.length : Int)) then
 (inb t.2 kids.length).bind fun i =>
 (kids[i]?).bind fun x =>
 (md s x label).bind fun x1 =>
 (gS s x label).bind fun x2 =>
 (kg s x label).bind fun x3 =>
 (qQ s x label).bind fun x4 =>
 (inS t.2 (t.1.r0.length : Int) t.1.r0.length).bind fun p =>
 (inS 0 1 [x1.Mem,w64 (x2.Mem + x3.Mem),x4.Mem].length).bind fun p1 =>
 (inS t.2 (t.1.r1.length : Int) t.1.r1.length).bind fun p2 =>
 (inS 1 2 [x1.Mem,w64 (x2.Mem + x3.Mem),x4.Mem].length).bind fun p3 =>
 (inS t.2 (t.1.r2.length : Int) t.1.r2.length).bind fun p4 =>
 (inS 2 3 [x1.Mem,w64 (x2.Mem + x3.Mem),x4.Mem].length).bind fun p5 =>
 some (.inl ((⟨cpy t.1.r0 p.1 p.2 (sub [x1.Mem,w64 (x2.Mem + x3.Mem),x4.Mem] p1.1 p1.2),cpy t.1.r1 p2.1 p2.2 (sub [x1.Mem,w64 (x2.Mem + x3.Mem),x4.Mem] p3.1 p3.2),cpy t.1.r2 p4.1 p4.2 (sub [x1.Mem,w64 (x2.Mem + x3.Mem),x4.Mem] p5.1 p5.2)⟩ : Rows3_ListInt),w64 (t.2 + 1)))
 else
 some (.inr t.1)
def qm (self : State → (List UInt8) → Int → Int → Int → Option (List Share)) (s : State) (path : List UInt8) (label : Int) (mem : Int) (deep : Int) : Option (List Share) :=
 (sM s.Conf path).bind fun kids =>
 (
 bif (kids.length : Int) == 0 then
  some true
 else
  some (decide (deep > 4))).bind fun q =>
 bif q then
 some [(⟨path,mem⟩ : Share)]
 else
 (mkl 8 (kids.length : Int) (kids.length : Int) 0).bind fun l =>
 (mkl 8 (kids.length : Int) (kids.length : Int) 0).bind fun l1 =>
 (mkl 8 (kids.length : Int) (kids.length : Int) 0).bind fun l2 =>
 (loop (mC s label kids) ((⟨l,l1,l2⟩ : Rows3_ListInt),0)).bind fun rows =>
 (pe mem rows.r0 rows.r1 rows.r2).bind fun x5 =>
 (loop (mI s label deep self kids x5) ([],0)).bind fun out =>
 some out
def kf : Nat → State → (List UInt8) → Int → Int → Int → Option (List Share)
 | 0 => fun _ _ _ _ _ => none
 | n + 1 => qm (kf n)
def pm (a0 : State) (a1 : List UInt8) (a2 : Int) (a3 : Int) (a4 : Int) : Option (List Share):=kf 64 a0 a1 a2 a3 a4
def h140 : Hint:=(.s .z (.s .z (.s (.s (.j [25,26,27,28,29,30,31] [(0,[(31,.v .bool [])])] .z) .z) (.s .z (.s (.s .z (.b (.u 4 .z))) (.s (.s .z (.b (.l [(12,.box (.st 19) [5003,0,1,2]),(51,.v (.int .i64) [])] [12,14,15,16,17,51,52,53,54,55,56,57,58,59,60,61,62,63,64,65,66,67,68,69,70,71,72,73,74,75,76,77,78,79,80,81,82,83,84,85,86,87,88,89,90,91,92,93,94,95,96] [(4,[(12,.box (.st 19) [5003,0,1,2])])] (.s .z (.s .z (.s (.b (.s .z (.s .z (.s .z (.b (.u 4 .z)))))) .z)))))) (.s .z (.s (.s .z (.b (.l [(18,.v (.slice (.st 16)) [0]),(109,.v (.int .i64) [])] [18,19,20,109] [(8,[(18,.v (.slice (.st 16)) [0])])] .z))) .z))))))))
def sp140 : Spec fam:=⟨[.v (.st 10) [],.v .str [],.v (.int .i64) [],.v (.int .i64) [],.v (.int .i64) []],[.v (.slice (.st 16)) [0]],fun a => pm a.1 a.2.1 a.2.2.1 a.2.2.2.1 a.2.2.2.2.1⟩
def ub (n : Nat) : Spec fam:=⟨[.v (.st 10) [],.v .str [],.v (.int .i64) [],.v (.int .i64) [],.v (.int .i64) []],[.v (.slice (.st 16)) [0]],fun a => kf n a.1 a.2.1 a.2.2.1 a.2.2.2.1 a.2.2.2.2.1⟩
def i_ (s : State) (label : Int) : Option (List Share) :=
 (kn s label).bind fun x =>
 (pm s ([114,111,111,116] : List UInt8) label x.Mem 1).bind fun x1 =>
 some x1
def h81 : Hint:=.z
def sp81 : Spec fam:=⟨[.v (.st 10) [],.v (.int .i64) []],[.v (.slice (.st 16)) [0]],fun a => i_ a.1 a.2.1⟩
def tv (s : List App) (f : (TupT fam [.st 6] → Option Bool)) (t : Int) : Option (Int ⊕ (Int ⊕ Unit)) :=
 bif decide (t < (s.length : Int)) then
 (idx s t).bind fun x =>
 (f (x,())).bind fun r =>
 bif r then
  some (.inr (.inl t))
 else
  some (.inl (w64 (t + 1)))
 else
 some (.inr (.inr ()))
def u_ (s : List App) (f : (TupT fam [.st 6] → Option Bool)) : Option Int :=
 (loop (tv s f) 0).bind fun q0 =>
 match q0 with
 | .inl q =>
 some q
 | .inr _ =>
 some (-1)
def h160 : Hint:=(.s .z (.s (.s .z (.b (.l [(8,.v (.int .i64) [])] [4,5,8] [(1,[(4,.v (.int .i64) [])]),(2,[])] .z))) .z))
def sp160 : Spec fam:=⟨[.v (.slice (.st 6)) [],.fn [.st 6] .bool],[.v (.int .i64) []],fun a => u_ a.1 a.2.1⟩
def sQ (a : App) (p : Int) : Option Bool :=
 some (a.Id == p)
def h161 : Hint:=.z
def sp161 : Spec fam:=⟨[.v (.st 6) [],.rp (.int .i64)],[.v .bool []],fun a => sQ a.1 a.2.1⟩
def t_ (s : State) (id_ : Int) : Option Int :=
 (u_ s.Apps (fun a' => sQ a'.1 id_)).bind fun x =>
 some x
def h97 : Hint:=.z
def sp97 : Spec fam:=⟨[.v (.st 10) [],.v (.int .i64) []],[.v (.int .i64) []],fun a => t_ a.1 a.2.1⟩
def B4 (s : List Ask) : Option (List Ask) :=
 bif s.isEmpty then
 none
 else
 (app 64 [] s).bind fun l =>
 some l
def uU (s : List Ask) : Option (List Ask):=app 64 [] s
def h195 : Hint:=.z
def sp195 : Spec fam:=⟨[.v (.slice (.st 5)) []],[.v (.slice (.st 5)) [0]],fun a => uU a.1⟩
def Fl : Spec fam:=⟨[.v (.slice (.st 5)) []],[.v (.slice (.st 5)) [0]],fun a => B4 a.1⟩
def kZ (l : List Int) : Option (List Int) :=
 (mkl 8 (l.length : Int) (l.length : Int) 0).bind fun l1 =>
 some (cpy l1 0 l1.length l)
def h196 : Hint:=.z
def sp196 : Spec fam:=⟨[.v (.slice (.int .i64)) []],[.v (.slice (.int .i64)) [0]],fun a => kZ a.1⟩
def sk (a : App) : Option App :=
 (uU a.Asks).bind fun x =>
 (kZ a.Grants).bind fun x1 =>
 (kZ a.Kills).bind fun x2 =>
 (kZ a.Told).bind fun x3 =>
 (kZ a.Lost).bind fun x4 =>
 some (⟨a.Id,a.State,a.Queue,a.User,a.Prio,⟨a.Master.Mem,a.Master.Cores⟩,x,a.Seen,a.Beat,x1,x2,x3,x4⟩ : App)
def h142 : Hint:=.z
def sp142 : Spec fam:=⟨[.v (.st 6) []],[.v (.st 6) [7,10,11,12,13,9999]],fun a => sk a.1⟩
def pL (s : State) (id_ : Int) : Option (App × Bool) :=
 (t_ s id_).bind fun i =>
 bif decide (i < 0) then
 some ((⟨0,0,[],0,0,⟨0,0⟩,[],0,0,[],[],[],[]⟩ : App),false)
 else
 (idx s.Apps i).bind fun x =>
 (sk x).bind fun x1 =>
 some (x1,true)
def h83 : Hint:=.z
def sp83 : Spec fam:=⟨[.v (.st 10) [],.v (.int .i64) []],[.v (.st 6) [7,10,11,12,13,9999],.v .bool []],fun a => pL a.1 a.2.1⟩
def n7 (s : State) (label : Int) (t1 : Looker × Int) : Option ((Looker × Int) ⊕ Looker) :=
 bif decide (t1.2 < (s.Conts.length : Int)) then
 (
  (idx s.Conts t1.2).bind fun x4 =>
  bif x4.Label != label then
  some t1.1
  else
  (pL s x4.App).bind fun x5 =>
  bif x4.Notice != 0 then
   (cY (⟨⟨⟨t1.1.s.Conf.Labels,t1.1.s.Conf.Queues⟩,t1.1.s.Nodes,t1.1.s.Apps,t1.1.s.Conts,t1.1.s.Slots,t1.1.s.Plans,t1.1.s.Now,t1.1.s.Epoch,t1.1.s.Seq⟩,t1.1.label,t1.1.over,mput (fun x6 => x4.Id == x6.k) t1.1.leaf (⟨x4.Id,x5.1.Queue⟩ : Ent2_IntListUInt8),t1.1.noticed,t1.1.gone⟩ : Looker) x4).bind fun x7 =>
   some x7
  else
   some (⟨⟨⟨t1.1.s.Conf.Labels,t1.1.s.Conf.Queues⟩,t1.1.s.Nodes,t1.1.s.Apps,t1.1.s.Conts,t1.1.s.Slots,t1.1.s.Plans,t1.1.s.Now,t1.1.s.Epoch,t1.1.s.Seq⟩,t1.1.label,t1.1.over,mput (fun x6 => x4.Id == x6.k) t1.1.leaf (⟨x4.Id,x5.1.Queue⟩ : Ent2_IntListUInt8),t1.1.noticed,t1.1.gone⟩ : Looker)).bind fun k1 =>
 some (.inl (k1,w64 (t1.2 + 1)))
 else
 some (.inr t1.1)
def m_ (s : State) (label : Int) (x : List Share) (t : Looker × Int) : Option ((Looker × Int) ⊕ Looker) :=
 bif decide (t.2 < (x.length : Int)) then
 (inb t.2 x.length).bind fun i =>
 (x[i]?).bind fun x1 =>
 (gS s x1.Path label).bind fun x2 =>
 some (.inl ((⟨⟨⟨t.1.s.Conf.Labels,t.1.s.Conf.Queues⟩,t.1.s.Nodes,t.1.s.Apps,t.1.s.Conts,t.1.s.Slots,t.1.s.Plans,t.1.s.Now,t.1.s.Epoch,t.1.s.Seq⟩,t.1.label,mput (fun x3 => x1.Path == x3.k) t.1.over (⟨x1.Path,w64 (x2.Mem - x1.Mem)⟩ : Ent0_ListUInt8Int),t.1.leaf,t.1.noticed,t.1.gone⟩ : Looker),w64 (t.2 + 1)))
 else
 some (.inr t.1)
def nt (s : State) (label : Int) : Option Looker :=
 (i_ s label).bind fun x =>
 (loop (m_ s label x) ((⟨⟨⟨s.Conf.Labels,s.Conf.Queues⟩,s.Nodes,s.Apps,s.Conts,s.Slots,s.Plans,s.Now,s.Epoch,s.Seq⟩,label,[],[],[],0⟩ : Looker),0)).bind fun k =>
 (loop (n7 s label) (k,0)).bind fun k2 =>
 some k2
def h31 : Hint:=(.s .z (.s .z (.s (.s .z (.b (.l [(5,.box (.st 18) [11,12,13]),(23,.v (.int .i64) [])] [5,7,14,17,23,24,25,26,27,28,29,30,31,32,33,34,35,36,37,38,39,40,41,42] [(2,[(5,.box (.st 18) [11,12,13])])] .z))) (.s (.s .z (.b (.l [(5,.box (.st 18) [11,12,13]),(46,.v (.int .i64) [])] [5,9,10,11,46] [(4,[(5,.box (.st 18) [11,12,13])])] (.s .z (.s .z (.s (.j [5,9,10,11] [(0,[(5,.box (.st 18) [11,12,13])])] .z) .z)))))) .z))))
def sp31 : Spec fam:=⟨[.v (.st 10) [],.v (.int .i64) []],[.nb (.st 18) [11,12,13]],fun a => nt a.1 a.2.1⟩
def ga (k : Looker) (path : List UInt8) (x : Vec) (x1 : Vec) (x2 : App) (t1 : Int) : Option (Int ⊕ (Int ⊕ Unit)) :=
 bif decide (t1 < (x2.Asks.length : Int)) then
 (idx x2.Asks t1).bind fun x4 =>
 (
  bif x4.Label == k.label then
  some (decide ((w64 (x.Mem + x4.Size.Mem)) ≤ x1.Mem))
  else
  some false).bind fun q1 =>
 bif q1 then
  (kg k.s path k.label).bind fun x5 =>
  some (.inr (.inl (imin x5.Mem (w64 (x1.Mem - x.Mem)))))
 else
  some (.inl (w64 (t1 + 1)))
 else
 some (.inr (.inr ()))
def gh (k : Looker) (path : List UInt8) (x : Vec) (x1 : Vec) (t : Int) : Option (Int ⊕ (Int ⊕ Unit)) :=
 bif decide (t < (k.s.Apps.length : Int)) then
 (
  (idx k.s.Apps t).bind fun x2 =>
  (
  (pE x2).bind fun x3 =>
  bif ! x3 then
   some true
  else
   some (! (x2.Queue == path))).bind fun q =>
  bif q then
  some (.inl ())
  else
  (loop (ga k path x x1 x2) 0).bind fun q0 =>
  match q0 with
  | .inl q2 =>
   some (.inr q2)
  | .inr _ =>
   some (.inl ()) : Option (Unit ⊕ Int)).bind fun q0 =>
 match q0 with
 | .inl _ =>
  some (.inl (w64 (t + 1)))
 | .inr q3 =>
  some (.inr (.inl q3))
 else
 some (.inr (.inr ()))
def eR (k : Looker) (path : List UInt8) : Option (Int × Looker) :=
 (gS k.s path k.label).bind fun x =>
 (md k.s path k.label).bind fun x1 =>
 (loop (gh k path x x1) 0).bind fun q0 =>
 match q0 with
 | .inl q4 =>
 some (q4,k)
 | .inr _ =>
 some (0,k)
def h84 : Hint:=(.s .z (.s .z (.s (.s .z (.b (.l [(37,.v (.int .i64) [])] [4,8,10,37,38,39,40,41,42,43,44,45,46,47,48,49,50,51,52,53,74] [(1,[(4,.v (.int .i64) [])]),(2,[])] (.s .z (.s .z (.s (.j [4,8,10,39,40,41,42,43,44,45,46,47,48,49,50,51,52,53,74] [(0,[]),(1,[(4,.v (.int .i64) [])])] (.b (.s .z (.s (.s (.j [41,42,43,44,45,46,47,48,49] [(0,[(49,.v .bool [])])] .z) .z) (.s .z (.b (.l [(53,.v (.int .i64) [])] [4,10,53,74] [(1,[(4,.v (.int .i64) [])]),(4,[])] (.s .z (.s .z (.s (.b (.s .z (.s (.j [] [(0,[(74,.v .bool [])])] .z) .z))) .z)))))))))) .z)))))) .z)))
def sp84 : Spec fam:=⟨[.box (.st 18) [11,12,13],.v .str []],[.v (.int .i64) []],fun a => eR a.1 a.2.1⟩
def ij (x : List Share) (t : Looker × Int × Int) : Option ((Looker × Int × Int) ⊕ ((Looker × Int))) :=
 bif decide (t.2.2 < (x.length : Int)) then
 (inb t.2.2 x.length).bind fun i =>
 (x[i]?).bind fun x1 =>
 (eR t.1 x1.Path).bind fun x2 =>
 let sum:=w64 (t.2.1 + x2.1)
 some (.inl (x2.2,sum,w64 (t.2.2 + 1)))
 else
 some (.inr (t.1,t.2.1))
def fT (k : Looker) : Option (Int × Looker) :=
 (i_ k.s k.label).bind fun x =>
 (loop (ij x) (k,0,0)).bind fun q =>
 (kn q.1.s q.1.label).bind fun x3 =>
 (gS q.1.s ([114,111,111,116] : List UInt8) q.1.label).bind fun x4 =>
 some (w64 (q.2 - (imax (w64 (x3.Mem - x4.Mem)) 0)),q.1)
def h32 : Hint:=(.s .z (.s .z (.s .z (.s (.s .z (.b (.l [(0,.box (.st 18) [11,12,13]),(3,.v (.int .i64) []),(19,.v (.int .i64) [])] [0,3,6,19] [(2,[(0,.box (.st 18) [11,12,13]),(3,.v (.int .i64) [])])] .z))) .z))))
def sp32 : Spec fam:=⟨[.box (.st 18) [11,12,13]],[.v (.int .i64) []],fun a => fT a.1⟩
def oU (vals : List Int) (t : Int) : Option (Int ⊕ (Int ⊕ Unit)) :=
 bif decide (t < (vals.length : Int)) then
 (idx vals t).bind fun x =>
 bif x != 0 then
  some (.inr (.inl x))
 else
  some (.inl (w64 (t + 1)))
 else
 some (.inr (.inr ()))
def o9 (vals : List Int) : Option Int :=
 (loop (oU vals) 0).bind fun q0 =>
 match q0 with
 | .inl q =>
 some q
 | .inr _ =>
 some 0
def h86 : Hint:=(.s .z (.s .z (.s (.s .z (.b (.l [(8,.v (.int .i64) [])] [2,5,8] [(1,[(2,.v (.int .i64) [])]),(2,[])] .z))) .z)))
def sp86 : Spec fam:=⟨[.v (.slice (.int .i64)) []],[.v (.int .i64) []],fun a => o9 a.1⟩
def d5 (x : Int) : Option Bool :=
 some (x != x)
def h147 : Hint:=.z
def sp147 : Spec fam:=⟨[.v (.int .i64) []],[.v .bool []],fun a => d5 a.1⟩
def jz (x : Int) (y : Int) : Option Int :=
 (d5 x).bind fun xNaN =>
 (d5 y).bind fun yNaN =>
 bif xNaN then
 bif yNaN then
  some 0
 else
  some (-1)
 else
 bif yNaN then
  some 1
 else
  bif decide (x < y) then
  some (-1)
  else
  bif decide (x > y) then
   some 1
  else
   some 0
def h87 : Hint:=.z
def sp87 : Spec fam:=⟨[.v (.int .i64) [],.v (.int .i64) []],[.v (.int .i64) []],fun a => jz a.1 a.2.1⟩
def eL (x : List UInt8) : Option Bool :=
 some (! (x == x))
def h148 : Hint:=.z
def sp148 : Spec fam:=⟨[.v .str []],[.v .bool []],fun a => eL a.1⟩
def fN (x : List UInt8) (y : List UInt8) : Option Int :=
 (eL x).bind fun xNaN =>
 (eL y).bind fun yNaN =>
 bif xNaN then
 bif yNaN then
  some 0
 else
  some (-1)
 else
 bif yNaN then
  some 1
 else
  bif Op.bytesLess x y then
  some (-1)
  else
  bif ! (strLe x y) then
   some 1
  else
   some 0
def h88 : Hint:=.z
def sp88 : Spec fam:=⟨[.v .str [],.v .str []],[.v (.int .i64) []],fun a => fN a.1 a.2.1⟩
def ig (k : Looker) (_ob : Obj) (found : List UInt8) (e4 : Ent1_ListUInt8Cont) : Option (List UInt8) :=
 (
 bif found == ([] : List UInt8) then
  some true
 else
  let e5:=mget (fun x6 => found == x6.k) k.over (⟨found,0⟩ : Ent0_ListUInt8Int)
  let e6:=mget (fun x7 => e4.k == x7.k) k.over (⟨e4.k,0⟩ : Ent0_ListUInt8Int)
  (jz e5.v e6.v).bind fun x8 =>
  (fN e4.k found).bind fun x9 =>
  (o9 [x8,x9]).bind fun x10 =>
  some (decide (x10 < 0))).bind fun q2 =>
 bif q2 then
 some e4.k
 else
 some found
def ir (k : Looker) (t : List Ent1_ListUInt8Cont × Int) : Option ((List Ent1_ListUInt8Cont × Int) ⊕ List Ent1_ListUInt8Cont) :=
 bif decide (t.2 < (k.s.Conts.length : Int)) then
 (
  (idx k.s.Conts t.2).bind fun x =>
  let e:=mget (fun x1 => x.Id == x1.k) k.leaf (⟨x.Id,[]⟩ : Ent2_IntListUInt8)
  let is:=mhas (fun x1 => x.Id == x1.k) k.leaf
  (
  bif ! is then
   some true
  else
   let e1:=mget (fun x2 => x.Id == x2.k) k.noticed (⟨x.Id,0⟩ : Ent4_IntInt)
   bif decide (e1.v > 0) then
   some true
   else
   let e2:=mget (fun x3 => e.v == x3.k) k.over (⟨e.v,0⟩ : Ent0_ListUInt8Int)
   some (decide (e2.v ≤ 0))).bind fun q =>
  bif q then
  some t.1
  else
  let e3:=mget (fun x4 => e.v == x4.k) t.1 (⟨e.v,⟨0,0,0,⟨0,0⟩,0,0,false,0⟩⟩ : Ent1_ListUInt8Cont)
  let has:=mhas (fun x4 => e.v == x4.k) t.1
  (
   bif ! has then
   some true
   else
   bif e3.v.Master then
    bif ! x.Master then
    some true
    else
    bif e3.v.Master == x.Master then
     some (decide (x.Id > e3.v.Id))
    else
     some false
   else
    bif e3.v.Master == x.Master then
    some (decide (x.Id > e3.v.Id))
    else
    some false).bind fun q1 =>
  bif q1 then
   some (mput (fun x5 => e.v == x5.k) t.1 (⟨e.v,⟨x.Id,x.App,x.Node,⟨x.Size.Mem,x.Size.Cores⟩,x.Prio,x.Label,x.Master,x.Notice⟩⟩ : Ent1_ListUInt8Cont))
  else
   some t.1).bind fun best =>
 some (.inl (best,w64 (t.2 + 1)))
 else
 some (.inr t.1)
def fX (k : Looker) : Option (Cont × Bool × Looker) :=
 (loop (ir k) ([],0)).bind fun best1 =>
 (rng (ω:=Obj) (fun _ => some ([] : List UInt8)) (ig k) best1).bind fun found1 =>
 let e7:=mget (fun x11 => found1 == x11.k) best1 (⟨found1,⟨0,0,0,⟨0,0⟩,0,0,false,0⟩⟩ : Ent1_ListUInt8Cont)
 let is1:=mhas (fun x11 => found1 == x11.k) best1
 some (e7.v,is1,k)
def h33 : Hint:=(.s .z (.s .z (.s (.s .z (.b (.l [(4,.row (.st 501) false),(22,.v (.int .i64) [])] [4,6,7,8,9,10,15,22,23,24,25,26,27,28,29,30,31,32,33,34,35,36,37,38,39,40,41,42,43,44,45,46,47,48,49,50,51,52,53,54,55,56,57,58,59,60,61,62,63,64,65,66,67,68,69,70,71,72,73,74,75,76,77,78,79,80,81,82,83,84,85,86,87,88,89,90,91] [(2,[(4,.row (.st 501) false)])] (.s .z (.s .z (.s (.j [4,6,7,8,9,10,24,25,26,27,28,29,30,31,32,33,34,35,36,37,38,39,40,41,42,43,44,45,46,47,48,49,50,51,52,53,54,55,56,57,58,59,60,61,62,63,64,65,66,67,68,69,70,71,72,73,74,75,76,77,78,79,80,81,82,83,84,85,86,87,88,89,90] [(0,[(4,.row (.st 501) false)])] (.b (.s .z (.s .z (.s (.s (.j [36,37,38,39,40,41,42,43,44,45,46,47,48,49,50,51,52,53,54,55,56] [(0,[(56,.v .bool [])])] .z) .z) (.s .z (.s (.j [63,64,65,66,67,68,69,70,71,72,73,74,75,76,77,78,79,80,81,82,83,84,85,86,87] [(0,[(87,.v .bool [])])] .z) .z))))))) .z)))))) (.s .z (.s (.g [(11,.v .str [])] [11,12,92,120] (.s (.j [] [(0,[(120,.v .bool [])])] .z) .z)) .z)))))
def sp33 : Spec fam:=⟨[.box (.st 18) [11,12,13]],[.v (.st 7) [],.v .bool []],fun a => fX a.1⟩
def ni (need : Int × Looker) (t : Looker × List Int) : Option ((Looker × List Int) ⊕ List Int) :=
 bif decide (t.1.gone < need.1) then
 (fX t.1).bind fun x =>
 bif ! x.2.1 then
  some (.inr t.2)
 else
  (cY x.2.2 x.1).bind fun x1 =>
  (app 8 t.2 [x.1.Id]).bind fun l =>
  some (.inl (x1,l))
 else
 some (.inr t.2)
def kV (s : State) (label : Int) : Option (List Int) :=
 (nt s label).bind fun k =>
 (fT k).bind fun need =>
 (loop (ni need) (need.2,[])).bind fun out =>
 some out
def h12 : Hint:=(.s .z (.s .z (.s .z (.s .z (.s (.b (.l [(5,.box (.st 18) [11,12,13]),(7,.v (.slice (.int .i64)) [0])] [5,7,8] [(2,[(7,.v (.slice (.int .i64)) [0])])] .z)) .z)))))
def sp12 : Spec fam:=⟨[.v (.st 10) [],.v (.int .i64) []],[.v (.slice (.int .i64)) [0]],fun a => kV a.1 a.2.1⟩
def rE (s : List Cont) (f : (TupT fam [.st 7] → Option Bool)) (t : Int) : Option (Int ⊕ (Int ⊕ Unit)) :=
 bif decide (t < (s.length : Int)) then
 (idx s t).bind fun x =>
 (f (x,())).bind fun r =>
 bif r then
  some (.inr (.inl t))
 else
  some (.inl (w64 (t + 1)))
 else
 some (.inr (.inr ()))
def jx (s : List Cont) (f : (TupT fam [.st 7] → Option Bool)) : Option Int :=
 (loop (rE s f) 0).bind fun q0 =>
 match q0 with
 | .inl q =>
 some q
 | .inr _ =>
 some (-1)
def h42 : Hint:=(.s .z (.s (.s .z (.b (.l [(8,.v (.int .i64) [])] [4,5,8] [(1,[(4,.v (.int .i64) [])]),(2,[])] .z))) .z))
def sp42 : Spec fam:=⟨[.v (.slice (.st 7)) [],.fn [.st 7] .bool],[.v (.int .i64) []],fun a => jx a.1 a.2.1⟩
def xS (s : List Cont) : Option (List Cont) :=
 bif s.isEmpty then
 none
 else
 (app 72 [] s).bind fun l =>
 some l
def j_ (s : List Cont) : Option (List Cont):=app 72 [] s
def h103 : Hint:=.z
def sp103 : Spec fam:=⟨[.v (.slice (.st 7)) []],[.v (.slice (.st 7)) [0]],fun a => j_ a.1⟩
def EO : Spec fam:=⟨[.v (.slice (.st 7)) []],[.v (.slice (.st 7)) [0]],fun a => xS a.1⟩
def mD (s : List (List UInt8)) : Option (List (List UInt8)) :=
 bif s.isEmpty then
 none
 else
 (app 16 [] s).bind fun l =>
 some l
def bW (s : List (List UInt8)) : Option (List (List UInt8)):=app 16 [] s
def h153 : Hint:=.z
def sp153 : Spec fam:=⟨[.v (.slice (.str)) []],[.v (.slice (.str)) [0]],fun a => bW a.1⟩
def E_ : Spec fam:=⟨[.v (.slice (.str)) []],[.v (.slice (.str)) [0]],fun a => mD a.1⟩
def w9 (s : List Queue) : Option (List Queue) :=
 bif s.isEmpty then
 none
 else
 (app 48 [] s).bind fun l =>
 some l
def lA (s : List Queue) : Option (List Queue):=app 48 [] s
def h154 : Hint:=.z
def sp154 : Spec fam:=⟨[.v (.slice (.st 2)) []],[.v (.slice (.st 2)) [0]],fun a => lA a.1⟩
def E3 : Spec fam:=⟨[.v (.slice (.st 2)) []],[.v (.slice (.st 2)) [0]],fun a => w9 a.1⟩
def AO (s : List Node) : Option (List Node) :=
 bif s.isEmpty then
 none
 else
 (app 64 [] s).bind fun l =>
 some l
def sT (s : List Node) : Option (List Node):=app 64 [] s
def h156 : Hint:=.z
def sp156 : Spec fam:=⟨[.v (.slice (.st 4)) []],[.v (.slice (.st 4)) [0]],fun a => sT a.1⟩
def EH : Spec fam:=⟨[.v (.slice (.st 4)) []],[.v (.slice (.st 4)) [0]],fun a => AO a.1⟩
def Bo (s : List Slot) : Option (List Slot) :=
 bif s.isEmpty then
 none
 else
 (app 24 [] s).bind fun l =>
 some l
def sS (s : List Slot) : Option (List Slot):=app 24 [] s
def h157 : Hint:=.z
def sp157 : Spec fam:=⟨[.v (.slice (.st 8)) []],[.v (.slice (.st 8)) [0]],fun a => sS a.1⟩
def FH : Spec fam:=⟨[.v (.slice (.st 8)) []],[.v (.slice (.st 8)) [0]],fun a => Bo a.1⟩
def Bq (s : List Plan) : Option (List Plan) :=
 bif s.isEmpty then
 none
 else
 (app 48 [] s).bind fun l =>
 some l
def sU (s : List Plan) : Option (List Plan):=app 48 [] s
def h158 : Hint:=.z
def sp158 : Spec fam:=⟨[.v (.slice (.st 9)) []],[.v (.slice (.st 9)) [0]],fun a => sU a.1⟩
def Fz : Spec fam:=⟨[.v (.slice (.st 9)) []],[.v (.slice (.st 9)) [0]],fun a => Bq a.1⟩
def yB (s : List App) : Option (List App) :=
 bif s.isEmpty then
 none
 else
 (app 200 [] s).bind fun l =>
 some l
def n_ (s : List App) : Option (List App):=app 200 [] s
def h159 : Hint:=.z
def sp159 : Spec fam:=⟨[.v (.slice (.st 6)) []],[.v (.slice (.st 6)) [0]],fun a => n_ a.1⟩
def EJ : Spec fam:=⟨[.v (.slice (.st 6)) []],[.v (.slice (.st 6)) [0]],fun a => yB a.1⟩
def tz (x9 : List App) (t1 : List App × Nat × Int) : Option ((List App × Nat × Int) ⊕ (List App × Nat × Int)) :=
 bif decide (t1.2.2 < (x9.length : Int)) then
 (inb t1.2.2 t1.1.length).bind fun i2 =>
 bif Nat.ble t1.2.1 i2 then
  (t1.1[i2]?).bind fun x10 =>
  (sk x10).bind fun x11 =>
  (inb t1.2.2 t1.1.length).bind fun i3 =>
  bif Nat.beq i3 t1.2.1 then
  (t1.1[i3]?).bind fun x12 =>
  some (.inl (List.set t1.1 i3 x11,t1.2.1 + 1,w64 (t1.2.2 + 1)))
  else
  none
 else
  none
 else
 some (.inr (t1.1,t1.2.1,t1.2.2))
def tA (x1 : List Queue) (t : List Queue × Nat × Int) : Option ((List Queue × Nat × Int) ⊕ (List Queue × Nat × Int)) :=
 bif decide (t.2.2 < (x1.length : Int)) then
 (inb t.2.2 t.1.length).bind fun i =>
 bif Nat.ble t.2.1 i then
  (t.1[i]?).bind fun x2 =>
  (re x2.Caps).bind fun x3 =>
  (inb t.2.2 t.1.length).bind fun i1 =>
  bif Nat.beq i1 t.2.1 then
  (t.1[i1]?).bind fun x4 =>
  some (.inl (List.set t.1 i1 (⟨x4.Path,x3,x4.User⟩ : Queue),t.2.1 + 1,w64 (t.2.2 + 1)))
  else
  none
 else
  none
 else
 some (.inr (t.1,t.2.1,t.2.2))
def rF (s : State) : Option State :=
 (bW s.Conf.Labels).bind fun x =>
 (lA s.Conf.Queues).bind fun x1 =>
 (loop (tA x1) (x1,0,0)).bind fun q =>
 bif Nat.ble q.1.length q.2.1 then
 (sT s.Nodes).bind fun x5 =>
 (j_ s.Conts).bind fun x6 =>
 (sS s.Slots).bind fun x7 =>
 (sU s.Plans).bind fun x8 =>
 (n_ s.Apps).bind fun x9 =>
 (loop (tz x9) (x9,0,0)).bind fun q1 =>
 bif Nat.ble q1.1.length q1.2.1 then
  some (⟨⟨x,q.1⟩,x5,q1.1,x6,x7,x8,s.Now,s.Epoch,s.Seq⟩ : State)
 else
  none
 else
 none
def h95 : Hint:=(.s .z (.s .z (.s (.s .z (.b (.m 14 23 2 [3,4,24,25,26,27,28,29,30,31,32,33,34,35,36,37] .z))) (.s .z (.s .z (.s (.s .z (.b (.m 56 61 4 [5,6] .z))) .z))))))
def sp95 : Spec fam:=⟨[.v (.st 10) []],[.v (.st 10) [0,1001,2,1003,4,5,6]],fun a => rF a.1⟩
def o_ (c : Cont) (p : Int) : Option Bool :=
 some (c.Id == p)
def h96 : Hint:=.z
def sp96 : Spec fam:=⟨[.v (.st 7) [],.rp (.int .i64)],[.v .bool []],fun a => o_ a.1 a.2.1⟩
def nW (s : List Ask) (f : (TupT fam [.st 5] → Option Bool)) (t : Int) : Option (Int ⊕ (Int ⊕ Unit)) :=
 bif decide (t < (s.length : Int)) then
 (idx s t).bind fun x =>
 (f (x,())).bind fun r =>
 bif r then
  some (.inr (.inl t))
 else
  some (.inl (w64 (t + 1)))
 else
 some (.inr (.inr ()))
def nF (s : List Ask) (f : (TupT fam [.st 5] → Option Bool)) : Option Int :=
 (loop (nW s f) 0).bind fun q0 =>
 match q0 with
 | .inl q =>
 some q
 | .inr _ =>
 some (-1)
def h256 : Hint:=(.s .z (.s (.s .z (.b (.l [(8,.v (.int .i64) [])] [4,5,8] [(1,[(4,.v (.int .i64) [])]),(2,[])] .z))) .z))
def sp256 : Spec fam:=⟨[.v (.slice (.st 5)) [],.fn [.st 5] .bool],[.v (.int .i64) []],fun a => nF a.1 a.2.1⟩
def nE (del : (TupT fam [.st 5] → Option Bool)) (t : List Ask × Int × Int) : Option ((List Ask × Int × Int) ⊕ ((List Ask × Int))) :=
 bif decide (t.2.2 < (t.1.length : Int)) then
 (
  (inb t.2.2 t.1.length).bind fun i1 =>
  (t.1[i1]?).bind fun x =>
  (del (x,())).bind fun r =>
  bif ! r then
  (inb t.2.1 t.1.length).bind fun i2 =>
  (t.1[i2]?).bind fun x1 =>
  some (List.set t.1 i2 x,w64 (t.2.1 + 1))
  else
  some (t.1,t.2.1)).bind fun q =>
 some (.inl (q.1,q.2,w64 (t.2.2 + 1)))
 else
 some (.inr (t.1,t.2.1))
def nT (s : List Ask) (del : (TupT fam [.st 5] → Option Bool)) : Option (List Ask) :=
 (nF s del).bind fun i =>
 bif i == (-1) then
 some s
 else
 (loop (nE del) (s,i,w64 (i + 1))).bind fun q1 =>
 (inS q1.2 (q1.1.length : Int) q1.1.length).bind fun p =>
 none
def h233 : Hint:=(.s .z (.s .z (.s .z (.s (.s .z (.b (.l [(0,.row (.st 5) false),(5,.v (.int .i64) []),(6,.v (.int .i64) [])] [0,5,6,7] [(2,[(0,.row (.st 5) false),(5,.v (.int .i64) [])])] (.s .z (.s (.j [0,5,7] [(0,[(0,.row (.st 5) false),(5,.v (.int .i64) [])])] .z) .z))))) .z))))
def sp233 : Spec fam:=⟨[.v (.slice (.st 5)) [0],.fn [.st 5] .bool],[.v (.slice (.st 5)) [0]],fun a => nT a.1 a.2.1⟩
def ux (l : List Ask) : Option (List Ask) :=
 (mkl 64 (l.length : Int) (l.length : Int) (⟨0,0,⟨0,0⟩,0,0,0,0⟩ : Ask)).bind fun l1 =>
 some (cpy l1 0 l1.length l)
def h234 : Hint:=.z
def sp234 : Spec fam:=⟨[.v (.slice (.st 5)) []],[.v (.slice (.st 5)) [0]],fun a => ux a.1⟩
def qw (x : Ask) (p : Ask) : Option Bool :=
 some (x.Prio == p.Prio)
def h235 : Hint:=.z
def sp235 : Spec fam:=⟨[.v (.st 5) [],.rp (.st 5)],[.v .bool []],fun a => qw a.1 a.2.1⟩
def m7 (s : List Ask) (i : Int) (v : List Ask) : Option (List Ask) :=
 (inS i (s.length : Int) s.length).bind fun p =>
 bif (v.length : Int) == 0 then
 some s
 else
 bif i == (s.length : Int) then
  (app 64 s v).bind fun l =>
  some l
 else
  none
def h236 : Hint:=.z
def sp236 : Spec fam:=⟨[.v (.slice (.st 5)) [0],.v (.int .i64) [],.v (.slice (.st 5)) []],[.v (.slice (.st 5)) [0]],fun a => m7 a.1 a.2.1 a.2.2.1⟩
def tk (a : Ask) (out : List Ask) (k : Int) : Option (Int ⊕ Int) :=
 (
 bif decide (k < (out.length : Int)) then
  (inb k out.length).bind fun i =>
  (out[i]?).bind fun x1 =>
  some (decide (x1.Prio < a.Prio))
 else
  some false).bind fun q =>
 bif q then
 some (.inl (w64 (k + 1)))
 else
 some (.inr k)
def uV (l : List Ask) (a : Ask) : Option (List Ask × Int) :=
 (ux l).bind fun x =>
 (nT x (fun a' => qw a'.1 a)).bind fun out =>
 bif a.Count == 0 then
 some (out,0)
 else
 bif decide ((out.length : Int) ≥ 8) then
  some ([],4)
 else
  (loop (tk a out) 0).bind fun k1 =>
  (m7 out k1 [(⟨a.Prio,a.Label,⟨a.Size.Mem,a.Size.Cores⟩,a.Count,a.Node,a.Rack,0⟩ : Ask)]).bind fun x2 =>
  some (x2,0)
def h202 : Hint:=(.s .z (.s .z (.s .z (.s .z (.s .z (.s .z (.s (.b (.l [(7,.v (.int .i64) [])] [7,33] [(2,[(7,.v (.int .i64) [])])] (.s (.s (.j [] [(0,[(33,.v .bool [])])] .z) .z) .z))) .z)))))))
def sp202 : Spec fam:=⟨[.v (.slice (.st 5)) [],.v (.st 5) []],[.v (.slice (.st 5)) [0],.v (.int .i64) []],fun a => uV a.1 a.2.1⟩
def qP (a : App) : Option (List Ask) :=
 (uV [] (⟨0,0,⟨a.Master.Mem,a.Master.Cores⟩,1,(-1),(-1),0⟩ : Ask)).bind fun x =>
 some x.1
def h162 : Hint:=.z
def sp162 : Spec fam:=⟨[.v (.st 6) []],[.v (.slice (.st 5)) [0]],fun a => qP a.1⟩
def mz (del : (TupT fam [.st 7] → Option Bool)) (t : List Cont × Int × Int) : Option ((List Cont × Int × Int) ⊕ ((List Cont × Int))) :=
 bif decide (t.2.2 < (t.1.length : Int)) then
 (
  (inb t.2.2 t.1.length).bind fun i1 =>
  (t.1[i1]?).bind fun x =>
  (del (x,())).bind fun r =>
  bif ! r then
  (inb t.2.1 t.1.length).bind fun i2 =>
  (t.1[i2]?).bind fun x1 =>
  some (List.set t.1 i2 x,w64 (t.2.1 + 1))
  else
  some (t.1,t.2.1)).bind fun q =>
 some (.inl (q.1,q.2,w64 (t.2.2 + 1)))
 else
 some (.inr (t.1,t.2.1))
def ml (s : List Cont) (del : (TupT fam [.st 7] → Option Bool)) : Option (List Cont) :=
 (jx s del).bind fun i =>
 bif i == (-1) then
 some s
 else
 (loop (mz del) (s,i,w64 (i + 1))).bind fun q1 =>
 (inS q1.2 (q1.1.length : Int) q1.1.length).bind fun p =>
 none
def h203 : Hint:=(.s .z (.s .z (.s .z (.s (.s .z (.b (.l [(0,.row (.st 7) false),(5,.v (.int .i64) []),(6,.v (.int .i64) [])] [0,5,6,7] [(2,[(0,.row (.st 7) false),(5,.v (.int .i64) [])])] (.s .z (.s (.j [0,5,7] [(0,[(0,.row (.st 7) false),(5,.v (.int .i64) [])])] .z) .z))))) .z))))
def sp203 : Spec fam:=⟨[.v (.slice (.st 7)) [0],.fn [.st 7] .bool],[.v (.slice (.st 7)) [0]],fun a => ml a.1 a.2.1⟩
def AE (c : Cont) (p : Int) (p1 : List Int) : Option (Bool × List Int) :=
 (
 bif c.App == p then
  (app 8 p1 [c.Id]).bind fun l =>
  some l
 else
  some p1).bind fun q =>
 some (c.App == p,q)
def h204 : Hint:=(.s .z (.s (.j [2] [(0,[(2,.box (.slice (.int .i64)) [0])])] .z) .z))
def sp204 : Spec fam:=⟨[.v (.st 7) [],.rp (.int .i64),.box (.slice (.int .i64)) [0]],[.v .bool []],fun a => AE a.1 a.2.1 a.2.2.1⟩
def mF (s : List Slot) (f : (TupT fam [.st 8] → Option Bool)) (t : Int) : Option (Int ⊕ (Int ⊕ Unit)) :=
 bif decide (t < (s.length : Int)) then
 (idx s t).bind fun x =>
 (f (x,())).bind fun r =>
 bif r then
  some (.inr (.inl t))
 else
  some (.inl (w64 (t + 1)))
 else
 some (.inr (.inr ()))
def mo (s : List Slot) (f : (TupT fam [.st 8] → Option Bool)) : Option Int :=
 (loop (mF s f) 0).bind fun q0 =>
 match q0 with
 | .inl q =>
 some q
 | .inr _ =>
 some (-1)
def h237 : Hint:=(.s .z (.s (.s .z (.b (.l [(8,.v (.int .i64) [])] [4,5,8] [(1,[(4,.v (.int .i64) [])]),(2,[])] .z))) .z))
def sp237 : Spec fam:=⟨[.v (.slice (.st 8)) [],.fn [.st 8] .bool],[.v (.int .i64) []],fun a => mo a.1 a.2.1⟩
def mv (del : (TupT fam [.st 8] → Option Bool)) (t : List Slot × Int × Int) : Option ((List Slot × Int × Int) ⊕ ((List Slot × Int))) :=
 bif decide (t.2.2 < (t.1.length : Int)) then
 (
  (inb t.2.2 t.1.length).bind fun i1 =>
  (t.1[i1]?).bind fun x =>
  (del (x,())).bind fun r =>
  bif ! r then
  (inb t.2.1 t.1.length).bind fun i2 =>
  (t.1[i2]?).bind fun x1 =>
  some (List.set t.1 i2 x,w64 (t.2.1 + 1))
  else
  some (t.1,t.2.1)).bind fun q =>
 some (.inl (q.1,q.2,w64 (t.2.2 + 1)))
 else
 some (.inr (t.1,t.2.1))
def mj (s : List Slot) (del : (TupT fam [.st 8] → Option Bool)) : Option (List Slot) :=
 (mo s del).bind fun i =>
 bif i == (-1) then
 some s
 else
 (loop (mv del) (s,i,w64 (i + 1))).bind fun q1 =>
 (inS q1.2 (q1.1.length : Int) q1.1.length).bind fun p =>
 none
def h205 : Hint:=(.s .z (.s .z (.s .z (.s (.s .z (.b (.l [(0,.row (.st 8) false),(5,.v (.int .i64) []),(6,.v (.int .i64) [])] [0,5,6,7] [(2,[(0,.row (.st 8) false),(5,.v (.int .i64) [])])] (.s .z (.s (.j [0,5,7] [(0,[(0,.row (.st 8) false),(5,.v (.int .i64) [])])] .z) .z))))) .z))))
def sp205 : Spec fam:=⟨[.v (.slice (.st 8)) [0],.fn [.st 8] .bool],[.v (.slice (.st 8)) [0]],fun a => mj a.1 a.2.1⟩
def oi (x : Slot) (p : Int) : Option Bool :=
 some (x.App == p)
def h206 : Hint:=.z
def sp206 : Spec fam:=⟨[.v (.st 8) [],.rp (.int .i64)],[.v .bool []],fun a => oi a.1 a.2.1⟩
def qz (s : State) (id_ : Int) : Option (State × List Int) :=
 (ml s.Conts (fun a' => none)).bind fun x =>
 (mj s.Slots (fun a' => oi a'.1 id_)).bind fun x1 =>
 some ((⟨⟨s.Conf.Labels,s.Conf.Queues⟩,s.Nodes,s.Apps,x,x1,s.Plans,s.Now,s.Epoch,s.Seq⟩ : State),[])
def h163 : Hint:=.z
def sp163 : Spec fam:=⟨[.v (.st 10) [0,1001,2,1003,4,5,6],.v (.int .i64) []],[.v (.st 10) [0,1001,2,1003,4,5,6],.v (.slice (.int .i64)) [0]],fun a => qz a.1 a.2.1⟩
def pj (s : State) (i : Int) : Option State :=
 (inb i s.Apps.length).bind fun i1 =>
 (s.Apps[i1]?).bind fun x =>
 (qP x).bind fun x1 =>
 (inb i s.Apps.length).bind fun i2 =>
 bif Nat.beq i2 i1 then
 (s.Apps[i2]?).bind fun x2 =>
 (qz (⟨⟨s.Conf.Labels,s.Conf.Queues⟩,s.Nodes,List.set s.Apps i2 (⟨x.Id,1,x.Queue,x.User,x.Prio,⟨x.Master.Mem,x.Master.Cores⟩,x1,s.Now,0,[],[],[],[]⟩ : App),s.Conts,s.Slots,s.Plans,s.Now,s.Epoch,s.Seq⟩ : State) x.Id).bind fun x3 =>
 some x3.1
 else
 none
def h98 : Hint:=.z
def sp98 : Spec fam:=⟨[.v (.st 10) [0,1001,2,1003,4,5,6],.v (.int .i64) []],[.v (.st 10) [0,1001,2,1003,4,5,6]],fun a => pj a.1 a.2.1⟩
def m9 (s : List Cont) (i : Int) (j : Int) : Option (List Cont):=del s i j
def sp99 : Spec fam:=⟨[.v (.slice (.st 7)) [0],.v (.int .i64) [],.v (.int .i64) []],[.v (.slice (.st 7)) [0]],fun a => m9 a.1 a.2.1 a.2.2.1⟩
def eC (s : List Int) (v : Int) (t : Int) : Option (Int ⊕ (Int ⊕ Unit)) :=
 bif decide (t < (s.length : Int)) then
 (idx s t).bind fun x =>
 bif v == x then
  some (.inr (.inl t))
 else
  some (.inl (w64 (t + 1)))
 else
 some (.inr (.inr ()))
def dR (s : List Int) (v : Int) : Option Int :=
 (loop (eC s v) 0).bind fun q0 =>
 match q0 with
 | .inl q =>
 some q
 | .inr _ =>
 some (-1)
def h100 : Hint:=(.s .z (.s (.s .z (.b (.l [(8,.v (.int .i64) [])] [4,5,8] [(1,[(4,.v (.int .i64) [])]),(2,[])] .z))) .z))
def sp100 : Spec fam:=⟨[.v (.slice (.int .i64)) [],.v (.int .i64) []],[.v (.int .i64) []],fun a => dR a.1 a.2.1⟩
def dj (s : List Int) (i : Int) (j : Int) : Option (List Int):=del s i j
def sp101 : Spec fam:=⟨[.v (.slice (.int .i64)) [0],.v (.int .i64) [],.v (.int .i64) []],[.v (.slice (.int .i64)) [0]],fun a => dj a.1 a.2.1 a.2.2.1⟩
def rN (ids : List Int) (t : State × Int) : Option ((State × Int) ⊕ State) :=
 bif decide (t.2 < (ids.length : Int)) then
 (
  (idx ids t.2).bind fun x1 =>
  (jx t.1.Conts (fun a' => o_ a'.1 x1)).bind fun k =>
  bif decide (k < 0) then
  some t.1
  else
  (inb k t.1.Conts.length).bind fun i =>
  (t.1.Conts[i]?).bind fun x2 =>
  (t_ t.1 x2.App).bind fun i1 =>
  (
   bif decide (i1 ≥ 0) then
   some x2.Master
   else
   some false).bind fun q =>
  bif q then
   (pj t.1 i1).bind fun x3 =>
   some x3
  else
   (m9 t.1.Conts k (w64 (k + 1))).bind fun x4 =>
   bif decide (i1 < 0) then
   some (⟨⟨t.1.Conf.Labels,t.1.Conf.Queues⟩,t.1.Nodes,t.1.Apps,x4,t.1.Slots,t.1.Plans,t.1.Now,t.1.Epoch,t.1.Seq⟩ : State)
   else
   (inb i1 t.1.Apps.length).bind fun i2 =>
   (t.1.Apps[i2]?).bind fun x5 =>
   (
    (dR x5.Grants x1).bind fun j =>
    bif decide (j ≥ 0) then
    (dj x5.Grants j (w64 (j + 1))).bind fun x6 =>
    some (⟨x5.Id,x5.State,x5.Queue,x5.User,x5.Prio,⟨x5.Master.Mem,x5.Master.Cores⟩,x5.Asks,x5.Seen,x5.Beat,x6,x5.Kills,x5.Told,x5.Lost⟩ : App)
    else
    (app 8 x5.Kills [x1]).bind fun l =>
    some (⟨x5.Id,x5.State,x5.Queue,x5.User,x5.Prio,⟨x5.Master.Mem,x5.Master.Cores⟩,x5.Asks,x5.Seen,x5.Beat,x5.Grants,l,x5.Told,x5.Lost⟩ : App)).bind fun a =>
   (inb i1 t.1.Apps.length).bind fun i3 =>
   bif Nat.beq i3 i2 then
    (t.1.Apps[i3]?).bind fun x7 =>
    some (⟨⟨t.1.Conf.Labels,t.1.Conf.Queues⟩,t.1.Nodes,List.set t.1.Apps i3 a,x4,t.1.Slots,t.1.Plans,t.1.Now,t.1.Epoch,t.1.Seq⟩ : State)
   else
    none).bind fun s1 =>
 some (.inl (s1,w64 (t.2 + 1)))
 else
 some (.inr t.1)
def pz (s : State) (ids : List Int) : Option State :=
 (rF s).bind fun x =>
 (loop (rN ids) (x,0)).bind fun s2 =>
 (rF s2).bind fun x8 =>
 some x8
def h40 : Hint:=(.s .z (.s .z (.s (.s .z (.b (.l [(2,.box (.st 10) [0,1001,2,1003,4,5,6]),(16,.v (.int .i64) [])] [2,6,7,8,9,10,11,13,16,40] [(2,[(2,.box (.st 10) [0,1001,2,1003,4,5,6])])] (.s .z (.s .z (.s (.j [2,6,7,8,9,10,11,40] [(0,[(2,.box (.st 10) [0,1001,2,1003,4,5,6])])] (.b (.s .z (.s .z (.s .z (.s .z (.s .z (.s (.s (.j [] [(0,[(40,.v .bool [])])] .z) .z) (.s .z (.s .z (.s .z (.s (.j [10,11] [(0,[(10,.box (.st 6) [7,10,11,12,13])])] .z) .z)))))))))))) .z)))))) .z)))
def sp40 : Spec fam:=⟨[.v (.st 10) [],.v (.slice (.int .i64)) []],[.v (.st 10) [0,1001,2,1003,4,5,6]],fun a => pz a.1 a.2.1⟩
def lu (x : Cont) (p : Cont) : Option Bool :=
 some (x.Id == p.Id)
def h104 : Hint:=.z
def sp104 : Spec fam:=⟨[.v (.st 7) [],.rp (.st 7)],[.v .bool []],fun a => lu a.1 a.2.1⟩
def nj (c : Cont) (label : Int) (now : Int) : Option Bool :=
 bif c.Label == label then
 bif c.Notice != 0 then
  some (decide ((w64 (now - c.Notice)) ≥ 3))
 else
  some false
 else
 some false
def h105 : Hint:=.z
def sp105 : Spec fam:=⟨[.v (.st 7) [],.v (.int .i64) [],.v (.int .i64) []],[.v .bool []],fun a => nj a.1 a.2.1 a.2.2.1⟩
def nx (s : List Share) (f : (TupT fam [.st 16] → Option Bool)) (t : Int) : Option (Int ⊕ (Int ⊕ Unit)) :=
 bif decide (t < (s.length : Int)) then
 (idx s t).bind fun x =>
 (f (x,())).bind fun r =>
 bif r then
  some (.inr (.inl t))
 else
  some (.inl (w64 (t + 1)))
 else
 some (.inr (.inr ()))
def nM (s : List Share) (f : (TupT fam [.st 16] → Option Bool)) : Option Int :=
 (loop (nx s f) 0).bind fun q0 =>
 match q0 with
 | .inl q =>
 some q
 | .inr _ =>
 some (-1)
def h165 : Hint:=(.s .z (.s (.s .z (.b (.l [(8,.v (.int .i64) [])] [4,5,8] [(1,[(4,.v (.int .i64) [])]),(2,[])] .z))) .z))
def sp165 : Spec fam:=⟨[.v (.slice (.st 16)) [],.fn [.st 16] .bool],[.v (.int .i64) []],fun a => nM a.1 a.2.1⟩
def kF (x : Share) (p : App) : Option Bool :=
 some (x.Path == p.Queue)
def h166 : Hint:=.z
def sp166 : Spec fam:=⟨[.v (.st 16) [],.rp (.st 6)],[.v .bool []],fun a => kF a.1 a.2.1⟩
def mP (s : State) (c : Cont) (t : Int × Int) : Option ((Int × Int) ⊕ Int) :=
 bif decide (t.2 < (s.Conts.length : Int)) then
 (
  (idx s.Conts t.2).bind fun x2 =>
  (
  bif c.Master then
   bif x2.App == c.App then
   bif x2.Id != c.Id then
    some (x2.Label == c.Label)
   else
    some false
   else
   some false
  else
   some false).bind fun q =>
  bif q then
  let used:=w64 (t.1 - x2.Size.Mem)
  some used
  else
  some t.1).bind fun used1 =>
 some (.inl (used1,w64 (t.2 + 1)))
 else
 some (.inr t.1)
def mq (s : State) (c : Cont) : Option Bool :=
 (pL s c.App).bind fun x =>
 (gS s x.1.Queue c.Label).bind fun x1 =>
 (loop (mP s c) (x1.Mem,0)).bind fun used2 =>
 (i_ s c.Label).bind fun l =>
 (nM l (fun a' => kF a'.1 x.1)).bind fun i =>
 bif decide (i ≥ 0) then
 (inb i l.length).bind fun i1 =>
 (l[i1]?).bind fun x3 =>
 some (decide (used2 > x3.Mem))
 else
 some false
def h106 : Hint:=(.s .z (.s .z (.s .z (.s (.s .z (.b (.l [(7,.v (.int .i64) []),(29,.v (.int .i64) [])] [7,9,29,55] [(2,[(7,.v (.int .i64) [])])] (.s .z (.s .z (.s (.j [7,9,55] [(0,[(7,.v (.int .i64) [])])] (.b (.s .z (.s (.j [] [(0,[(55,.v .bool [])])] .z) .z)))) .z)))))) .z))))
def sp106 : Spec fam:=⟨[.v (.st 10) [],.v (.st 7) []],[.v .bool []],fun a => mq a.1 a.2.1⟩
def n9 (label : Int) (x1 : Cont) (s1 : State) : Option State :=
 (jx s1.Conts (fun a' => lu a'.1 x1)).bind fun i =>
 (
 bif decide (i < 0) then
  some true
 else
  (inb i s1.Conts.length).bind fun i1 =>
  (s1.Conts[i1]?).bind fun x2 =>
  (nj x2 label s1.Now).bind fun x3 =>
  some (! x3)).bind fun q =>
 bif q then
 some s1
 else
 (mq s1 x1).bind fun x4 =>
 bif x4 then
  (pz s1 [x1.Id]).bind fun x5 =>
  some x5
 else
  (inb i s1.Conts.length).bind fun i2 =>
  (s1.Conts[i2]?).bind fun x6 =>
  some (⟨⟨s1.Conf.Labels,s1.Conf.Queues⟩,s1.Nodes,s1.Apps,List.set s1.Conts i2 (⟨x6.Id,x6.App,x6.Node,⟨x6.Size.Mem,x6.Size.Cores⟩,x6.Prio,x6.Label,x6.Master,0⟩ : Cont),s1.Slots,s1.Plans,s1.Now,s1.Epoch,s1.Seq⟩ : State)
def nR (s : State) (label : Int) : Option State :=
 (j_ s.Conts).bind fun x =>
 (rgB (n9 label) x s).bind fun s2 =>
 some s2
def k41 : Ks:=[(2,.box (.st 10) [0,1001,2,1003,4,5,6])]
def dr41 : List Nat:=[2,6,7,13,14,15,16,17,18,19,20,21,22,23,24,25,26,27,28,29,30,31,32,33,34,35,36,37,38,39,40,41,42,43,44,45,46]
def h41 : Hint:=(.b (.s .z (.b (.s (.j [23,24,25,26,27,28,29,30,31,32,33,34,35,36,37] [(0,[(23,.v .bool [])])] .z) .z))))
def sp41 : Spec fam:=⟨[.v (.st 10) [0,1001,2,1003,4,5,6],.v (.int .i64) []],[.v (.st 10) [0,1001,2,1003,4,5,6]],fun a => nR a.1 a.2.1⟩
def kG (x : Cont) (p : Int) : Option Bool :=
 some (x.Id == p)
def h43 : Hint:=.z
def sp43 : Spec fam:=⟨[.v (.st 7) [],.rp (.int .i64)],[.v .bool []],fun a => kG a.1 a.2.1⟩
def nA (s : List Cont) (f : (TupT fam [.st 7] → Option Bool)) : Option Bool :=
 (jx s f).bind fun x =>
 some (decide (x ≥ 0))
def h44 : Hint:=.z
def sp44 : Spec fam:=⟨[.v (.slice (.st 7)) [],.fn [.st 7] .bool],[.v .bool []],fun a => nA a.1 a.2.1⟩
def kM (x : Cont) (p : Cont) : Option Bool :=
 some (x.Id == p.Id)
def h45 : Hint:=.z
def sp45 : Spec fam:=⟨[.v (.st 7) [],.rp (.st 7)],[.v .bool []],fun a => kM a.1 a.2.1⟩
def aH (x : Int) (y : Int) : Option Bool :=
 (d5 x).bind fun x1 =>
 bif x1 then
 (d5 y).bind fun x2 =>
 bif ! x2 then
  some true
 else
  some (decide (x < y))
 else
 some (decide (x < y))
def h173 : Hint:=.z
def sp173 : Spec fam:=⟨[.v (.int .i64) [],.v (.int .i64) []],[.v .bool []],fun a => aH a.1 a.2.1⟩
def ck (a : Int) (t1 : List Int × Int) : Option ((List Int × Int) ⊕ List Int) :=
 (
 bif decide (t1.2 > a) then
  (inb t1.2 t1.1.length).bind fun i =>
  (t1.1[i]?).bind fun x =>
  (inb (w64 (t1.2 - 1)) t1.1.length).bind fun i1 =>
  (t1.1[i1]?).bind fun x1 =>
  (aH x x1).bind fun x2 =>
  some x2
 else
  some false).bind fun q =>
 bif q then
 (inb (w64 (t1.2 - 1)) t1.1.length).bind fun i2 =>
 (t1.1[i2]?).bind fun x3 =>
 (inb t1.2 t1.1.length).bind fun i3 =>
 (t1.1[i3]?).bind fun x4 =>
 (inb t1.2 t1.1.length).bind fun i4 =>
 (t1.1[i4]?).bind fun x5 =>
 (inb (w64 (t1.2 - 1)) (List.set t1.1 i4 x3).length).bind fun i5 =>
 ((List.set t1.1 i4 x3)[i5]?).bind fun x6 =>
 some (.inl (List.set (List.set t1.1 i4 x3) i5 x4,w64 (t1.2 - 1)))
 else
 some (.inr t1.1)
def cm (a : Int) (b : Int) (t : List Int × Int) : Option ((List Int × Int) ⊕ List Int) :=
 bif decide (t.2 < b) then
 (loop (ck a) (t.1,t.2)).bind fun data1 =>
 some (.inl (data1,w64 (t.2 + 1)))
 else
 some (.inr t.1)
def bv (data : List Int) (a : Int) (b : Int) : Option (List Int) :=
 (loop (cm a b) (data,w64 (a + 1))).bind fun data2 =>
 some data2
def h167 : Hint:=(.s .z (.b (.l [(0,.row (.int .i64) false),(6,.v (.int .i64) [])] [0,6,7,30] [(2,[(0,.row (.int .i64) false)])] (.s .z (.s (.b (.s .z (.b (.l [(0,.row (.int .i64) false),(7,.v (.int .i64) [])] [0,7,30] [(4,[(0,.row (.int .i64) false)])] (.s (.s (.j [] [(0,[(30,.v .bool [])])] .z) .z) .z))))) .z)))))
def sp167 : Spec fam:=⟨[.row (.int .i64) false,.v (.int .i64) [],.v (.int .i64) []],[],fun a => bv a.1 a.2.1 a.2.2.1⟩
def du (hi : Int) (first : Int) (t : List Int × Int) : Option ((List Int × Int) ⊕ (List Int ⊕ List Int)) :=
 let child:=w64 ((w64 (2 * t.2)) + 1)
 bif decide (child ≥ hi) then
 some (.inr (.inr (t.1)))
 else
 (
  (
  bif decide ((w64 (child + 1)) < hi) then
   (inb (w64 (first + child)) t.1.length).bind fun i =>
   (t.1[i]?).bind fun x =>
   (inb (w64 ((w64 (first + child)) + 1)) t.1.length).bind fun i1 =>
   (t.1[i1]?).bind fun x1 =>
   (aH x x1).bind fun x2 =>
   some x2
  else
   some false).bind fun q =>
  bif q then
  some (w64 (child + 1))
  else
  some child).bind fun child1 =>
 (inb (w64 (first + t.2)) t.1.length).bind fun i2 =>
 (t.1[i2]?).bind fun x3 =>
 (inb (w64 (first + child1)) t.1.length).bind fun i3 =>
 (t.1[i3]?).bind fun x4 =>
 (aH x3 x4).bind fun x5 =>
 bif ! x5 then
  some (.inr (.inl (t.1)))
 else
  (inb (w64 (first + child1)) t.1.length).bind fun i4 =>
  (t.1[i4]?).bind fun x6 =>
  (inb (w64 (first + t.2)) t.1.length).bind fun i5 =>
  (t.1[i5]?).bind fun x7 =>
  (inb (w64 (first + t.2)) t.1.length).bind fun i6 =>
  (t.1[i6]?).bind fun x8 =>
  (inb (w64 (first + child1)) (List.set t.1 i6 x6).length).bind fun i7 =>
  ((List.set t.1 i6 x6)[i7]?).bind fun x9 =>
  some (.inl (List.set (List.set t.1 i6 x6) i7 x7,child1))
def bo (data : List Int) (lo : Int) (hi : Int) (first : Int) : Option (List Int) :=
 (loop (du hi first) (data,lo)).bind fun q0 =>
 match q0 with
 | .inl data1 =>
 some data1
 | .inr data2 =>
 some data2
def h207 : Hint:=(.s .z (.b (.l [(0,.row (.int .i64) false),(8,.v (.int .i64) [])] [0,8,9,36] [(1,[(0,.row (.int .i64) false)]),(2,[(0,.row (.int .i64) false)])] (.b (.s .z (.s .z (.s (.j [9,36] [(0,[(9,.v (.int .i64) [])])] (.s (.j [] [(0,[(36,.v .bool [])])] .z) .z)) .z)))))))
def sp207 : Spec fam:=⟨[.row (.int .i64) false,.v (.int .i64) [],.v (.int .i64) [],.v (.int .i64) []],[],fun a => bo a.1 a.2.1 a.2.2.1 a.2.2.2.1⟩
def dD (a : Int) (t1 : List Int × Int) : Option ((List Int × Int) ⊕ List Int) :=
 bif decide (t1.2 ≥ 0) then
 (inb (w64 (a + t1.2)) t1.1.length).bind fun i2 =>
 (t1.1[i2]?).bind fun x1 =>
 (inb a t1.1.length).bind fun i3 =>
 (t1.1[i3]?).bind fun x2 =>
 (inb a t1.1.length).bind fun i4 =>
 (t1.1[i4]?).bind fun x3 =>
 (inb (w64 (a + t1.2)) (List.set t1.1 i4 x1).length).bind fun i5 =>
 ((List.set t1.1 i4 x1)[i5]?).bind fun x4 =>
 (bo (List.set (List.set t1.1 i4 x1) i5 x2) 0 t1.2 a).bind fun x5 =>
 some (.inl (x5,w64 (t1.2 - 1)))
 else
 some (.inr t1.1)
def dC (a : Int) (b : Int) (t : List Int × Int) : Option ((List Int × Int) ⊕ List Int) :=
 bif decide (t.2 ≥ 0) then
 (bo t.1 t.2 (w64 (b - a)) a).bind fun x =>
 some (.inl (x,w64 (t.2 - 1)))
 else
 some (.inr t.1)
def cA (data : List Int) (a : Int) (b : Int) : Option (List Int) :=
 let i:=w64 (Int.tdiv (w64 ((w64 (b - a)) - 1)) 2)
 (loop (dC a b) (data,i)).bind fun data1 =>
 let i1:=w64 ((w64 (b - a)) - 1)
 (loop (dD a) (data1,i1)).bind fun data2 =>
 some data2
def h168 : Hint:=(.s .z (.s .z (.s .z (.s (.s .z (.b (.l [(0,.row (.int .i64) false),(9,.v (.int .i64) [])] [0,9] [(2,[(0,.row (.int .i64) false)])] .z))) (.s .z (.b (.l [(0,.row (.int .i64) false),(10,.v (.int .i64) [])] [0,10] [(4,[(0,.row (.int .i64) false)])] .z)))))))
def sp168 : Spec fam:=⟨[.row (.int .i64) false,.v (.int .i64) [],.v (.int .i64) []],[],fun a => cA a.1 a.2.1 a.2.2.1⟩
def rY (x : Int) : Option Int :=
 (nL x).bind fun x1 =>
 some x1
def h108 : Hint:=.z
def sp108 : Spec fam:=⟨[.v (.int .u64) []],[.v (.int .i64) []],fun a => rY a.1⟩
def eu (length : Int) : Option Int :=
 (rY (IntKind.u64.wrap length)).bind fun x =>
 (nn x).bind fun _ =>
 some (shlK .u64 1 x)
def h208 : Hint:=.z
def sp208 : Spec fam:=⟨[.v (.int .i64) []],[.v (.int .u64) []],fun a => eu a.1⟩
def eO (r : Int) : Option (Int × Int) :=
 some (xorK .u64 (xorK .u64 (xorK .u64 r (shlK .u64 r 13)) (shrK .u64 (xorK .u64 r (shlK .u64 r 13)) 7)) (shlK .u64 (xorK .u64 (xorK .u64 r (shlK .u64 r 13)) (shrK .u64 (xorK .u64 r (shlK .u64 r 13)) 7)) 17),xorK .u64 (xorK .u64 (xorK .u64 r (shlK .u64 r 13)) (shrK .u64 (xorK .u64 r (shlK .u64 r 13)) 7)) (shlK .u64 (xorK .u64 (xorK .u64 r (shlK .u64 r 13)) (shrK .u64 (xorK .u64 r (shlK .u64 r 13)) 7)) 17))
def h209 : Hint:=.z
def sp209 : Spec fam:=⟨[.box (.int .u64) []],[.v (.int .u64) []],fun a => eO a.1⟩
def ce (a : Int) (b : Int) (modulus : Int) (t : List Int × Int × Int) : Option ((List Int × Int × Int) ⊕ List Int) :=
 bif decide (t.2.2 ≤ (w64 ((w64 (a + (w64 ((w64 (Int.tdiv (w64 (b - a)) 4)) * 2)))) + 1))) then
 (eO t.2.1).bind fun x =>
 let other:=w64 (andK .u64 x.1 (IntKind.u64.wrap (modulus - 1)))
 (
  bif decide (other ≥ (w64 (b - a))) then
  let other1:=w64 (other - (w64 (b - a)))
  some other1
  else
  some other).bind fun other2 =>
 (inb (w64 (a + other2)) t.1.length).bind fun i =>
 (t.1[i]?).bind fun x1 =>
 (inb t.2.2 t.1.length).bind fun i1 =>
 (t.1[i1]?).bind fun x2 =>
 (inb t.2.2 t.1.length).bind fun i2 =>
 (t.1[i2]?).bind fun x3 =>
 (inb (w64 (a + other2)) (List.set t.1 i2 x1).length).bind fun i3 =>
 ((List.set t.1 i2 x1)[i3]?).bind fun x4 =>
 some (.inl (List.set (List.set t.1 i2 x1) i3 x2,x.2,w64 (t.2.2 + 1)))
 else
 some (.inr t.1)
def bw (data : List Int) (a : Int) (b : Int) : Option (List Int) :=
 bif decide ((w64 (b - a)) ≥ 8) then
 (eu (w64 (b - a))).bind fun modulus =>
 let idx_:=w64 ((w64 (a + (w64 ((w64 (Int.tdiv (w64 (b - a)) 4)) * 2)))) - 1)
 (loop (ce a b modulus) (data,IntKind.u64.wrap (w64 (b - a)),idx_)).bind fun data1 =>
 some data1
 else
 some data
def h169 : Hint:=(.s .z (.s .z (.c (.s .z (.s .z (.s .z (.b (.l [(0,.row (.int .i64) false),(7,.box (.int .u64) []),(9,.v (.int .i64) [])] [0,7,9,10] [(2,[(0,.row (.int .i64) false)])] (.s .z (.s (.b (.s .z (.s (.j [10] [(0,[(10,.v (.int .i64) [])])] .z) .z))) .z))))))) .z)))
def sp169 : Spec fam:=⟨[.row (.int .i64) false,.v (.int .i64) [],.v (.int .i64) []],[],fun a => bw a.1 a.2.1 a.2.2.1⟩
def bc (data : List Int) (a : Int) (b : Int) (swaps : Int) : Option (Int × Int × Int) :=
 (idx data b).bind fun x =>
 (idx data a).bind fun x1 =>
 (aH x x1).bind fun x2 =>
 bif x2 then
 some (b,a,w64 (swaps + 1))
 else
 some (a,b,swaps)
def h238 : Hint:=.z
def sp238 : Spec fam:=⟨[.v (.slice (.int .i64)) [],.v (.int .i64) [],.v (.int .i64) [],.box (.int .i64) []],[.v (.int .i64) [],.v (.int .i64) []],fun a => bc a.1 a.2.1 a.2.2.1 a.2.2.2.1⟩
def bM (data : List Int) (a : Int) (b : Int) (c : Int) (swaps : Int) : Option (Int × Int) :=
 (bc data a b swaps).bind fun x =>
 (bc data x.2.1 c x.2.2).bind fun x1 =>
 (bc data x.1 x1.1 x1.2.2).bind fun x2 =>
 some (x2.2.1,x2.2.2)
def h211 : Hint:=.z
def sp211 : Spec fam:=⟨[.v (.slice (.int .i64)) [],.v (.int .i64) [],.v (.int .i64) [],.v (.int .i64) [],.box (.int .i64) []],[.v (.int .i64) []],fun a => bM a.1 a.2.1 a.2.2.1 a.2.2.2.1 a.2.2.2.2.1⟩
def aI (data : List Int) (a : Int) (swaps : Int) : Option (Int × Int) :=
 (bM data (w64 (a - 1)) a (w64 (a + 1)) swaps).bind fun x =>
 some (x.1,x.2)
def h210 : Hint:=.z
def sp210 : Spec fam:=⟨[.v (.slice (.int .i64)) [],.v (.int .i64) [],.box (.int .i64) []],[.v (.int .i64) []],fun a => aI a.1 a.2.1 a.2.2.1⟩
def bO (data : List Int) (a : Int) (b : Int) : Option (Int × Int) :=
 let i:=w64 (a + (w64 ((w64 (Int.tdiv (w64 (b - a)) 4)) * 1)))
 let j:=w64 (a + (w64 ((w64 (Int.tdiv (w64 (b - a)) 4)) * 2)))
 let k:=w64 (a + (w64 ((w64 (Int.tdiv (w64 (b - a)) 4)) * 3)))
 (
 bif decide ((w64 (b - a)) ≥ 8) then
  (
  bif decide ((w64 (b - a)) ≥ 50) then
   (aI data i 0).bind fun i1 =>
   (aI data j i1.2).bind fun j1 =>
   (aI data k j1.2).bind fun k1 =>
   some (k1.2,i1.1,j1.1,k1.1)
  else
   some (0,i,j,k)).bind fun q =>
  (bM data q.2.1 q.2.2.1 q.2.2.2 q.1).bind fun j2 =>
  some (j2.2,j2.1)
 else
  some (0,j)).bind fun q1 =>
 bif q1.1 == 0 then
 some (q1.2,1)
 else
 bif q1.1 == 12 then
  some (q1.2,2)
 else
  some (q1.2,0)
def h170 : Hint:=(.s .z (.s .z (.s .z (.s .z (.s .z (.s .z (.s (.j [9,10,11,12,31,32,33,34,35,36,37,38,39,40,41,42,43,44,45,46,47,48] [(0,[(9,.box (.int .i64) []),(11,.v (.int .i64) [])])] (.s .z (.c (.s (.j [9,10,11,12,33,34,35,36,37,38,39,40,41,42,43] [(0,[(9,.box (.int .i64) []),(10,.v (.int .i64) []),(11,.v (.int .i64) []),(12,.v (.int .i64) [])])] .z) .z) .z))) .z)))))))
def sp170 : Spec fam:=⟨[.v (.slice (.int .i64)) [],.v (.int .i64) [],.v (.int .i64) []],[.v (.int .i64) [],.v (.int .i64) []],fun a => bO a.1 a.2.1 a.2.2.1⟩
def cu (t : List Int × Int × Int) : Option ((List Int × Int × Int) ⊕ List Int) :=
 bif decide (t.2.1 < t.2.2) then
 (inb t.2.2 t.1.length).bind fun i =>
 (t.1[i]?).bind fun x =>
 (inb t.2.1 t.1.length).bind fun i1 =>
 (t.1[i1]?).bind fun x1 =>
 (inb t.2.1 t.1.length).bind fun i2 =>
 (t.1[i2]?).bind fun x2 =>
 (inb t.2.2 (List.set t.1 i2 x).length).bind fun i3 =>
 ((List.set t.1 i2 x)[i3]?).bind fun x3 =>
 some (.inl (List.set (List.set t.1 i2 x) i3 x1,w64 (t.2.1 + 1),w64 (t.2.2 - 1)))
 else
 some (.inr t.1)
def bC (data : List Int) (a : Int) (b : Int) : Option (List Int) :=
 (loop cu (data,a,w64 (b - 1))).bind fun data1 =>
 some data1
def h171 : Hint:=(.s .z (.s .z (.b (.l [(0,.row (.int .i64) false),(6,.v (.int .i64) []),(7,.v (.int .i64) [])] [0,6,7] [(2,[(0,.row (.int .i64) false)])] .z))))
def sp171 : Spec fam:=⟨[.row (.int .i64) false,.v (.int .i64) [],.v (.int .i64) []],[],fun a => bC a.1 a.2.1 a.2.2.1⟩
def bf (b : Int) (t2 : List Int × Int) : Option ((List Int × Int) ⊕ List Int) :=
 bif decide (t2.2 < b) then
 (inb t2.2 t2.1.length).bind fun i14 =>
 (t2.1[i14]?).bind fun x14 =>
 (inb (w64 (t2.2 - 1)) t2.1.length).bind fun i15 =>
 (t2.1[i15]?).bind fun x15 =>
 (aH x14 x15).bind fun x16 =>
 bif ! x16 then
  some (.inr t2.1)
 else
  (inb (w64 (t2.2 - 1)) t2.1.length).bind fun i16 =>
  (t2.1[i16]?).bind fun x17 =>
  (inb t2.2 t2.1.length).bind fun i17 =>
  (t2.1[i17]?).bind fun x18 =>
  (inb t2.2 t2.1.length).bind fun i18 =>
  (t2.1[i18]?).bind fun x19 =>
  (inb (w64 (t2.2 - 1)) (List.set t2.1 i18 x17).length).bind fun i19 =>
  ((List.set t2.1 i18 x17)[i19]?).bind fun x20 =>
  some (.inl (List.set (List.set t2.1 i18 x17) i19 x18,w64 (t2.2 + 1)))
 else
 some (.inr t2.1)
def bh (t1 : List Int × Int) : Option ((List Int × Int) ⊕ List Int) :=
 bif decide (t1.2 ≥ 1) then
 (inb t1.2 t1.1.length).bind fun i8 =>
 (t1.1[i8]?).bind fun x7 =>
 (inb (w64 (t1.2 - 1)) t1.1.length).bind fun i9 =>
 (t1.1[i9]?).bind fun x8 =>
 (aH x7 x8).bind fun x9 =>
 bif ! x9 then
  some (.inr t1.1)
 else
  (inb (w64 (t1.2 - 1)) t1.1.length).bind fun i10 =>
  (t1.1[i10]?).bind fun x10 =>
  (inb t1.2 t1.1.length).bind fun i11 =>
  (t1.1[i11]?).bind fun x11 =>
  (inb t1.2 t1.1.length).bind fun i12 =>
  (t1.1[i12]?).bind fun x12 =>
  (inb (w64 (t1.2 - 1)) (List.set t1.1 i12 x10).length).bind fun i13 =>
  ((List.set t1.1 i12 x10)[i13]?).bind fun x13 =>
  some (.inl (List.set (List.set t1.1 i12 x10) i13 x11,w64 (t1.2 - 1)))
 else
 some (.inr t1.1)
def bi (b : Int) (t : List Int × Int × Int) (i : Int) : Option (Int ⊕ Int) :=
 (
 bif decide (i < b) then
  (inb i t.1.length).bind fun i1 =>
  (t.1[i1]?).bind fun x =>
  (inb (w64 (i - 1)) t.1.length).bind fun i2 =>
  (t.1[i2]?).bind fun x1 =>
  (aH x x1).bind fun x2 =>
  some (! x2)
 else
  some false).bind fun q =>
 bif q then
 some (.inl (w64 (i + 1)))
 else
 some (.inr i)
def bg (a : Int) (b : Int) (t : List Int × Int × Int) : Option ((List Int × Int × Int) ⊕ ((List Int × Bool) ⊕ List Int)) :=
 bif decide (t.2.2 < 5) then
 (
  (loop (bi b t) t.2.1).bind fun i3 =>
  bif i3 == b then
  some (.inr (t.1,true))
  else
  bif decide ((w64 (b - a)) < 50) then
   some (.inr (t.1,false))
  else
   (inb (w64 (i3 - 1)) t.1.length).bind fun i4 =>
   (t.1[i4]?).bind fun x3 =>
   (inb i3 t.1.length).bind fun i5 =>
   (t.1[i5]?).bind fun x4 =>
   (inb i3 t.1.length).bind fun i6 =>
   (t.1[i6]?).bind fun x5 =>
   (inb (w64 (i3 - 1)) (List.set t.1 i6 x3).length).bind fun i7 =>
   ((List.set t.1 i6 x3)[i7]?).bind fun x6 =>
   (
   bif decide ((w64 (i3 - a)) ≥ 2) then
    (loop bh (List.set (List.set t.1 i6 x3) i7 x4,w64 (i3 - 1))).bind fun data1 =>
    some data1
   else
    some (List.set (List.set t.1 i6 x3) i7 x4)).bind fun data2 =>
   bif decide ((w64 (b - i3)) ≥ 2) then
   (loop (bf b) (data2,w64 (i3 + 1))).bind fun data3 =>
   some (.inl (data3,i3))
   else
   some (.inl (data2,i3)) : Option ((List Int × Int) ⊕ (List Int × Bool))).bind fun q0 =>
 match q0 with
 | .inl q1 =>
  some (.inl (q1.1,q1.2,w64 (t.2.2 + 1)))
 | .inr q2 =>
  some (.inr (.inl (q2.1,q2.2)))
 else
 some (.inr (.inr (t.1)))
def aT (data : List Int) (a : Int) (b : Int) : Option (Bool × List Int) :=
 (loop (bg a b) (data,w64 (a + 1),0)).bind fun q0 =>
 match q0 with
 | .inl q3 =>
 some (q3.2,q3.1)
 | .inr data4 =>
 some (false,data4)
def h172 : Hint:=(.s .z (.s .z (.s (.s .z (.b (.l [(0,.row (.int .i64) false),(7,.v (.int .i64) []),(8,.v (.int .i64) [])] [0,6,7,8,9,10,32] [(1,[(0,.row (.int .i64) false),(6,.v .bool [])]),(2,[(0,.row (.int .i64) false)])] (.s .z (.s (.j [0,6,7,9,10,32] [(0,[(0,.row (.int .i64) false),(7,.v (.int .i64) [])]),(1,[(0,.row (.int .i64) false),(6,.v .bool [])])] (.b (.s (.b (.l [(7,.v (.int .i64) [])] [7,32] [(4,[(7,.v (.int .i64) [])])] (.s (.s (.j [] [(0,[(32,.v .bool [])])] .z) .z) .z))) (.s .z (.s .z (.s .z (.s (.j [0,9] [(0,[(0,.row (.int .i64) false)])] (.s .z (.c (.s .z (.b (.l [(0,.row (.int .i64) false),(9,.v (.int .i64) [])] [0,9] [(6,[(0,.row (.int .i64) false)])] .z))) .z))) (.s .z (.c (.s .z (.b (.l [(0,.row (.int .i64) false),(10,.v (.int .i64) [])] [0,10] [(8,[(0,.row (.int .i64) false)])] .z))) .z))))))))) .z))))) .z)))
def sp172 : Spec fam:=⟨[.row (.int .i64) false,.v (.int .i64) [],.v (.int .i64) []],[.v .bool []],fun a => aT a.1 a.2.1 a.2.2.1⟩
def bX (a : Int) (t : List Int × Int × Int) (i7 : Int) (j : Int) : Option (Int ⊕ Int) :=
 (
 bif decide (i7 ≤ j) then
  (inb a t.1.length).bind fun i8 =>
  (t.1[i8]?).bind fun x7 =>
  (inb j t.1.length).bind fun i9 =>
  (t.1[i9]?).bind fun x8 =>
  (aH x7 x8).bind fun x9 =>
  some x9
 else
  some false).bind fun q1 =>
 bif q1 then
 some (.inl (w64 (j - 1)))
 else
 some (.inr j)
def bY (a : Int) (t : List Int × Int × Int) (i4 : Int) : Option (Int ⊕ Int) :=
 (
 bif decide (i4 ≤ t.2.2) then
  (inb a t.1.length).bind fun i5 =>
  (t.1[i5]?).bind fun x4 =>
  (inb i4 t.1.length).bind fun i6 =>
  (t.1[i6]?).bind fun x5 =>
  (aH x4 x5).bind fun x6 =>
  some (! x6)
 else
  some false).bind fun q =>
 bif q then
 some (.inl (w64 (i4 + 1)))
 else
 some (.inr i4)
def b7 (a : Int) (t : List Int × Int × Int) : Option ((List Int × Int × Int) ⊕ ((List Int × Int))) :=
 (loop (bY a t) t.2.1).bind fun i7 =>
 (loop (bX a t i7) t.2.2).bind fun j1 =>
 bif decide (i7 > j1) then
 some (.inr (t.1,i7))
 else
 (inb j1 t.1.length).bind fun i10 =>
 (t.1[i10]?).bind fun x10 =>
 (inb i7 t.1.length).bind fun i11 =>
 (t.1[i11]?).bind fun x11 =>
 (inb i7 t.1.length).bind fun i12 =>
 (t.1[i12]?).bind fun x12 =>
 (inb j1 (List.set t.1 i12 x10).length).bind fun i13 =>
 ((List.set t.1 i12 x10)[i13]?).bind fun x13 =>
 some (.inl (List.set (List.set t.1 i12 x10) i13 x11,w64 (i7 + 1),w64 (j1 - 1)))
def bk (data : List Int) (a : Int) (b : Int) (pivot : Int) : Option (Int × List Int) :=
 (inb pivot data.length).bind fun i =>
 (data[i]?).bind fun x =>
 (inb a data.length).bind fun i1 =>
 (data[i1]?).bind fun x1 =>
 (inb a data.length).bind fun i2 =>
 (data[i2]?).bind fun x2 =>
 (inb pivot (List.set data i2 x).length).bind fun i3 =>
 ((List.set data i2 x)[i3]?).bind fun x3 =>
 (loop (b7 a) (List.set (List.set data i2 x) i3 x1,w64 (a + 1),w64 (b - 1))).bind fun q2 =>
 some (q2.2,q2.1)
def h174 : Hint:=(.s .z (.s .z (.s .z (.s (.b (.l [(0,.row (.int .i64) false),(9,.v (.int .i64) []),(10,.v (.int .i64) [])] [0,9,10,43,59] [(2,[(0,.row (.int .i64) false),(9,.v (.int .i64) [])])] (.b (.s (.b (.l [(9,.v (.int .i64) [])] [9,43] [(4,[(9,.v (.int .i64) [])])] (.s (.s (.j [] [(0,[(43,.v .bool [])])] .z) .z) .z))) (.s (.b (.l [(10,.v (.int .i64) [])] [10,59] [(6,[(10,.v (.int .i64) [])])] (.s (.s (.j [] [(0,[(59,.v .bool [])])] .z) .z) .z))) .z))))) .z))))
def sp174 : Spec fam:=⟨[.row (.int .i64) false,.v (.int .i64) [],.v (.int .i64) [],.v (.int .i64) []],[.v (.int .i64) []],fun a => bk a.1 a.2.1 a.2.2.1 a.2.2.2.1⟩
def c9 (a : Int) (t : List Int × Int × Int) (i21 : Int) (j2 : Int) : Option (Int ⊕ Int) :=
 (
 bif decide (i21 ≤ j2) then
  (inb j2 t.1.length).bind fun i22 =>
  (t.1[i22]?).bind fun x21 =>
  (inb a t.1.length).bind fun i23 =>
  (t.1[i23]?).bind fun x22 =>
  (aH x21 x22).bind fun x23 =>
  some (! x23)
 else
  some false).bind fun q3 =>
 bif q3 then
 some (.inl (w64 (j2 - 1)))
 else
 some (.inr j2)
def dg (a : Int) (t : List Int × Int × Int) (i18 : Int) : Option (Int ⊕ Int) :=
 (
 bif decide (i18 ≤ t.2.2) then
  (inb i18 t.1.length).bind fun i19 =>
  (t.1[i19]?).bind fun x18 =>
  (inb a t.1.length).bind fun i20 =>
  (t.1[i20]?).bind fun x19 =>
  (aH x18 x19).bind fun x20 =>
  some x20
 else
  some false).bind fun q2 =>
 bif q2 then
 some (.inl (w64 (i18 + 1)))
 else
 some (.inr i18)
def df (a : Int) (t : List Int × Int × Int) : Option ((List Int × Int × Int) ⊕ ((List Int × Int))) :=
 (loop (dg a t) t.2.1).bind fun i21 =>
 (loop (c9 a t i21) t.2.2).bind fun j3 =>
 bif decide (i21 > j3) then
 some (.inr (t.1,j3))
 else
 (inb j3 t.1.length).bind fun i24 =>
 (t.1[i24]?).bind fun x24 =>
 (inb i21 t.1.length).bind fun i25 =>
 (t.1[i25]?).bind fun x25 =>
 (inb i21 t.1.length).bind fun i26 =>
 (t.1[i26]?).bind fun x26 =>
 (inb j3 (List.set t.1 i26 x24).length).bind fun i27 =>
 ((List.set t.1 i26 x24)[i27]?).bind fun x27 =>
 some (.inl (List.set (List.set t.1 i26 x24) i27 x25,w64 (i21 + 1),w64 (j3 - 1)))
def da (data : List Int) (a : Int) (x : Int) (x1 : Int) (i2 : Nat) (i3 : Nat) (i7 : Int) (j : Int) : Option (Int ⊕ Int) :=
 (
 bif decide (i7 ≤ j) then
  (inb j (List.set (List.set data i2 x) i3 x1).length).bind fun i8 =>
  ((List.set (List.set data i2 x) i3 x1)[i8]?).bind fun x7 =>
  (inb a (List.set (List.set data i2 x) i3 x1).length).bind fun i9 =>
  ((List.set (List.set data i2 x) i3 x1)[i9]?).bind fun x8 =>
  (aH x7 x8).bind fun x9 =>
  some (! x9)
 else
  some false).bind fun q1 =>
 bif q1 then
 some (.inl (w64 (j - 1)))
 else
 some (.inr j)
def c_ (data : List Int) (a : Int) (b : Int) (x : Int) (x1 : Int) (i2 : Nat) (i3 : Nat) (i4 : Int) : Option (Int ⊕ Int) :=
 (
 bif decide (i4 ≤ (w64 (b - 1))) then
  (inb i4 (List.set (List.set data i2 x) i3 x1).length).bind fun i5 =>
  ((List.set (List.set data i2 x) i3 x1)[i5]?).bind fun x4 =>
  (inb a (List.set (List.set data i2 x) i3 x1).length).bind fun i6 =>
  ((List.set (List.set data i2 x) i3 x1)[i6]?).bind fun x5 =>
  (aH x4 x5).bind fun x6 =>
  some x6
 else
  some false).bind fun q =>
 bif q then
 some (.inl (w64 (i4 + 1)))
 else
 some (.inr i4)
def cg (data : List Int) (a : Int) (b : Int) (pivot : Int) : Option (Int × Bool × List Int) :=
 (inb pivot data.length).bind fun i =>
 (data[i]?).bind fun x =>
 (inb a data.length).bind fun i1 =>
 (data[i1]?).bind fun x1 =>
 (inb a data.length).bind fun i2 =>
 (data[i2]?).bind fun x2 =>
 (inb pivot (List.set data i2 x).length).bind fun i3 =>
 ((List.set data i2 x)[i3]?).bind fun x3 =>
 (loop (c_ data a b x x1 i2 i3) (w64 (a + 1))).bind fun i7 =>
 (loop (da data a x x1 i2 i3 i7) (w64 (b - 1))).bind fun j1 =>
 bif decide (i7 > j1) then
 (inb a (List.set (List.set data i2 x) i3 x1).length).bind fun i10 =>
 ((List.set (List.set data i2 x) i3 x1)[i10]?).bind fun x10 =>
 (inb j1 (List.set (List.set data i2 x) i3 x1).length).bind fun i11 =>
 ((List.set (List.set data i2 x) i3 x1)[i11]?).bind fun x11 =>
 (inb j1 (List.set (List.set data i2 x) i3 x1).length).bind fun i12 =>
 ((List.set (List.set data i2 x) i3 x1)[i12]?).bind fun x12 =>
 (inb a (List.set (List.set (List.set data i2 x) i3 x1) i12 x10).length).bind fun i13 =>
 ((List.set (List.set (List.set data i2 x) i3 x1) i12 x10)[i13]?).bind fun x13 =>
 some (j1,true,List.set (List.set (List.set (List.set data i2 x) i3 x1) i12 x10) i13 x11)
 else
 (inb j1 (List.set (List.set data i2 x) i3 x1).length).bind fun i14 =>
 ((List.set (List.set data i2 x) i3 x1)[i14]?).bind fun x14 =>
 (inb i7 (List.set (List.set data i2 x) i3 x1).length).bind fun i15 =>
 ((List.set (List.set data i2 x) i3 x1)[i15]?).bind fun x15 =>
 (inb i7 (List.set (List.set data i2 x) i3 x1).length).bind fun i16 =>
 ((List.set (List.set data i2 x) i3 x1)[i16]?).bind fun x16 =>
 (inb j1 (List.set (List.set (List.set data i2 x) i3 x1) i16 x14).length).bind fun i17 =>
 ((List.set (List.set (List.set data i2 x) i3 x1) i16 x14)[i17]?).bind fun x17 =>
 (loop (df a) (List.set (List.set (List.set (List.set data i2 x) i3 x1) i16 x14) i17 x15,w64 (i7 + 1),w64 (j1 - 1))).bind fun q4 =>
 (inb a q4.1.length).bind fun i28 =>
 (q4.1[i28]?).bind fun x28 =>
 (inb q4.2 q4.1.length).bind fun i29 =>
 (q4.1[i29]?).bind fun x29 =>
 (inb q4.2 q4.1.length).bind fun i30 =>
 (q4.1[i30]?).bind fun x30 =>
 (inb a (List.set q4.1 i30 x28).length).bind fun i31 =>
 ((List.set q4.1 i30 x28)[i31]?).bind fun x31 =>
 some (q4.2,false,List.set (List.set q4.1 i30 x28) i31 x29)
def h175 : Hint:=(.s .z (.s .z (.s .z (.s (.b (.l [(10,.v (.int .i64) [])] [10,43] [(2,[(10,.v (.int .i64) [])])] (.s (.s (.j [] [(0,[(43,.v .bool [])])] .z) .z) .z))) (.s (.b (.l [(11,.v (.int .i64) [])] [11,60] [(4,[(11,.v (.int .i64) [])])] (.s (.s (.j [] [(0,[(60,.v .bool [])])] .z) .z) .z))) (.s .z (.s .z (.s .z (.s .z (.s (.b (.l [(0,.row (.int .i64) false),(10,.v (.int .i64) []),(11,.v (.int .i64) [])] [0,10,11,112,129] [(6,[(0,.row (.int .i64) false),(11,.v (.int .i64) [])])] (.b (.s (.b (.l [(10,.v (.int .i64) [])] [10,112] [(8,[(10,.v (.int .i64) [])])] (.s (.s (.j [] [(0,[(112,.v .bool [])])] .z) .z) .z))) (.s (.b (.l [(11,.v (.int .i64) [])] [11,129] [(10,[(11,.v (.int .i64) [])])] (.s (.s (.j [] [(0,[(129,.v .bool [])])] .z) .z) .z))) .z))))) .z))))))))))
def sp175 : Spec fam:=⟨[.row (.int .i64) false,.v (.int .i64) [],.v (.int .i64) [],.v (.int .i64) []],[.v (.int .i64) [],.v .bool []],fun a => cg a.1 a.2.1 a.2.2.1 a.2.2.2.1⟩
def de (self : (List Int) → Int → Int → Int → Option (List Int)) (t : List Int × Int × Int × Int × Bool × Bool) : Option ((List Int × Int × Int × Int × Bool × Bool) ⊕ List Int) :=
 let length:=w64 (t.2.2.1 - t.2.1)
 bif decide (length ≤ 12) then
 (bv t.1 t.2.1 t.2.2.1).bind fun x =>
 some (.inr x)
 else
 bif t.2.2.2.1 == 0 then
  (cA t.1 t.2.1 t.2.2.1).bind fun x1 =>
  some (.inr x1)
 else
  (
  bif ! t.2.2.2.2.1 then
   (bw t.1 t.2.1 t.2.2.1).bind fun x2 =>
   some (x2,w64 (t.2.2.2.1 - 1))
  else
   some (t.1,t.2.2.2.1)).bind fun q =>
  (bO q.1 t.2.1 t.2.2.1).bind fun x3 =>
  (
  bif x3.2 == 2 then
   (bC q.1 t.2.1 t.2.2.1).bind fun x4 =>
   let pivot:=w64 ((w64 (t.2.2.1 - 1)) - (w64 (x3.1 - t.2.1)))
   some (x4,pivot,1)
  else
   some (q.1,x3.1,x3.2)).bind fun q1 =>
  (
  (
   bif t.2.2.2.2.1 then
   bif t.2.2.2.2.2 then
    some (q1.2.2 == 1)
   else
    some false
   else
   some false).bind fun q2 =>
  bif q2 then
   (aT q1.1 t.2.1 t.2.2.1).bind fun x5 =>
   bif x5.1 then
   some (.inr (x5.2))
   else
   some (.inl (x5.2))
  else
   some (.inl (q1.1)) : Option (List Int ⊕ List Int)).bind fun q0 =>
  match q0 with
  | .inl data1 =>
  (
   bif decide (t.2.1 > 0) then
   (inb (w64 (t.2.1 - 1)) data1.length).bind fun i =>
   (data1[i]?).bind fun x6 =>
   (inb q1.2.1 data1.length).bind fun i1 =>
   (data1[i1]?).bind fun x7 =>
   (aH x6 x7).bind fun x8 =>
   some (! x8)
   else
   some false).bind fun q3 =>
  bif q3 then
   (bk data1 t.2.1 t.2.2.1 q1.2.1).bind fun mid =>
   some (.inl (mid.2,mid.1,t.2.2.1,q.2,t.2.2.2.2.1,t.2.2.2.2.2))
  else
   (cg data1 t.2.1 t.2.2.1 q1.2.1).bind fun x9 =>
   let leftLen:=w64 (x9.1 - t.2.1)
   let rightLen:=w64 (t.2.2.1 - x9.1)
   bif decide (leftLen < rightLen) then
   let wasBalanced:=decide (leftLen ≥ (w64 (Int.tdiv length 8)))
   (self x9.2.2 t.2.1 x9.1 q.2).bind fun x10 =>
   some (.inl (x10,w64 (x9.1 + 1),t.2.2.1,q.2,wasBalanced,x9.2.1))
   else
   let wasBalanced1:=decide (rightLen ≥ (w64 (Int.tdiv length 8)))
   (self x9.2.2 (w64 (x9.1 + 1)) t.2.2.1 q.2).bind fun x11 =>
   some (.inl (x11,t.2.1,x9.1,q.2,wasBalanced1,x9.2.1))
  | .inr data2 =>
  some (.inr data2)
def dY (self : (List Int) → Int → Int → Int → Option (List Int)) (data : List Int) (a : Int) (b : Int) (limit : Int) : Option (List Int) :=
 (loop (de self) (data,a,b,limit,true,true)).bind fun data3 =>
 some data3
def bj : Nat → (List Int) → Int → Int → Int → Option (List Int)
 | 0 => fun _ _ _ _ => none
 | n + 1 => dY (bj n)
def cN (a0 : List Int) (a1 : Int) (a2 : Int) (a3 : Int) : Option (List Int):=bj 64 a0 a1 a2 a3
def h107 : Hint:=(.s .z (.s .z (.b (.l [(0,.row (.int .i64) false),(1,.v (.int .i64) []),(2,.v (.int .i64) []),(3,.v (.int .i64) []),(8,.v .bool []),(9,.v .bool [])] [0,1,2,3,8,9,10,11,12,13,14,15,16,17,18,68,87] [(1,[(0,.row (.int .i64) false)])] (.b (.s .z (.s .z (.s .z (.s (.j [0,3] [(0,[(0,.row (.int .i64) false),(3,.v (.int .i64) [])])] .z) (.s .z (.s (.j [0,11,12] [(0,[(0,.row (.int .i64) false),(11,.v (.int .i64) []),(12,.v (.int .i64) [])])] .z) (.s (.j [0,68] [(0,[(0,.row (.int .i64) false)]),(1,[(0,.row (.int .i64) false)])] (.s (.j [] [(0,[(68,.v .bool [])])] .z) .z)) (.s (.s (.j [] [(0,[(87,.v .bool [])])] .z) .z) .z)))))))))))))
def sp107 : Spec fam:=⟨[.row (.int .i64) false,.v (.int .i64) [],.v (.int .i64) [],.v (.int .i64) []],[],fun a => cN a.1 a.2.1 a.2.2.1 a.2.2.2.1⟩
def Gv (n : Nat) : Spec fam:=⟨[.row (.int .i64) false,.v (.int .i64) [],.v (.int .i64) [],.v (.int .i64) []],[],fun a => bj n a.1 a.2.1 a.2.2.1 a.2.2.2.1⟩
def d8 (x : List Int) : Option (List Int) :=
 (rY (IntKind.u64.wrap (x.length : Int))).bind fun x1 =>
 (cN x 0 (x.length : Int) x1).bind fun x2 =>
 some x2
def h46 : Hint:=.z
def sp46 : Spec fam:=⟨[.row (.int .i64) false],[],fun a => d8 a.1⟩
def mE (s : State) (t3 : State) (t4 : List Int × Int) : Option ((List Int × Int) ⊕ List Int) :=
 bif decide (t4.2 < (s.Conts.length : Int)) then
 (
  (idx s.Conts t4.2).bind fun x5 =>
  (nA t3.Conts (fun a' => kM a'.1 x5)).bind fun x6 =>
  bif ! x6 then
  (app 8 t4.1 [x5.Id]).bind fun l =>
  some l
  else
  some t4.1).bind fun gone =>
 some (.inl (gone,w64 (t4.2 + 1)))
 else
 some (.inr t4.1)
def mr (x2 : List Int) (t1 : State × Int) : Option ((State × Int) ⊕ State) :=
 bif decide (t1.2 < (x2.length : Int)) then
 (inb t1.2 x2.length).bind fun i =>
 (x2[i]?).bind fun x3 =>
 (jx t1.1.Conts (fun a' => kG a'.1 x3)).bind fun i1 =>
 (inb i1 t1.1.Conts.length).bind fun i2 =>
 (t1.1.Conts[i2]?).bind fun x4 =>
 some (.inl ((⟨⟨t1.1.Conf.Labels,t1.1.Conf.Queues⟩,t1.1.Nodes,t1.1.Apps,List.set t1.1.Conts i2 (⟨x4.Id,x4.App,x4.Node,⟨x4.Size.Mem,x4.Size.Cores⟩,x4.Prio,x4.Label,x4.Master,imax t1.1.Now 1⟩ : Cont),t1.1.Slots,t1.1.Plans,t1.1.Now,t1.1.Epoch,t1.1.Seq⟩ : State),w64 (t1.2 + 1)))
 else
 some (.inr t1.1)
def my (s : State) (t : State × Int) : Option ((State × Int) ⊕ State) :=
 bif decide (t.2 < (s.Conf.Labels.length : Int)) then
 (nR t.1 t.2).bind fun x1 =>
 (kV x1 t.2).bind fun x2 =>
 (loop (mr x2) (x1,0)).bind fun t2 =>
 some (.inl (t2,w64 (t.2 + 1)))
 else
 some (.inr t.1)
def dJ (s : State) : Option (State × List Int) :=
 (pz s []).bind fun x =>
 (loop (my s) (x,0)).bind fun t3 =>
 (loop (mE s t3) ([],0)).bind fun gone1 =>
 (d8 gone1).bind fun x7 =>
 some (t3,x7)
def h14 : Hint:=(.s .z (.s .z (.s (.s .z (.b (.l [(2,.box (.st 10) [0,1001,2,1003,4,5,6]),(16,.v (.int .i64) [])] [2,4,6,7,11,16,17,18,19,20,21,22,23,24,25,26,27,28,29,30,31,32,33,34,35,36,37,38,39,40,41,42,43] [(2,[(2,.box (.st 10) [0,1001,2,1003,4,5,6])])] (.s .z (.s .z (.s (.b (.s .z (.s .z (.s .z (.b (.l [(2,.box (.st 10) [0,1001,2,1003,4,5,6]),(26,.v (.int .i64) [])] [2,6,7,21,22,26,27,28,29,30,31,32,33,34,35,36,37,38,39,40,41,42] [(4,[(2,.box (.st 10) [0,1001,2,1003,4,5,6])])] .z)))))) .z)))))) (.s (.s .z (.b (.l [(3,.v (.slice (.int .i64)) [0]),(47,.v (.int .i64) [])] [3,9,47] [(6,[(3,.v (.slice (.int .i64)) [0])])] (.s .z (.s .z (.s (.j [3,9] [(0,[(3,.v (.slice (.int .i64)) [0])])] .z) .z)))))) .z))))
def sp14 : Spec fam:=⟨[.v (.st 10) []],[.v (.st 10) [0,1001,2,1003,4,5,6],.v (.slice (.int .i64)) [0]],fun a => dJ a.1⟩
def jL (x2 : Queue) (x3 : Queue) (k : Int) : Option (Int ⊕ (Bool ⊕ Unit)) :=
 bif decide (k < (x2.Caps.length : Int)) then
 (idx x2.Caps k).bind fun x4 =>
 (idx x3.Caps k).bind fun x5 =>
 bif ! ((x4.Least == x5.Least) && (x4.Most == x5.Most)) then
  some (.inr (.inl false))
 else
  some (.inl (w64 (k + 1)))
 else
 some (.inr (.inr ()))
def jX (a : Conf) (b : Conf) (i1 : Int) : Option (Int ⊕ (Bool ⊕ Unit)) :=
 bif decide (i1 < (a.Queues.length : Int)) then
 (idx a.Queues i1).bind fun x2 =>
 (idx b.Queues i1).bind fun x3 =>
 (
  bif ! (x2.Path == x3.Path) then
  some true
  else
  bif x2.User != x3.User then
   some true
  else
   some ((x2.Caps.length : Int) != (x3.Caps.length : Int))).bind fun q2 =>
 bif q2 then
  some (.inr (.inl false))
 else
  (loop (jL x2 x3) 0).bind fun q0 =>
  match q0 with
  | .inl q3 =>
  some (.inr (.inl q3))
  | .inr _ =>
  some (.inl (w64 (i1 + 1)))
 else
 some (.inr (.inr ()))
def jY (a : Conf) (b : Conf) (i : Int) : Option (Int ⊕ (Bool ⊕ Unit)) :=
 bif decide (i < (a.Labels.length : Int)) then
 (idx a.Labels i).bind fun x =>
 (idx b.Labels i).bind fun x1 =>
 bif ! (x == x1) then
  some (.inr (.inl false))
 else
  some (.inl (w64 (i + 1)))
 else
 some (.inr (.inr ()))
def iK (a : Conf) (b : Conf) : Option Bool :=
 (
 bif (a.Labels.length : Int) != (b.Labels.length : Int) then
  some true
 else
  some ((a.Queues.length : Int) != (b.Queues.length : Int))).bind fun q =>
 bif q then
 some false
 else
 (loop (jY a b) 0).bind fun q0 =>
 match q0 with
 | .inl q1 =>
  some q1
 | .inr _ =>
  (loop (jX a b) 0).bind fun q0 =>
  match q0 with
  | .inl q4 =>
  some q4
  | .inr _ =>
  some true
def h50 : Hint:=(.s .z (.s (.s (.j [] [(0,[(25,.v .bool [])])] .z) .z) (.s (.s .z (.b (.l [(5,.v (.int .i64) [])] [4,5] [(1,[(4,.v .bool [])]),(2,[])] .z))) (.s (.s .z (.b (.l [(6,.v (.int .i64) [])] [4,6,7,8,9,81] [(1,[(4,.v .bool [])]),(4,[])] (.s .z (.s (.b (.s .z (.s (.s (.j [] [(0,[(81,.v .bool [])])] .z) .z) (.s .z (.b (.l [(9,.v (.int .i64) [])] [4,9] [(1,[(4,.v .bool [])]),(6,[])] .z)))))) .z))))) .z))))
def sp50 : Spec fam:=⟨[.v (.st 3) [],.v (.st 3) []],[.v .bool []],fun a => iK a.1 a.2.1⟩
def jl (a : List Int) (b : List Int) (i : Int) : Option (Int ⊕ (Bool ⊕ Unit)) :=
 bif decide (i < (a.length : Int)) then
 (idx a i).bind fun x =>
 (idx b i).bind fun x1 =>
 bif x != x1 then
  some (.inr (.inl false))
 else
  some (.inl (w64 (i + 1)))
 else
 some (.inr (.inr ()))
def b_ (a : List Int) (b : List Int) : Option Bool :=
 bif (a.length : Int) != (b.length : Int) then
 some false
 else
 (loop (jl a b) 0).bind fun q0 =>
 match q0 with
 | .inl q =>
  some q
 | .inr _ =>
  some true
def h111 : Hint:=(.s .z (.s .z (.s (.s .z (.b (.l [(5,.v (.int .i64) [])] [4,5] [(1,[(4,.v .bool [])]),(2,[])] .z))) .z)))
def sp111 : Spec fam:=⟨[.v (.slice (.int .i64)) [],.v (.slice (.int .i64)) []],[.v .bool []],fun a => b_ a.1 a.2.1⟩
def j8 (a : App) (b : App) (i : Int) : Option (Int ⊕ (Bool ⊕ Unit)) :=
 bif decide (i < (a.Asks.length : Int)) then
 (idx a.Asks i).bind fun x =>
 (idx b.Asks i).bind fun x1 =>
 bif ! ((x.Prio == x1.Prio) && ((x.Label == x1.Label) && (((x.Size.Mem == x1.Size.Mem) && (x.Size.Cores == x1.Size.Cores)) && ((x.Count == x1.Count) && ((x.Node == x1.Node) && ((x.Rack == x1.Rack) && (x.Missed == x1.Missed))))))) then
  some (.inr (.inl false))
 else
  some (.inl (w64 (i + 1)))
 else
 some (.inr (.inr ()))
def iG (a : App) (b : App) : Option Bool :=
 (
 bif a.Id != b.Id then
  some true
 else
  bif a.State != b.State then
  some true
  else
  bif ! (a.Queue == b.Queue) then
   some true
  else
   bif a.User != b.User then
   some true
   else
   bif a.Prio != b.Prio then
    some true
   else
    bif ! ((a.Master.Mem == b.Master.Mem) && (a.Master.Cores == b.Master.Cores)) then
    some true
    else
    bif a.Seen != b.Seen then
     some true
    else
     bif a.Beat != b.Beat then
     some true
     else
     some ((a.Asks.length : Int) != (b.Asks.length : Int))).bind fun q =>
 bif q then
 some false
 else
 (loop (j8 a b) 0).bind fun q0 =>
 match q0 with
 | .inl q1 =>
  some q1
 | .inr _ =>
  (b_ a.Grants b.Grants).bind fun x2 =>
  bif x2 then
  (b_ a.Kills b.Kills).bind fun x3 =>
  bif x3 then
   (b_ a.Told b.Told).bind fun x4 =>
   bif x4 then
   (b_ a.Lost b.Lost).bind fun x5 =>
   some x5
   else
   some false
  else
   some false
  else
  some false
def h51 : Hint:=(.s .z (.s (.s (.j [] [(0,[(68,.v .bool [])])] .z) .z) (.s (.s .z (.b (.l [(5,.v (.int .i64) [])] [4,5] [(1,[(4,.v .bool [])]),(2,[])] .z))) .z)))
def sp51 : Spec fam:=⟨[.v (.st 6) [],.v (.st 6) []],[.v .bool []],fun a => iG a.1 a.2.1⟩
def iZ (a : State) (b : State) (t4 : Bool × Int) : Option ((Bool × Int) ⊕ Bool) :=
 bif decide (t4.2 < (a.Plans.length : Int)) then
 (
  bif t4.1 then
  (idx a.Plans t4.2).bind fun x10 =>
  (idx b.Plans t4.2).bind fun x11 =>
  let ok11:=(x10.Id == x11.Id) && ((x10.Label == x11.Label) && ((x10.From == x11.From) && ((x10.Until == x11.Until) && ((x10.Need.Mem == x11.Need.Mem) && (x10.Need.Cores == x11.Need.Cores)))))
  some ok11
  else
  some false).bind fun ok12 =>
 some (.inl (ok12,w64 (t4.2 + 1)))
 else
 some (.inr t4.1)
def iU (a : State) (b : State) (t3 : Bool × Int) : Option ((Bool × Int) ⊕ Bool) :=
 bif decide (t3.2 < (a.Slots.length : Int)) then
 (
  bif t3.1 then
  (idx a.Slots t3.2).bind fun x8 =>
  (idx b.Slots t3.2).bind fun x9 =>
  let ok8:=(x8.Node == x9.Node) && ((x8.App == x9.App) && (x8.Prio == x9.Prio))
  some ok8
  else
  some false).bind fun ok9 =>
 some (.inl (ok9,w64 (t3.2 + 1)))
 else
 some (.inr t3.1)
def jg (a : State) (b : State) (t2 : Bool × Int) : Option ((Bool × Int) ⊕ Bool) :=
 bif decide (t2.2 < (a.Conts.length : Int)) then
 (
  bif t2.1 then
  (idx a.Conts t2.2).bind fun x6 =>
  (idx b.Conts t2.2).bind fun x7 =>
  let ok5:=(x6.Id == x7.Id) && ((x6.App == x7.App) && ((x6.Node == x7.Node) && (((x6.Size.Mem == x7.Size.Mem) && (x6.Size.Cores == x7.Size.Cores)) && ((x6.Prio == x7.Prio) && ((x6.Label == x7.Label) && ((x6.Master == x7.Master) && (x6.Notice == x7.Notice)))))))
  some ok5
  else
  some false).bind fun ok6 =>
 some (.inl (ok6,w64 (t2.2 + 1)))
 else
 some (.inr t2.1)
def ji (a : State) (b : State) (t1 : Bool × Int) : Option ((Bool × Int) ⊕ Bool) :=
 bif decide (t1.2 < (a.Apps.length : Int)) then
 (
  bif t1.1 then
  (idx a.Apps t1.2).bind fun x3 =>
  (idx b.Apps t1.2).bind fun x4 =>
  (iG x3 x4).bind fun x5 =>
  some x5
  else
  some false).bind fun ok3 =>
 some (.inl (ok3,w64 (t1.2 + 1)))
 else
 some (.inr t1.1)
def iQ (a : State) (b : State) (t : Bool × Int) : Option ((Bool × Int) ⊕ Bool) :=
 bif decide (t.2 < (a.Nodes.length : Int)) then
 (
  bif t.1 then
  (idx a.Nodes t.2).bind fun x1 =>
  (idx b.Nodes t.2).bind fun x2 =>
  let ok:=(x1.Id == x2.Id) && ((x1.Label == x2.Label) && ((x1.Rack == x2.Rack) && (((x1.Cap.Mem == x2.Cap.Mem) && (x1.Cap.Cores == x2.Cap.Cores)) && ((x1.Seen == x2.Seen) && ((x1.Beat == x2.Beat) && (x1.Up == x2.Up))))))
  some ok
  else
  some false).bind fun ok1 =>
 some (.inl (ok1,w64 (t.2 + 1)))
 else
 some (.inr t.1)
def gW (a : State) (b : State) : Option Bool :=
 (
 (iK a.Conf b.Conf).bind fun x =>
 bif ! x then
  some true
 else
  bif a.Now != b.Now then
  some true
  else
  bif a.Epoch != b.Epoch then
   some true
  else
   bif a.Seq != b.Seq then
   some true
   else
   bif (a.Nodes.length : Int) != (b.Nodes.length : Int) then
    some true
   else
    bif (a.Apps.length : Int) != (b.Apps.length : Int) then
    some true
    else
    bif (a.Conts.length : Int) != (b.Conts.length : Int) then
     some true
    else
     bif (a.Slots.length : Int) != (b.Slots.length : Int) then
     some true
     else
     some ((a.Plans.length : Int) != (b.Plans.length : Int))).bind fun q =>
 bif q then
 some false
 else
 (loop (iQ a b) (true,0)).bind fun ok2 =>
 (loop (ji a b) (ok2,0)).bind fun ok4 =>
 (loop (jg a b) (ok4,0)).bind fun ok7 =>
 (loop (iU a b) (ok7,0)).bind fun ok10 =>
 (loop (iZ a b) (ok10,0)).bind fun ok13 =>
 some ok13
def h16 : Hint:=(.s .z (.s (.s (.j [] [(0,[(82,.v .bool [])])] .z) .z) (.s .z (.s (.s .z (.b (.l [(5,.v .bool []),(6,.v (.int .i64) [])] [5,6] [(2,[(5,.v .bool [])])] (.s .z (.s (.j [5] [(0,[(5,.v .bool [])])] .z) .z))))) (.s (.s .z (.b (.l [(5,.v .bool []),(7,.v (.int .i64) [])] [5,7] [(4,[(5,.v .bool [])])] (.s .z (.s (.j [5] [(0,[(5,.v .bool [])])] .z) .z))))) (.s (.s .z (.b (.l [(5,.v .bool []),(8,.v (.int .i64) [])] [5,8] [(6,[(5,.v .bool [])])] (.s .z (.s (.j [5] [(0,[(5,.v .bool [])])] .z) .z))))) (.s (.s .z (.b (.l [(5,.v .bool []),(9,.v (.int .i64) [])] [5,9] [(8,[(5,.v .bool [])])] (.s .z (.s (.j [5] [(0,[(5,.v .bool [])])] .z) .z))))) (.s (.s .z (.b (.l [(5,.v .bool []),(10,.v (.int .i64) [])] [5,10] [(10,[(5,.v .bool [])])] (.s .z (.s (.j [5] [(0,[(5,.v .bool [])])] .z) .z))))) .z))))))))
def sp16 : Spec fam:=⟨[.v (.st 10) [],.v (.st 10) []],[.v .bool []],fun a => gW a.1 a.2.1⟩
def dH : Option State :=
 some (⟨⟨[([] : List UInt8)],[(⟨([114,111,111,116] : List UInt8),[(⟨10000,10000⟩ : Cap)],10000⟩ : Queue)]⟩,[],[],[],[],[],0,0,0⟩ : State)
def h24 : Hint:=.z
noncomputable def sp24 : Spec fam:=⟨[],[.v (.st 10) [0,1,2,3,4,5,6]],fun _ => dH⟩
def dV : Option Bool :=
 (dH).bind fun x =>
 (dJ x).bind fun x1 =>
 (gW x x1.1).bind fun x2 =>
 bif x2 then
 bif (x1.2.length : Int) == 0 then
  (kV x 0).bind fun x3 =>
  bif (x3.length : Int) == 0 then
  some ((x1.1.Conf.Queues.length : Int) == 1)
  else
  some false
 else
  some false
 else
 some false
def h7 : Hint:=.z
noncomputable def sp7 : Spec fam:=⟨[],[.v .bool []],fun _ => dV⟩
def au (at_ : Int) (n : Int) : Option Int :=
 (nz n).bind fun _ =>
 (
 bif decide ((Int.tmod at_ n) < 0) then
  let k:=w64 ((Int.tmod at_ n) + n)
  some k
 else
  some (Int.tmod at_ n)).bind fun k1 =>
 some k1
def h23 : Hint:=(.s .z (.s .z (.s (.j [5] [(0,[(5,.v (.int .i64) [])])] .z) .z)))
def sp23 : Spec fam:=⟨[.v (.int .i64) [],.v (.int .i64) []],[.v (.int .i64) []],fun a => au a.1 a.2.1⟩
def iP (s : State) (id_ : Int) (t : App × Int) : Option ((App × Int) ⊕ ((App × Bool) ⊕ App)) :=
 bif decide (t.2 < (s.Apps.length : Int)) then
 (idx s.Apps t.2).bind fun x =>
 bif x.Id == id_ then
  (idx s.Apps t.2).bind fun x1 =>
  some (.inr (.inl (x1,true)))
 else
  some (.inl (t.1,w64 (t.2 + 1)))
 else
 some (.inr (.inr (t.1)))
def b8 (s : State) (id_ : Int) : Option (App × Bool) :=
 (loop (iP s id_) ((⟨0,0,[],0,0,⟨0,0⟩,[],0,0,[],[],[],[]⟩ : App),0)).bind fun q0 =>
 match q0 with
 | .inl q =>
 some (q.1,q.2)
 | .inr q1 =>
 some ((⟨0,0,[],0,0,⟨0,0⟩,[],0,0,[],[],[],[]⟩ : App),false)
def h19 : Hint:=(.s .z (.s (.s .z (.b (.l [(4,.box (.st 6) [7,10,11,12,13]),(6,.v (.int .i64) [])] [4,5,6] [(1,[(4,.box (.st 6) []),(5,.v .bool [])]),(2,[(4,.box (.st 6) [7,10,11,12,13])])] .z))) .z))
def sp19 : Spec fam:=⟨[.v (.st 10) [],.v (.int .i64) []],[.v (.st 6) [],.v .bool []],fun a => b8 a.1 a.2.1⟩
def aY (a : App) : Option Bool :=
 bif a.State == 1 then
 some true
 else
 some (a.State == 2)
def h57 : Hint:=.z
def sp57 : Spec fam:=⟨[.v (.st 6) []],[.v .bool []],fun a => aY a.1⟩
def uj (s : State) (id_ : Int) (t1 : List Slot × Int) : Option ((List Slot × Int) ⊕ List Slot) :=
 bif decide (t1.2 < (s.Slots.length : Int)) then
 (
  (idx s.Slots t1.2).bind fun x3 =>
  bif x3.App != id_ then
  (idx s.Slots t1.2).bind fun x4 =>
  (app 24 t1.1 [x4]).bind fun l2 =>
  some l2
  else
  some t1.1).bind fun slots =>
 some (.inl (slots,w64 (t1.2 + 1)))
 else
 some (.inr t1.1)
def uf (s : State) (id_ : Int) (t : List Cont × List Int × Int) : Option ((List Cont × List Int × Int) ⊕ ((List Cont × List Int))) :=
 bif decide (t.2.2 < (s.Conts.length : Int)) then
 (
  (idx s.Conts t.2.2).bind fun x =>
  bif x.App == id_ then
  (idx s.Conts t.2.2).bind fun x1 =>
  (app 8 t.2.1 [x1.Id]).bind fun l =>
  some (t.1,l)
  else
  (idx s.Conts t.2.2).bind fun x2 =>
  (app 72 t.1 [x2]).bind fun l1 =>
  some (l1,t.2.1)).bind fun q =>
 some (.inl (q.1,q.2,w64 (t.2.2 + 1)))
 else
 some (.inr (t.1,t.2.1))
def pq (s : State) (id_ : Int) : Option (State × List Int) :=
 (loop (uf s id_) ([],[],0)).bind fun q1 =>
 (loop (uj s id_) ([],0)).bind fun slots1 =>
 some ((⟨⟨s.Conf.Labels,s.Conf.Queues⟩,s.Nodes,s.Apps,q1.1,slots1,s.Plans,s.Now,s.Epoch,s.Seq⟩ : State),q1.2)
def h61 : Hint:=(.s .z (.s .z (.s .z (.s .z (.s (.s .z (.b (.l [(6,.v (.slice (.st 7)) [0]),(8,.v (.slice (.int .i64)) [0]),(9,.v (.int .i64) [])] [6,8,9] [(2,[(6,.v (.slice (.st 7)) [0]),(8,.v (.slice (.int .i64)) [0])])] (.s .z (.s (.j [6,8] [(0,[(6,.v (.slice (.st 7)) [0]),(8,.v (.slice (.int .i64)) [0])])] .z) .z))))) (.s (.s .z (.b (.l [(7,.v (.slice (.st 8)) [0]),(10,.v (.int .i64) [])] [7,10] [(4,[(7,.v (.slice (.st 8)) [0])])] (.s .z (.s (.j [7] [(0,[(7,.v (.slice (.st 8)) [0])])] .z) .z))))) .z))))))
def sp61 : Spec fam:=⟨[.v (.st 10) [],.v (.int .i64) []],[.v (.st 10) [4,5],.v (.slice (.int .i64)) [0]],fun a => pq a.1 a.2.1⟩
def uT (s : State) (a : App) (k : Int) : Option (Int ⊕ Int) :=
 (
 bif decide (k < (s.Apps.length : Int)) then
  (idx s.Apps k).bind fun x =>
  some (decide (x.Id < a.Id))
 else
  some false).bind fun q =>
 bif q then
 some (.inl (w64 (k + 1)))
 else
 some (.inr k)
def qp (s : State) (a : App) : Option State :=
 (loop (uT s a) 0).bind fun k1 =>
 (slc s.Apps 0 k1).bind fun l =>
 (app 200 [] l).bind fun l1 =>
 (app 200 l1 [a]).bind fun l2 =>
 (
 (
  bif decide (k1 < (s.Apps.length : Int)) then
  (idx s.Apps k1).bind fun x1 =>
  some (x1.Id == a.Id)
  else
  some false).bind fun q1 =>
 bif q1 then
  some (w64 (k1 + 1))
 else
  some k1).bind fun k2 =>
 (slc s.Apps k2 (s.Apps.length : Int)).bind fun l3 =>
 (app 200 l2 l3).bind fun l4 =>
 some (⟨⟨s.Conf.Labels,s.Conf.Queues⟩,s.Nodes,l4,s.Conts,s.Slots,s.Plans,s.Now,s.Epoch,s.Seq⟩ : State)
def h62 : Hint:=(.s .z (.s .z (.s (.b (.l [(5,.v (.int .i64) [])] [5,22] [(2,[(5,.v (.int .i64) [])])] (.s (.s (.j [] [(0,[(22,.v .bool [])])] .z) .z) .z))) (.s .z (.s .z (.s (.j [5,50] [(0,[(5,.v (.int .i64) [])])] (.s (.j [] [(0,[(50,.v .bool [])])] .z) .z)) .z))))))
def sp62 : Spec fam:=⟨[.v (.st 10) [],.v (.st 6) []],[.v (.st 10) [3]],fun a => qp a.1 a.2.1⟩
def qr (s : State) (id_ : Int) (state : Int) : Option (State × List Int) :=
 (b8 s id_).bind fun x =>
 (
 bif ! x.2 then
  some true
 else
  (aY x.1).bind fun x1 =>
  some (! x1)).bind fun q =>
 bif q then
 some (s,[])
 else
 (qp s (⟨x.1.Id,state,x.1.Queue,x.1.User,x.1.Prio,⟨x.1.Master.Mem,x.1.Master.Cores⟩,[],x.1.Seen,x.1.Beat,[],[],[],[]⟩ : App)).bind fun x2 =>
 (pq x2 id_).bind fun x3 =>
 some (x3.1,x3.2)
def h25 : Hint:=(.s .z (.s .z (.s (.s (.j [] [(0,[(22,.v .bool [])])] .z) .z) .z)))
def sp25 : Spec fam:=⟨[.v (.st 10) [],.v (.int .i64) [],.v (.int .i64) []],[.v (.st 10) [],.v (.slice (.int .i64)) [0]],fun a => qr a.1 a.2.1 a.2.2.1⟩
def oq (x3 : State × List Int) (t1 : Int × Int) : Option ((Int × Int) ⊕ Int) :=
 bif decide (t1.2 < (x3.1.Conts.length : Int)) then
 (
  (inb t1.2 x3.1.Conts.length).bind fun i =>
  (x3.1.Conts[i]?).bind fun x4 =>
  bif x4.Notice == 5 then
  some (w64 (t1.1 + 1))
  else
  some t1.1).bind fun n =>
 some (.inl (n,w64 (t1.2 + 1)))
 else
 some (.inr t1.1)
def ov (units1 : Int) (t : State × Int) : Option ((State × Int) ⊕ State) :=
 bif decide (t.2 ≤ units1) then
 (app 72 t.1.Conts [(⟨t.2,1,1,⟨1,1⟩,0,0,t.2 == 1,0⟩ : Cont)]).bind fun l1 =>
 some (.inl ((⟨⟨t.1.Conf.Labels,t.1.Conf.Queues⟩,t.1.Nodes,t.1.Apps,l1,t.1.Slots,t.1.Plans,t.1.Now,t.1.Epoch,t.1.Seq⟩ : State),w64 (t.2 + 1)))
 else
 some (.inr t.1)
def pZ (units : Int) (wait : Int) (gone : Bool) : Option Bool :=
 (dV).bind fun x =>
 bif ! x then
 some false
 else
 (au units 8).bind fun x1 =>
 let units1:=w64 (2 * (w64 (1 + x1)))
 (dH).bind fun x2 =>
 (app 48 x2.Conf.Queues [(⟨([114,111,111,116,46,97] : List UInt8),[(⟨5000,10000⟩ : Cap)],1000000⟩ : Queue),(⟨([114,111,111,116,46,98] : List UInt8),[(⟨5000,10000⟩ : Cap)],1000000⟩ : Queue)]).bind fun l =>
 (loop (ov units1) ((⟨⟨x2.Conf.Labels,l⟩,[(⟨1,0,0,⟨units1,units1⟩,0,0,true⟩ : Node)],[(⟨1,2,([114,111,111,116,46,97] : List UInt8),0,0,⟨1,1⟩,[],0,0,[],[],[],[]⟩ : App),(⟨2,1,([114,111,111,116,46,98] : List UInt8),0,0,⟨1,1⟩,[(⟨0,0,⟨1,1⟩,1,(-1),(-1),0⟩ : Ask)],0,0,[],[],[],[]⟩ : App)],x2.Conts,x2.Slots,x2.Plans,x2.Now,x2.Epoch,x2.Seq⟩ : State),1)).bind fun s =>
 (dJ (⟨⟨s.Conf.Labels,s.Conf.Queues⟩,s.Nodes,s.Apps,s.Conts,s.Slots,s.Plans,5,s.Epoch,s.Seq⟩ : State)).bind fun x3 =>
 (loop (oq x3) (0,0)).bind fun n1 =>
 (
  bif (x3.2.length : Int) != 0 then
  some true
  else
  bif n1 != 1 then
   some true
  else
   (inb (w64 (units1 - 1)) x3.1.Conts.length).bind fun i1 =>
   (x3.1.Conts[i1]?).bind fun x5 =>
   some (x5.Notice != 5)).bind fun q =>
 bif q then
  some false
 else
  (
  bif gone then
   (qr x3.1 2 4).bind fun x6 =>
   some x6.1
  else
   some x3.1).bind fun s1 =>
  (au wait 7).bind fun wait1 =>
  (dJ (⟨⟨s1.Conf.Labels,s1.Conf.Queues⟩,s1.Nodes,s1.Apps,s1.Conts,s1.Slots,s1.Plans,w64 (5 + wait1),s1.Epoch,s1.Seq⟩ : State)).bind fun x7 =>
  bif decide (wait1 < 3) then
  bif (x7.2.length : Int) == 0 then
   bif (x7.1.Conts.length : Int) == units1 then
   (inb (w64 (units1 - 1)) x7.1.Conts.length).bind fun i2 =>
   (x7.1.Conts[i2]?).bind fun x8 =>
   some (x8.Notice == 5)
   else
   some false
  else
   some false
  else
  bif gone then
   bif (x7.2.length : Int) == 0 then
   bif (x7.1.Conts.length : Int) == units1 then
    (inb (w64 (units1 - 1)) x7.1.Conts.length).bind fun i3 =>
    (x7.1.Conts[i3]?).bind fun x9 =>
    some (x9.Notice == 0)
   else
    some false
   else
   some false
  else
   bif (x7.2.length : Int) == 1 then
   (inb 0 x7.2.length).bind fun i4 =>
   (x7.2[i4]?).bind fun x10 =>
   bif x10 == units1 then
    some ((x7.1.Conts.length : Int) == (w64 (units1 - 1)))
   else
    some false
   else
   some false
def h5 : Hint:=(.s .z (.s .z (.s .z (.s .z (.s .z (.s .z (.s .z (.s .z (.s (.s .z (.b (.l [(7,.box (.st 10) [0,1,2,3,4,5,6]),(9,.v (.int .i64) [])] [7,9] [(2,[(7,.box (.st 10) [0,1,2,3,4,5,6])])] .z))) (.s .z (.s .z (.s .z (.s (.s .z (.b (.l [(11,.v (.int .i64) []),(12,.v (.int .i64) [])] [11,12] [(4,[(11,.v (.int .i64) [])])] (.s .z (.s (.j [11] [(0,[(11,.v (.int .i64) [])])] .z) .z))))) (.s (.s (.j [] [(0,[(104,.v .bool [])])] .z) .z) (.s (.j [7] [(0,[(7,.box (.st 10) [])])] .z) .z)))))))))))))))
def sp5 : Spec fam:=⟨[.v (.int .i64) [],.v (.int .i64) [],.v .bool []],[.v .bool []],fun a => pZ a.1 a.2.1 a.2.2.1⟩
def jJ (s : List UInt8) (i : Int) : Option (Int ⊕ (Bool ⊕ Unit)) :=
 bif decide (i < (s.length : Int)) then
 (idx s i).bind fun ch =>
 (
  bif decide ((ch.toNat : Int) < 97) then
  bif decide ((ch.toNat : Int) < 48) then
   some ((ch.toNat : Int) != 45)
  else
   bif decide ((ch.toNat : Int) > 57) then
   some ((ch.toNat : Int) != 45)
   else
   some false
  else
  bif decide ((ch.toNat : Int) > 122) then
   bif decide ((ch.toNat : Int) < 48) then
   some ((ch.toNat : Int) != 45)
   else
   bif decide ((ch.toNat : Int) > 57) then
    some ((ch.toNat : Int) != 45)
   else
    some false
  else
   some false).bind fun q1 =>
 bif q1 then
  some (.inr (.inl false))
 else
  some (.inl (w64 (i + 1)))
 else
 some (.inr (.inr ()))
def eG (s : List UInt8) : Option Bool :=
 (
 bif decide ((s.length : Int) < 1) then
  some true
 else
  some (decide ((s.length : Int) > 12))).bind fun q =>
 bif q then
 some false
 else
 (loop (jJ s) 0).bind fun q0 =>
 match q0 with
 | .inl q2 =>
  some q2
 | .inr _ =>
  some true
def h178 : Hint:=(.s .z (.s (.s (.j [] [(0,[(12,.v .bool [])])] .z) .z) (.s (.s .z (.b (.l [(3,.v (.int .i64) [])] [2,3,39] [(1,[(2,.v .bool [])]),(2,[])] (.s .z (.s (.b (.s .z (.s (.j [] [(0,[(39,.v .bool [])])] .z) .z))) .z))))) .z)))
def sp178 : Spec fam:=⟨[.v .str []],[.v .bool []],fun a => eG a.1⟩
def g9 (c : Conf) (i1 : Int) (k : Int) : Option (Int ⊕ (Int ⊕ Unit)) :=
 bif decide (k < i1) then
 (idx c.Labels i1).bind fun x3 =>
 (idx c.Labels k).bind fun x4 =>
 bif x3 == x4 then
  some (.inr (.inl 7))
 else
  some (.inl (w64 (k + 1)))
 else
 some (.inr (.inr ()))
def h_ (c : Conf) (i1 : Int) : Option (Int ⊕ (Int ⊕ Unit)) :=
 bif decide (i1 < (c.Labels.length : Int)) then
 (loop (g9 c i1) 1).bind fun q0 =>
 match q0 with
 | .inl q2 =>
  some (.inr (.inl q2))
 | .inr _ =>
  some (.inl (w64 (i1 + 1)))
 else
 some (.inr (.inr ()))
def hF (c : Conf) (i : Int) : Option (Int ⊕ (Int ⊕ Unit)) :=
 bif decide (i < (c.Labels.length : Int)) then
 (idx c.Labels i).bind fun x1 =>
 (eG x1).bind fun x2 =>
 bif ! x2 then
  some (.inr (.inl 12))
 else
  some (.inl (w64 (i + 1)))
 else
 some (.inr (.inr ()))
def dT (c : Conf) : Option Int :=
 (
 bif decide ((c.Labels.length : Int) < 1) then
  some true
 else
  bif decide ((c.Labels.length : Int) > 3) then
  some true
  else
  some (decide ((c.Queues.length : Int) > 16))).bind fun q =>
 bif q then
 some 4
 else
 (idx c.Labels 0).bind fun x =>
 bif ! (x == ([] : List UInt8)) then
  some 12
 else
  (loop (hF c) 1).bind fun q0 =>
  match q0 with
  | .inl q1 =>
  some q1
  | .inr _ =>
  (loop (h_ c) 1).bind fun q0 =>
  match q0 with
  | .inl q3 =>
   some q3
  | .inr _ =>
   some 0
def h112 : Hint:=(.s .z (.s (.s (.j [] [(0,[(21,.v .bool [])])] .z) .z) (.s .z (.s (.s .z (.b (.l [(3,.v (.int .i64) [])] [2,3] [(1,[(2,.v (.int .i64) [])]),(2,[])] .z))) (.s (.s .z (.b (.l [(4,.v (.int .i64) [])] [2,4,5] [(1,[(2,.v (.int .i64) [])]),(4,[])] (.s .z (.s (.b (.s .z (.b (.l [(5,.v (.int .i64) [])] [2,5] [(1,[(2,.v (.int .i64) [])]),(6,[])] .z)))) .z))))) .z)))))
def sp112 : Spec fam:=⟨[.v (.st 3) []],[.v (.int .i64) []],fun a => dT a.1⟩
def jV (c : Conf) (path : List UInt8) (t : Queue × Int) : Option ((Queue × Int) ⊕ ((Queue × Bool) ⊕ Queue)) :=
 bif decide (t.2 < (c.Queues.length : Int)) then
 (idx c.Queues t.2).bind fun x =>
 bif x.Path == path then
  (idx c.Queues t.2).bind fun x1 =>
  (app 16 [] x1.Caps).bind fun l =>
  some (.inr (.inl ((⟨x1.Path,l,x1.User⟩ : Queue),true)))
 else
  some (.inl (t.1,w64 (t.2 + 1)))
 else
 some (.inr (.inr (t.1)))
def dG (c : Conf) (path : List UInt8) : Option (Queue × Bool) :=
 (loop (jV c path) ((⟨[],[],0⟩ : Queue),0)).bind fun q0 =>
 match q0 with
 | .inl q =>
 some (q.1,q.2)
 | .inr q1 =>
 some ((⟨[],[],0⟩ : Queue),false)
def h117 : Hint:=(.s .z (.s (.s .z (.b (.l [(4,.box (.st 2) [1]),(6,.v (.int .i64) [])] [4,5,6,7] [(1,[(4,.box (.st 2) [1]),(5,.v .bool [])]),(2,[(4,.box (.st 2) [1])])] .z))) .z))
def sp117 : Spec fam:=⟨[.v (.st 3) [],.v .str []],[.v (.st 2) [1],.v .bool []],fun a => dG a.1 a.2.1⟩
def jh (path : List UInt8) (k1 : Int) : Option (Int ⊕ Int) :=
 (
 bif decide (k1 ≥ 0) then
  (idx path k1).bind fun ch =>
  some ((ch.toNat : Int) != 46)
 else
  some false).bind fun q =>
 bif q then
 some (.inl (w64 (k1 - 1)))
 else
 some (.inr k1)
def cW (path : List UInt8) : Option (List UInt8) :=
 let k:=w64 ((path.length : Int) - 1)
 (loop (jh path) k).bind fun k2 =>
 bif decide (k2 < 0) then
 some ([] : List UInt8)
 else
 (slc path 0 k2).bind fun s =>
 some s
def h139 : Hint:=(.s .z (.s .z (.s (.b (.l [(3,.v (.int .i64) [])] [3,14] [(2,[(3,.v (.int .i64) [])])] (.s (.s (.j [] [(0,[(14,.v .bool [])])] .z) .z) .z))) .z)))
def sp139 : Spec fam:=⟨[.v .str []],[.v .str []],fun a => cW a.1⟩
def iA (s : List UInt8) (t : Int × Int × Int) : Option ((Int × Int × Int) ⊕ (Bool ⊕ Int)) :=
 bif decide (t.2.2 ≤ (s.length : Int)) then
 (
  (
  bif decide (t.2.2 < (s.length : Int)) then
   (idx s t.2.2).bind fun ch =>
   some ((ch.toNat : Int) != 46)
  else
   some false).bind fun q =>
  bif q then
  some (.inl (t.1,t.2.1))
  else
  (
   (slc s t.1 t.2.2).bind fun s1 =>
   (eG s1).bind fun x =>
   bif ! x then
   some true
   else
   bif t.2.1 == 0 then
    (slc s t.1 t.2.2).bind fun s2 =>
    some (! (s2 == ([114,111,111,116] : List UInt8)))
   else
    some false).bind fun q1 =>
  bif q1 then
   some (.inr false)
  else
   some (.inl (w64 (t.2.2 + 1),w64 (t.2.1 + 1))) : Option ((Int × Int) ⊕ Bool)).bind fun q0 =>
 match q0 with
 | .inl q2 =>
  some (.inl (q2.1,q2.2,w64 (t.2.2 + 1)))
 | .inr q3 =>
  some (.inr (.inl q3))
 else
 some (.inr (.inr (t.2.1)))
def fQ (s : List UInt8) : Option Bool :=
 (loop (iA s) (0,0,0)).bind fun q0 =>
 match q0 with
 | .inl q4 =>
 some q4
 | .inr n =>
 some (decide (n ≤ 4))
def h179 : Hint:=(.s .z (.s .z (.s (.s .z (.b (.l [(3,.v (.int .i64) []),(4,.v (.int .i64) []),(5,.v (.int .i64) [])] [2,3,4,5,21,38] [(1,[(2,.v .bool [])]),(2,[(4,.v (.int .i64) [])])] (.s .z (.s (.j [2,3,4,21,38] [(0,[(3,.v (.int .i64) []),(4,.v (.int .i64) [])]),(1,[(2,.v .bool [])])] (.b (.s (.s (.j [] [(0,[(21,.v .bool [])])] .z) .z) (.s (.s (.j [] [(0,[(38,.v .bool [])])] .z) .z) .z)))) .z))))) .z)))
def sp179 : Spec fam:=⟨[.v .str []],[.v .bool []],fun a => fQ a.1⟩
def jq (x : Queue) (k : Int) : Option (Int ⊕ (Int ⊕ Unit)) :=
 bif decide (k < (x.Caps.length : Int)) then
 (idx x.Caps k).bind fun x5 =>
 (
  bif decide (x5.Least < 0) then
  some true
  else
  bif decide (x5.Least > 10000) then
   some true
  else
   bif decide (x5.Most < 0) then
   some true
   else
   bif decide (x5.Most > 10000) then
    some true
   else
    some (decide (x5.Least > x5.Most))).bind fun q3 =>
 bif q3 then
  some (.inr (.inl 1))
 else
  some (.inl (w64 (k + 1)))
 else
 some (.inr (.inr ()))
def ef (c : Conf) (i : Int) : Option Int :=
 (idx c.Queues i).bind fun x =>
 (fQ x.Path).bind fun x1 =>
 bif ! x1 then
 some 12
 else
 (
  bif decide (i > 0) then
  (idx c.Queues (w64 (i - 1))).bind fun x2 =>
  some (strLe x.Path x2.Path)
  else
  some false).bind fun q =>
 bif q then
  some 7
 else
  (cW x.Path).bind fun x3 =>
  (dG c x3).bind fun x4 =>
  (
  bif decide (i > 0) then
   some (! x4.2)
  else
   some false).bind fun q1 =>
  bif q1 then
  some 12
  else
  (
   bif decide (x.User < 1) then
   some true
   else
   bif decide (x.User > 1000000) then
    some true
   else
    some ((x.Caps.length : Int) != (c.Labels.length : Int))).bind fun q2 =>
  bif q2 then
   some 1
  else
   (loop (jq x) 0).bind fun q0 =>
   match q0 with
   | .inl q4 =>
   some q4
   | .inr _ =>
   some 0
def h113 : Hint:=(.s .z (.s .z (.s .z (.s (.s (.j [] [(0,[(32,.v .bool [])])] .z) .z) (.s .z (.s (.s (.j [] [(0,[(46,.v .bool [])])] .z) .z) (.s (.s (.j [] [(0,[(63,.v .bool [])])] .z) .z) (.s (.s .z (.b (.l [(8,.v (.int .i64) [])] [4,8,9,100] [(1,[(4,.v (.int .i64) [])]),(2,[])] (.s .z (.s (.b (.s .z (.s (.j [] [(0,[(100,.v .bool [])])] .z) .z))) .z))))) .z))))))))
def sp113 : Spec fam:=⟨[.v (.st 3) [],.v (.int .i64) []],[.v (.int .i64) []],fun a => ef a.1 a.2.1⟩
def jE (c : Conf) (path : List UInt8) (t : List (List UInt8) × Int) : Option ((List (List UInt8) × Int) ⊕ List (List UInt8)) :=
 bif decide (t.2 < (c.Queues.length : Int)) then
 (
  (
  bif ! (path == ([] : List UInt8)) then
   (idx c.Queues t.2).bind fun x =>
   (cW x.Path).bind fun x1 =>
   some (x1 == path)
  else
   some false).bind fun q =>
  bif q then
  (idx c.Queues t.2).bind fun x2 =>
  (app 16 t.1 [x2.Path]).bind fun l =>
  some l
  else
  some t.1).bind fun l1 =>
 some (.inl (l1,w64 (t.2 + 1)))
 else
 some (.inr t.1)
def eH (c : Conf) (path : List UInt8) : Option (List (List UInt8)) :=
 (loop (jE c path) ([],0)).bind fun l2 =>
 some l2
def h75 : Hint:=(.s .z (.s .z (.s (.s .z (.b (.l [(5,.v (.slice (.str)) [0]),(6,.v (.int .i64) [])] [5,6,26] [(2,[(5,.v (.slice (.str)) [0])])] (.s .z (.s (.j [5,26] [(0,[(5,.v (.slice (.str)) [0])])] (.b (.s (.j [] [(0,[(26,.v .bool [])])] .z) .z))) .z))))) .z)))
def sp75 : Spec fam:=⟨[.v (.st 3) [],.v .str []],[.v (.slice (.str)) [0]],fun a => eH a.1 a.2.1⟩
def jR (c : Conf) (kids : List (List UInt8)) (k : Int) (t : Int × Int) : Option ((Int × Int) ⊕ Int) :=
 bif decide (t.2 < (kids.length : Int)) then
 (inb t.2 kids.length).bind fun i1 =>
 (kids[i1]?).bind fun x1 =>
 (dG c x1).bind fun x2 =>
 (inb k x2.1.Caps.length).bind fun i2 =>
 (x2.1.Caps[i2]?).bind fun x3 =>
 let n:=w64 (t.1 + x3.Least)
 some (.inl (n,w64 (t.2 + 1)))
 else
 some (.inr t.1)
def jC (c : Conf) (kids : List (List UInt8)) (k : Int) : Option (Int ⊕ (Bool ⊕ Unit)) :=
 (
 bif decide (k < (c.Labels.length : Int)) then
  some (decide ((kids.length : Int) > 0))
 else
  some false).bind fun q =>
 bif q then
 (loop (jR c kids k) (0,0)).bind fun n1 =>
 bif n1 != 10000 then
  some (.inr (.inl false))
 else
  some (.inl (w64 (k + 1)))
 else
 some (.inr (.inr ()))
def jF (c : Conf) (i : Int) : Option (Int ⊕ (Bool ⊕ Unit)) :=
 bif decide (i < (c.Queues.length : Int)) then
 (idx c.Queues i).bind fun x =>
 (eH c x.Path).bind fun kids =>
 (loop (jC c kids) 0).bind fun q0 =>
 match q0 with
 | .inl q1 =>
  some (.inr (.inl q1))
 | .inr _ =>
  some (.inl (w64 (i + 1)))
 else
 some (.inr (.inr ()))
def iH (c : Conf) : Option Bool :=
 (loop (jF c) 0).bind fun q0 =>
 match q0 with
 | .inl q2 =>
 some q2
 | .inr _ =>
 some true
def h114 : Hint:=(.s .z (.s (.s .z (.b (.l [(3,.v (.int .i64) [])] [2,3,4,5,6,7,8,34] [(1,[(2,.v .bool [])]),(2,[])] (.s .z (.s (.b (.s .z (.s .z (.b (.l [(5,.v (.int .i64) [])] [2,5,6,7,8,34] [(1,[(2,.v .bool [])]),(4,[])] (.s (.s (.j [] [(0,[(34,.v .bool [])])] .z) .z) (.s (.b (.s .z (.s (.s .z (.b (.l [(6,.v (.int .i64) []),(7,.v (.int .i64) [])] [6,7,8] [(6,[(6,.v (.int .i64) [])])] .z))) .z))) .z))))))) .z))))) .z))
def sp114 : Spec fam:=⟨[.v (.st 3) []],[.v .bool []],fun a => iH a.1⟩
def jd (c : Conf) (k : Int) : Option (Int ⊕ (Int ⊕ Unit)) :=
 bif decide (k < (c.Labels.length : Int)) then
 (idx c.Queues 0).bind fun x5 =>
 (idx x5.Caps k).bind fun x6 =>
 bif ! ((x6.Least == 10000) && (x6.Most == 10000)) then
  some (.inr (.inl 13))
 else
  some (.inl (w64 (k + 1)))
 else
 some (.inr (.inr ()))
def iS (c : Conf) (i : Int) : Option (Int ⊕ (Int ⊕ Unit)) :=
 bif decide (i < (c.Queues.length : Int)) then
 (ef c i).bind fun x3 =>
 bif x3 != 0 then
  (ef c i).bind fun x4 =>
  some (.inr (.inl x4))
 else
  some (.inl (w64 (i + 1)))
 else
 some (.inr (.inr ()))
def gK (c : Conf) : Option Int :=
 (dT c).bind fun x =>
 bif x != 0 then
 (dT c).bind fun x1 =>
 some x1
 else
 (
  bif (c.Queues.length : Int) == 0 then
  some true
  else
  (idx c.Queues 0).bind fun x2 =>
  some (! (x2.Path == ([114,111,111,116] : List UInt8)))).bind fun q =>
 bif q then
  some 12
 else
  (loop (iS c) 0).bind fun q0 =>
  match q0 with
  | .inl q1 =>
  some q1
  | .inr _ =>
  (loop (jd c) 0).bind fun q0 =>
  match q0 with
  | .inl q2 =>
   some q2
  | .inr _ =>
   (iH c).bind fun x7 =>
   bif ! x7 then
   some 13
   else
   some 0
def h52 : Hint:=(.s .z (.s .z (.s (.s (.j [] [(0,[(21,.v .bool [])])] .z) .z) (.s (.s .z (.b (.l [(3,.v (.int .i64) [])] [2,3] [(1,[(2,.v (.int .i64) [])]),(2,[])] .z))) (.s (.s .z (.b (.l [(4,.v (.int .i64) [])] [2,4] [(1,[(2,.v (.int .i64) [])]),(4,[])] .z))) .z)))))
def sp52 : Spec fam:=⟨[.v (.st 3) []],[.v (.int .i64) []],fun a => gK a.1⟩
def bG (v : Vec) : Option Bool :=
 bif decide (v.Mem ≥ 0) then
 bif decide (v.Mem ≤ 1125899906842624) then
  bif decide (v.Cores ≥ 0) then
  some (decide (v.Cores ≤ 1125899906842624))
  else
  some false
 else
  some false
 else
 some false
def h115 : Hint:=.z
def sp115 : Spec fam:=⟨[.v (.st 0) []],[.v .bool []],fun a => bG a.1⟩
def jf (s : State) (t3 : Bool × Int) (t4 : Bool × Int) : Option ((Bool × Int) ⊕ Bool) :=
 (idx s.Apps t3.2).bind fun x8 =>
 bif decide (t4.2 < (x8.Asks.length : Int)) then
 (
  bif t4.1 then
  (idx s.Apps t3.2).bind fun x9 =>
  (idx x9.Asks t4.2).bind fun x10 =>
  (bG x10.Size).bind fun x11 =>
  some x11
  else
  some false).bind fun ok7 =>
 some (.inl (ok7,w64 (t4.2 + 1)))
 else
 some (.inr t4.1)
def iV (s : State) (t3 : Bool × Int) : Option ((Bool × Int) ⊕ Bool) :=
 bif decide (t3.2 < (s.Apps.length : Int)) then
 (
  bif t3.1 then
  (idx s.Apps t3.2).bind fun x6 =>
  (bG x6.Master).bind fun x7 =>
  some x7
  else
  some false).bind fun ok6 =>
 (loop (jf s t3) (ok6,0)).bind fun ok8 =>
 some (.inl (ok8,w64 (t3.2 + 1)))
 else
 some (.inr t3.1)
def jt (s : State) (t2 : Bool × Int) : Option ((Bool × Int) ⊕ Bool) :=
 bif decide (t2.2 < (s.Plans.length : Int)) then
 (
  bif t2.1 then
  (idx s.Plans t2.2).bind fun x4 =>
  (bG x4.Need).bind fun x5 =>
  some x5
  else
  some false).bind fun ok4 =>
 some (.inl (ok4,w64 (t2.2 + 1)))
 else
 some (.inr t2.1)
def ja (s : State) (t1 : Bool × Int) : Option ((Bool × Int) ⊕ Bool) :=
 bif decide (t1.2 < (s.Conts.length : Int)) then
 (
  bif t1.1 then
  (idx s.Conts t1.2).bind fun x2 =>
  (bG x2.Size).bind fun x3 =>
  some x3
  else
  some false).bind fun ok2 =>
 some (.inl (ok2,w64 (t1.2 + 1)))
 else
 some (.inr t1.1)
def jc (s : State) (t : Bool × Int) : Option ((Bool × Int) ⊕ Bool) :=
 bif decide (t.2 < (s.Nodes.length : Int)) then
 (
  bif t.1 then
  (idx s.Nodes t.2).bind fun x =>
  (bG x.Cap).bind fun x1 =>
  some x1
  else
  some false).bind fun ok =>
 some (.inl (ok,w64 (t.2 + 1)))
 else
 some (.inr t.1)
def gR (s : State) : Option Bool :=
 (loop (jc s) (true,0)).bind fun ok1 =>
 (loop (ja s) (ok1,0)).bind fun ok3 =>
 (loop (jt s) (ok3,0)).bind fun ok5 =>
 (loop (iV s) (ok5,0)).bind fun ok9 =>
 some ok9
def h53 : Hint:=(.s .z (.s .z (.s (.s .z (.b (.l [(3,.v .bool []),(4,.v (.int .i64) [])] [3,4] [(2,[(3,.v .bool [])])] (.s .z (.s (.j [3] [(0,[(3,.v .bool [])])] .z) .z))))) (.s (.s .z (.b (.l [(3,.v .bool []),(5,.v (.int .i64) [])] [3,5] [(4,[(3,.v .bool [])])] (.s .z (.s (.j [3] [(0,[(3,.v .bool [])])] .z) .z))))) (.s (.s .z (.b (.l [(3,.v .bool []),(6,.v (.int .i64) [])] [3,6] [(6,[(3,.v .bool [])])] (.s .z (.s (.j [3] [(0,[(3,.v .bool [])])] .z) .z))))) (.s (.s .z (.b (.l [(3,.v .bool []),(7,.v (.int .i64) [])] [3,7,8] [(8,[(3,.v .bool [])])] (.s .z (.s (.b (.s (.j [3] [(0,[(3,.v .bool [])])] .z) (.s .z (.b (.l [(3,.v .bool []),(8,.v (.int .i64) [])] [3,8] [(10,[(3,.v .bool [])])] (.s .z (.s (.j [3] [(0,[(3,.v .bool [])])] .z) .z))))))) .z))))) .z))))))
def sp53 : Spec fam:=⟨[.v (.st 10) []],[.v .bool []],fun a => gR a.1⟩
def gj (s : State) (t4 : Bool × Int) : Option ((Bool × Int) ⊕ Bool) :=
 bif decide (t4.2 < (s.Plans.length : Int)) then
 (
  bif t4.1 then
  (idx s.Plans (w64 (t4.2 - 1))).bind fun x8 =>
  (idx s.Plans t4.2).bind fun x9 =>
  let ok12:=decide (x8.Id < x9.Id)
  some ok12
  else
  some false).bind fun ok13 =>
 some (.inl (ok13,w64 (t4.2 + 1)))
 else
 some (.inr t4.1)
def gf (s : State) (t3 : Bool × Int) : Option ((Bool × Int) ⊕ Bool) :=
 bif decide (t3.2 < (s.Slots.length : Int)) then
 (
  bif t3.1 then
  (idx s.Slots (w64 (t3.2 - 1))).bind fun x6 =>
  (idx s.Slots t3.2).bind fun x7 =>
  let ok9:=decide (x6.Node < x7.Node)
  some ok9
  else
  some false).bind fun ok10 =>
 some (.inl (ok10,w64 (t3.2 + 1)))
 else
 some (.inr t3.1)
def gw (s : State) (t2 : Bool × Int) : Option ((Bool × Int) ⊕ Bool) :=
 bif decide (t2.2 < (s.Conts.length : Int)) then
 (
  bif t2.1 then
  (idx s.Conts (w64 (t2.2 - 1))).bind fun x4 =>
  (idx s.Conts t2.2).bind fun x5 =>
  let ok6:=decide (x4.Id < x5.Id)
  some ok6
  else
  some false).bind fun ok7 =>
 some (.inl (ok7,w64 (t2.2 + 1)))
 else
 some (.inr t2.1)
def gr (s : State) (t1 : Bool × Int) : Option ((Bool × Int) ⊕ Bool) :=
 bif decide (t1.2 < (s.Apps.length : Int)) then
 (
  bif t1.1 then
  (idx s.Apps (w64 (t1.2 - 1))).bind fun x2 =>
  (idx s.Apps t1.2).bind fun x3 =>
  let ok3:=decide (x2.Id < x3.Id)
  some ok3
  else
  some false).bind fun ok4 =>
 some (.inl (ok4,w64 (t1.2 + 1)))
 else
 some (.inr t1.1)
def gH (s : State) (t : Bool × Int) : Option ((Bool × Int) ⊕ Bool) :=
 bif decide (t.2 < (s.Nodes.length : Int)) then
 (
  bif t.1 then
  (idx s.Nodes (w64 (t.2 - 1))).bind fun x =>
  (idx s.Nodes t.2).bind fun x1 =>
  let ok:=decide (x.Id < x1.Id)
  some ok
  else
  some false).bind fun ok1 =>
 some (.inl (ok1,w64 (t.2 + 1)))
 else
 some (.inr t.1)
def fa (s : State) : Option Bool :=
 (
 bif decide ((s.Nodes.length : Int) > 12) then
  some true
 else
  bif decide ((s.Apps.length : Int) > 16) then
  some true
  else
  bif decide ((s.Conts.length : Int) > 200) then
   some true
  else
   some (decide ((s.Plans.length : Int) > 12))).bind fun q =>
 bif q then
 some false
 else
 (loop (gH s) (true,1)).bind fun ok2 =>
 (loop (gr s) (ok2,1)).bind fun ok5 =>
 (loop (gw s) (ok5,1)).bind fun ok8 =>
 (loop (gf s) (ok8,1)).bind fun ok11 =>
 (loop (gj s) (ok11,1)).bind fun ok14 =>
 some ok14
def h54 : Hint:=(.s .z (.s (.s (.j [] [(0,[(30,.v .bool [])])] .z) .z) (.s .z (.s (.s .z (.b (.l [(3,.v .bool []),(4,.v (.int .i64) [])] [3,4] [(2,[(3,.v .bool [])])] (.s .z (.s (.j [3] [(0,[(3,.v .bool [])])] .z) .z))))) (.s (.s .z (.b (.l [(3,.v .bool []),(5,.v (.int .i64) [])] [3,5] [(4,[(3,.v .bool [])])] (.s .z (.s (.j [3] [(0,[(3,.v .bool [])])] .z) .z))))) (.s (.s .z (.b (.l [(3,.v .bool []),(6,.v (.int .i64) [])] [3,6] [(6,[(3,.v .bool [])])] (.s .z (.s (.j [3] [(0,[(3,.v .bool [])])] .z) .z))))) (.s (.s .z (.b (.l [(3,.v .bool []),(7,.v (.int .i64) [])] [3,7] [(8,[(3,.v .bool [])])] (.s .z (.s (.j [3] [(0,[(3,.v .bool [])])] .z) .z))))) (.s (.s .z (.b (.l [(3,.v .bool []),(8,.v (.int .i64) [])] [3,8] [(10,[(3,.v .bool [])])] (.s .z (.s (.j [3] [(0,[(3,.v .bool [])])] .z) .z))))) .z))))))))
def sp54 : Spec fam:=⟨[.v (.st 10) []],[.v .bool []],fun a => fa a.1⟩
def eJ (a : Vec) (b : Vec) : Option Vec :=
 some (⟨w64 (a.Mem + b.Mem),w64 (a.Cores + b.Cores)⟩ : Vec)
def h90 : Hint:=.z
def sp90 : Spec fam:=⟨[.v (.st 0) [],.v (.st 0) []],[.v (.st 0) []],fun a => eJ a.1 a.2.1⟩
def jQ (s : State) (id_ : Int) (t : Vec × Int) : Option ((Vec × Int) ⊕ Vec) :=
 bif decide (t.2 < (s.Conts.length : Int)) then
 (
  (idx s.Conts t.2).bind fun x =>
  bif x.Node == id_ then
  (idx s.Conts t.2).bind fun x1 =>
  (eJ t.1 x1.Size).bind fun x2 =>
  some x2
  else
  some t.1).bind fun v =>
 some (.inl (v,w64 (t.2 + 1)))
 else
 some (.inr t.1)
def iE (s : State) (id_ : Int) : Option Vec :=
 (loop (jQ s id_) ((⟨0,0⟩ : Vec),0)).bind fun v1 =>
 some v1
def h116 : Hint:=(.s .z (.s .z (.s (.s .z (.b (.l [(5,.box (.st 0) []),(6,.v (.int .i64) [])] [5,6] [(2,[(5,.box (.st 0) [])])] (.s .z (.s (.j [5] [(0,[(5,.box (.st 0) [])])] .z) .z))))) .z)))
def sp116 : Spec fam:=⟨[.v (.st 10) [],.v (.int .i64) []],[.v (.st 0) []],fun a => iE a.1 a.2.1⟩
def jB (s : State) (i : Int) : Option (Int ⊕ (Bool ⊕ Unit)) :=
 bif decide (i < (s.Nodes.length : Int)) then
 (idx s.Nodes i).bind fun x =>
 (iE s x.Id).bind fun x1 =>
 (
  (idx s.Nodes i).bind fun x2 =>
  bif decide (x1.Mem > x2.Cap.Mem) then
  some true
  else
  (idx s.Nodes i).bind fun x3 =>
  some (decide (x1.Cores > x3.Cap.Cores))).bind fun q =>
 bif q then
  some (.inr (.inl false))
 else
  some (.inl (w64 (i + 1)))
 else
 some (.inr (.inr ()))
def iI (s : State) : Option Bool :=
 (loop (jB s) 0).bind fun q0 =>
 match q0 with
 | .inl q1 =>
 some q1
 | .inr _ =>
 some true
def h55 : Hint:=(.s .z (.s (.s .z (.b (.l [(3,.v (.int .i64) [])] [2,3,4,41] [(1,[(2,.v .bool [])]),(2,[])] (.s .z (.s (.b (.s .z (.s (.j [] [(0,[(41,.v .bool [])])] .z) .z))) .z))))) .z))
def sp55 : Spec fam:=⟨[.v (.st 10) []],[.v .bool []],fun a => iI a.1⟩
def jK (s : State) (id_ : Int) (t : Node × Int) : Option ((Node × Int) ⊕ ((Node × Bool) ⊕ Node)) :=
 bif decide (t.2 < (s.Nodes.length : Int)) then
 (idx s.Nodes t.2).bind fun x =>
 bif x.Id == id_ then
  (idx s.Nodes t.2).bind fun x1 =>
  some (.inr (.inl (x1,true)))
 else
  some (.inl (t.1,w64 (t.2 + 1)))
 else
 some (.inr (.inr (t.1)))
def eM (s : State) (id_ : Int) : Option (Node × Bool) :=
 (loop (jK s id_) ((⟨0,0,0,⟨0,0⟩,0,0,false⟩ : Node),0)).bind fun q0 =>
 match q0 with
 | .inl q =>
 some (q.1,q.2)
 | .inr q1 =>
 some ((⟨0,0,0,⟨0,0⟩,0,0,false⟩ : Node),false)
def h56 : Hint:=(.s .z (.s (.s .z (.b (.l [(4,.box (.st 4) []),(6,.v (.int .i64) [])] [4,5,6] [(1,[(4,.box (.st 4) []),(5,.v .bool [])]),(2,[(4,.box (.st 4) [])])] .z))) .z))
def sp56 : Spec fam:=⟨[.v (.st 10) [],.v (.int .i64) []],[.v (.st 4) [],.v .bool []],fun a => eM a.1 a.2.1⟩
def ft (s : State) (app_ : Int) (t : Int × Int × Int) : Option ((Int × Int × Int) ⊕ ((Int × Int))) :=
 bif decide (t.2.2 < (s.Conts.length : Int)) then
 (
  (idx s.Conts t.2.2).bind fun x =>
  bif x.App == app_ then
  (idx s.Conts t.2.2).bind fun x1 =>
  bif x1.Master then
   some (w64 (t.1 + 1),w64 (t.2.1 + 1))
  else
   some (t.1,w64 (t.2.1 + 1))
  else
  some (t.1,t.2.1)).bind fun q =>
 some (.inl (q.1,q.2,w64 (t.2.2 + 1)))
 else
 some (.inr (t.1,t.2.1))
def er (s : State) (app_ : Int) : Option (Int × Int) :=
 (loop (ft s app_) (0,0,0)).bind fun q1 =>
 some (q1.1,q1.2)
def h58 : Hint:=(.s .z (.s .z (.s (.s .z (.b (.l [(6,.v (.int .i64) []),(7,.v (.int .i64) []),(8,.v (.int .i64) [])] [6,7,8] [(2,[(6,.v (.int .i64) []),(7,.v (.int .i64) [])])] (.s .z (.s (.j [6,7] [(0,[(6,.v (.int .i64) []),(7,.v (.int .i64) [])])] .z) .z))))) .z)))
def sp58 : Spec fam:=⟨[.v (.st 10) [],.v (.int .i64) []],[.v (.int .i64) [],.v (.int .i64) []],fun a => er a.1 a.2.1⟩
def cv (c : Conf) (path : List UInt8) : Option Bool :=
 (dG c path).bind fun x =>
 bif x.2 then
 (eH c path).bind fun x1 =>
 some ((x1.length : Int) == 0)
 else
 some false
def h59 : Hint:=.z
def sp59 : Spec fam:=⟨[.v (.st 3) [],.v .str []],[.v .bool []],fun a => cv a.1 a.2.1⟩
def ie (s : State) (i2 : Int) : Option (Int ⊕ (Bool ⊕ Unit)) :=
 bif decide (i2 < (s.Slots.length : Int)) then
 (idx s.Slots i2).bind fun x18 =>
 (eM s x18.Node).bind fun x19 =>
 (
  bif ! x19.2 then
  some true
  else
  some (! x19.1.Up)).bind fun q5 =>
 bif q5 then
  some (.inr (.inl false))
 else
  some (.inl (w64 (i2 + 1)))
 else
 some (.inr (.inr ()))
def iD (s : State) (i1 : Int) : Option (Int ⊕ (Bool ⊕ Unit)) :=
 bif decide (i1 < (s.Apps.length : Int)) then
 (idx s.Apps i1).bind fun x8 =>
 (er s x8.Id).bind fun x9 =>
 (
  bif x8.State == 2 then
  bif x9.1 != 1 then
   some true
  else
   bif x8.State == 1 then
   bif x9.2 != 0 then
    some true
   else
    (aY x8).bind fun x10 =>
    bif x10 then
    (cv s.Conf x8.Queue).bind fun x11 =>
    some (! x11)
    else
    some false
   else
   (aY x8).bind fun x12 =>
   bif x12 then
    (cv s.Conf x8.Queue).bind fun x13 =>
    some (! x13)
   else
    some false
  else
  bif x8.State == 1 then
   bif x9.2 != 0 then
   some true
   else
   (aY x8).bind fun x14 =>
   bif x14 then
    (cv s.Conf x8.Queue).bind fun x15 =>
    some (! x15)
   else
    some false
  else
   (aY x8).bind fun x16 =>
   bif x16 then
   (cv s.Conf x8.Queue).bind fun x17 =>
   some (! x17)
   else
   some false).bind fun q3 =>
 bif q3 then
  some (.inr (.inl false))
 else
  some (.inl (w64 (i1 + 1)))
 else
 some (.inr (.inr ()))
def hP (s : State) (i : Int) : Option (Int ⊕ (Bool ⊕ Unit)) :=
 bif decide (i < (s.Conts.length : Int)) then
 (idx s.Conts i).bind fun x4 =>
 (b8 s x4.App).bind fun x5 =>
 (eM s x4.Node).bind fun x6 =>
 (
  bif ! x5.2 then
  some true
  else
  (aY x5.1).bind fun x7 =>
  bif ! x7 then
   some true
  else
   bif ! x6.2 then
   some true
   else
   bif ! x6.1.Up then
    some true
   else
    bif x6.1.Label != x4.Label then
    some true
    else
    bif decide (x4.Notice < 0) then
     some true
    else
     some (decide (x4.Notice > (imax s.Now 1)))).bind fun q1 =>
 bif q1 then
  some (.inr (.inl false))
 else
  some (.inl (w64 (i + 1)))
 else
 some (.inr (.inr ()))
def fV (s : State) : Option Bool :=
 (
 (gK s.Conf).bind fun x =>
 bif x != 0 then
  some true
 else
  (gR s).bind fun x1 =>
  bif ! x1 then
  some true
  else
  (fa s).bind fun x2 =>
  bif ! x2 then
   some true
  else
   (iI s).bind fun x3 =>
   some (! x3)).bind fun q =>
 bif q then
 some false
 else
 (loop (hP s) 0).bind fun q0 =>
 match q0 with
 | .inl q2 =>
  some q2
 | .inr _ =>
  (loop (iD s) 0).bind fun q0 =>
  match q0 with
  | .inl q4 =>
  some q4
  | .inr _ =>
  (loop (ie s) 0).bind fun q0 =>
  match q0 with
  | .inl q6 =>
   some q6
  | .inr _ =>
   some true
def h17 : Hint:=(.s .z (.s (.s (.j [] [(0,[(34,.v .bool [])])] .z) .z) (.s (.s .z (.b (.l [(3,.v (.int .i64) [])] [2,3,4,5,6,7,8,96] [(1,[(2,.v .bool [])]),(2,[])] (.s .z (.s (.b (.s .z (.s .z (.s .z (.s (.j [] [(0,[(96,.v .bool [])])] .z) .z))))) .z))))) (.s (.s .z (.b (.l [(9,.v (.int .i64) [])] [2,9,10,11,12,143] [(1,[(2,.v .bool [])]),(4,[])] (.s .z (.s (.b (.s .z (.s .z (.s (.j [] [(0,[(143,.v .bool [])])] .z) .z)))) .z))))) (.s (.s .z (.b (.l [(13,.v (.int .i64) [])] [2,13,14,168] [(1,[(2,.v .bool [])]),(6,[])] (.s .z (.s (.b (.s .z (.s (.j [] [(0,[(168,.v .bool [])])] .z) .z))) .z))))) .z)))))
def sp17 : Spec fam:=⟨[.v (.st 10) []],[.v .bool []],fun a => fV a.1⟩
def lh (t : List UInt8 × List (List UInt8)) : Option ((List UInt8 × List (List UInt8)) ⊕ List (List UInt8)) :=
 bif ! (t.1 == ([] : List UInt8)) then
 (app 16 t.2 [t.1]).bind fun l =>
 (cW t.1).bind fun path1 =>
 some (.inl (path1,l))
 else
 some (.inr t.2)
def kN (path : List UInt8) : Option (List (List UInt8)) :=
 (loop lh (path,[])).bind fun l1 =>
 some l1
def h180 : Hint:=(.s .z (.s .z (.s (.b (.l [(0,.v .str []),(3,.v (.slice (.str)) [0])] [0,3] [(2,[(3,.v (.slice (.str)) [0])])] .z)) .z)))
def sp180 : Spec fam:=⟨[.v .str []],[.v (.slice (.str)) [0]],fun a => kN a.1⟩
def hU (path : List UInt8) (up : List (List UInt8)) (i : Int) : Option (Int ⊕ (Bool ⊕ Unit)) :=
 bif decide (i < (up.length : Int)) then
 (inb i up.length).bind fun i1 =>
 (up[i1]?).bind fun x =>
 bif x == path then
  some (.inr (.inl true))
 else
  some (.inl (w64 (i + 1)))
 else
 some (.inr (.inr ()))
def fW (leaf : List UInt8) (path : List UInt8) : Option Bool :=
 (kN leaf).bind fun up =>
 (loop (hU path up) 0).bind fun q0 =>
 match q0 with
 | .inl q =>
 some q
 | .inr _ =>
 some false
def h118 : Hint:=(.s .z (.s .z (.s (.s .z (.b (.l [(6,.v (.int .i64) [])] [4,6] [(1,[(4,.v .bool [])]),(2,[])] .z))) .z)))
def sp118 : Spec fam:=⟨[.v .str [],.v .str []],[.v .bool []],fun a => fW a.1 a.2.1⟩
def jo (s : State) (path : List UInt8) (label : Int) (all : Bool) (user : Int) (t : Vec × Int) : Option ((Vec × Int) ⊕ Vec) :=
 bif decide (t.2 < (s.Conts.length : Int)) then
 (
  (idx s.Conts t.2).bind fun x =>
  (b8 s x.App).bind fun x1 =>
  (
  bif x1.2 then
   (idx s.Conts t.2).bind fun x2 =>
   bif x2.Label == label then
   (fW x1.1.Queue path).bind fun x3 =>
   bif x3 then
    bif all then
    some true
    else
    some (x1.1.User == user)
   else
    some false
   else
   some false
  else
   some false).bind fun q =>
  bif q then
  (idx s.Conts t.2).bind fun x4 =>
  (eJ t.1 x4.Size).bind fun x5 =>
  some x5
  else
  some t.1).bind fun v =>
 some (.inl (v,w64 (t.2 + 1)))
 else
 some (.inr t.1)
def gJ (s : State) (path : List UInt8) (label : Int) (all : Bool) (user : Int) : Option Vec :=
 (loop (jo s path label all user) ((⟨0,0⟩ : Vec),0)).bind fun v1 =>
 some v1
def h60 : Hint:=(.s .z (.s .z (.s (.s .z (.b (.l [(11,.box (.st 0) []),(12,.v (.int .i64) [])] [11,12,13,59] [(2,[(11,.box (.st 0) [])])] (.s .z (.s (.j [11,13,59] [(0,[(11,.box (.st 0) [])])] (.b (.s .z (.s (.j [] [(0,[(59,.v .bool [])])] .z) .z)))) .z))))) .z)))
def sp60 : Spec fam:=⟨[.v (.st 10) [],.v .str [],.v (.int .i64) [],.v .bool [],.v (.int .i64) []],[.v (.st 0) []],fun a => gJ a.1 a.2.1 a.2.2.1 a.2.2.2.1 a.2.2.2.2.1⟩
def eg (s : State) (path : List UInt8) (label : Int) : Option Vec :=
 (gJ s path label true 0).bind fun x =>
 some x
def h20 : Hint:=.z
def sp20 : Spec fam:=⟨[.v (.st 10) [],.v .str [],.v (.int .i64) []],[.v (.st 0) []],fun a => eg a.1 a.2.1 a.2.2.1⟩
def jS (units : Int) (t : State × Int) : Option ((State × Int) ⊕ State) :=
 bif decide (t.2 < units) then
 (app 72 t.1.Conts [(⟨t.2,1,1,⟨1,1⟩,0,0,t.2 == 1,0⟩ : Cont)]).bind fun l1 =>
 some (.inl ((⟨⟨t.1.Conf.Labels,t.1.Conf.Queues⟩,t.1.Nodes,t.1.Apps,l1,t.1.Slots,t.1.Plans,t.1.Now,t.1.Epoch,t.1.Seq⟩ : State),w64 (t.2 + 1)))
 else
 some (.inr t.1)
def iJ (units : Int) (wants : Int) (least : Int) : Option State :=
 (dH).bind fun x =>
 (app 48 x.Conf.Queues [(⟨([114,111,111,116,46,97] : List UInt8),[(⟨w64 (10000 - least),10000⟩ : Cap)],1000000⟩ : Queue),(⟨([114,111,111,116,46,98] : List UInt8),[(⟨least,10000⟩ : Cap)],1000000⟩ : Queue)]).bind fun l =>
 (
 bif decide (wants > 0) then
  (inb 1 [(⟨1,2,([114,111,111,116,46,97] : List UInt8),0,0,⟨1,1⟩,[],10,0,[],[],[],[]⟩ : App),(⟨2,2,([114,111,111,116,46,98] : List UInt8),0,0,⟨1,1⟩,[],10,0,[],[],[],[]⟩ : App)].length).bind fun i =>
  ([(⟨1,2,([114,111,111,116,46,97] : List UInt8),0,0,⟨1,1⟩,[],10,0,[],[],[],[]⟩ : App),(⟨2,2,([114,111,111,116,46,98] : List UInt8),0,0,⟨1,1⟩,[],10,0,[],[],[],[]⟩ : App)][i]?).bind fun x1 =>
  some (⟨⟨x.Conf.Labels,l⟩,[(⟨1,0,0,⟨units,units⟩,10,0,true⟩ : Node)],List.set [(⟨1,2,([114,111,111,116,46,97] : List UInt8),0,0,⟨1,1⟩,[],10,0,[],[],[],[]⟩ : App),(⟨2,2,([114,111,111,116,46,98] : List UInt8),0,0,⟨1,1⟩,[],10,0,[],[],[],[]⟩ : App)] i (⟨x1.Id,x1.State,x1.Queue,x1.User,x1.Prio,⟨x1.Master.Mem,x1.Master.Cores⟩,[(⟨1,0,⟨1,1⟩,wants,(-1),(-1),0⟩ : Ask)],x1.Seen,x1.Beat,x1.Grants,x1.Kills,x1.Told,x1.Lost⟩ : App),x.Conts,x.Slots,x.Plans,10,x.Epoch,x.Seq⟩ : State)
 else
  some (⟨⟨x.Conf.Labels,l⟩,[(⟨1,0,0,⟨units,units⟩,10,0,true⟩ : Node)],[(⟨1,2,([114,111,111,116,46,97] : List UInt8),0,0,⟨1,1⟩,[],10,0,[],[],[],[]⟩ : App),(⟨2,2,([114,111,111,116,46,98] : List UInt8),0,0,⟨1,1⟩,[],10,0,[],[],[],[]⟩ : App)],x.Conts,x.Slots,x.Plans,10,x.Epoch,x.Seq⟩ : State)).bind fun s =>
 (loop (jS units) (s,1)).bind fun s1 =>
 (app 72 s1.Conts [(⟨units,2,1,⟨1,1⟩,0,0,true,0⟩ : Cont)]).bind fun l2 =>
 some (⟨⟨s1.Conf.Labels,s1.Conf.Queues⟩,s1.Nodes,s1.Apps,l2,s1.Slots,s1.Plans,s1.Now,s1.Epoch,units⟩ : State)
def h26 : Hint:=(.s .z (.s .z (.s .z (.s .z (.s .z (.s .z (.s .z (.s (.j [7] [(0,[(7,.box (.st 10) [0,1,2,3,4,5,6])])] .z) (.s (.s .z (.b (.l [(7,.box (.st 10) [0,1,2,3,4,5,6]),(9,.v (.int .i64) [])] [7,9] [(2,[(7,.box (.st 10) [0,1,2,3,4,5,6])])] .z))) .z)))))))))
def sp26 : Spec fam:=⟨[.v (.int .i64) [],.v (.int .i64) [],.v (.int .i64) []],[.v (.st 10) [0,1,2,3,4,5,6]],fun a => iJ a.1 a.2.1 a.2.2.1⟩
def ao (units : Int) (wants : Int) : Option Bool :=
 (dV).bind fun x =>
 bif ! x then
 some false
 else
 (au units 7).bind fun x1 =>
 let units1:=w64 (2 * (w64 (3 + x1)))
 (au wants (w64 ((w64 (Int.tdiv units1 2)) - 1))).bind fun x2 =>
 (iJ units1 (w64 (1 + x2)) 5000).bind fun x3 =>
 (dJ x3).bind fun x4 =>
 (dJ (⟨⟨x4.1.Conf.Labels,x4.1.Conf.Queues⟩,x4.1.Nodes,x4.1.Apps,x4.1.Conts,x4.1.Slots,x4.1.Plans,w64 (x4.1.Now + 3),x4.1.Epoch,x4.1.Seq⟩ : State)).bind fun x5 =>
 (
  bif (x4.2.length : Int) != 0 then
  some true
  else
  bif (x5.2.length : Int) != (w64 (1 + x2)) then
   some true
  else
   some ((x5.1.Conts.length : Int) != (w64 (units1 - (w64 (1 + x2)))))).bind fun q =>
 bif q then
  some false
 else
  (b8 x5.1 1).bind fun x6 =>
  (eg x5.1 ([114,111,111,116,46,97] : List UInt8) 0).bind fun x7 =>
  bif x7.Mem == (w64 ((w64 (units1 - 1)) - (w64 (1 + x2)))) then
  (eg x5.1 ([114,111,111,116,46,98] : List UInt8) 0).bind fun x8 =>
  bif x8.Mem == 1 then
   bif (x6.1.Kills.length : Int) == (w64 (1 + x2)) then
   (fV x5.1).bind fun x9 =>
   some x9
   else
   some false
  else
   some false
  else
  some false
def h6 : Hint:=(.s .z (.s .z (.s .z (.s .z (.s .z (.s .z (.s .z (.s .z (.s (.s (.j [] [(0,[(58,.v .bool [])])] .z) .z) .z)))))))))
def sp6 : Spec fam:=⟨[.v (.int .i64) [],.v (.int .i64) []],[.v .bool []],fun a => ao a.1 a.2.1⟩
end
end Go.Fx.D
