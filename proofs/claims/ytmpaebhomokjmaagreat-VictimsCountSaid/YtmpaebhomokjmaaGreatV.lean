/-
  The same functions with a bound on the rounds of their loops; that they give what the others give (printed by a program). Conditions: none.
-/
import Derived.Test.YtmpaebhomokjmaaGreatD
import Derived.Test.YtmpaebhomokjmaaGreatFxD
namespace Go.Fx.D
open Go Go.Fx
set_option linter.unusedVariables false
set_option linter.unusedSimpArgs false
set_option maxRecDepth 100000
def dX (k : Looker) (c : Cont) : Option Looker :=
 let e:=mget (fun x => c.Id == x.k) k.noticed (⟨c.Id,0⟩ : Ent4_IntInt)
 let e1:=mget (fun x2 => c.Id == x2.k) k.leaf (⟨c.Id,[]⟩ : Ent2_IntListUInt8)
 let e2:=mget (fun x3 => e1.v == x3.k) k.over (⟨e1.v,0⟩ : Ent0_ListUInt8Int)
 some (⟨⟨⟨k.s.Conf.Labels,k.s.Conf.Queues⟩,k.s.Nodes,k.s.Apps,k.s.Conts,k.s.Slots,k.s.Plans,k.s.Now,k.s.Epoch,k.s.Seq⟩,k.label,mput (fun x4 => e1.v == x4.k) k.over (⟨e1.v,w64 (e2.v - c.Size.Mem)⟩ : Ent0_ListUInt8Int),k.leaf,mput (fun x1 => c.Id == x1.k) k.noticed (⟨c.Id,w64 (e.v + 1)⟩ : Ent4_IntInt),w64 (k.gone + c.Size.Mem)⟩ : Looker)
theorem iU (k : Looker) (c : Cont) : Lo (dX k c) (df k c):=by
 unfold dX df
 repeat' (first | with_reducible refine ad ?_ ?_ ?_ ?_ ?_ | with_reducible refine ab ?_ ?_ ?_ ?_ | with_reducible refine ae ?_ ?_ ?_ | with_reducible refine ag ?_ ?_ | with_reducible refine ai ?_ ?_ | with_reducible refine aa ?_ _ | (intro _) | with_reducible exact aj _ | exact ah | (dsimp only))
def eA (v : Vec) : Option Bool :=
 bif decide (v.Mem ≥ 0) then
 bif decide (v.Mem ≤ 1125899906842624) then
  bif decide (v.Cores ≥ 0) then
  some (decide (v.Cores ≤ 1125899906842624))
  else
  some false
 else
  some false
 else
 some false
theorem kt (v : Vec) : Lo (eA v) (cZ v):=by
 unfold eA cZ
 repeat' (first | with_reducible refine ad ?_ ?_ ?_ ?_ ?_ | with_reducible refine ab ?_ ?_ ?_ ?_ | with_reducible refine ae ?_ ?_ ?_ | with_reducible refine ag ?_ ?_ | with_reducible refine ai ?_ ?_ | with_reducible refine aa ?_ _ | (intro _) | with_reducible exact aj _ | exact ah | (dsimp only))
def mr (v : Vec) : Option (Vec × Int) :=
 (eA v).bind fun x =>
 bif ! x then
 some ((⟨0,0⟩ : Vec),11)
 else
 some (v,0)
theorem sw (v : Vec) : Lo (mr v) (jg v):=by
 unfold mr jg
 repeat' (first | with_reducible exact kt _ | with_reducible refine ad ?_ ?_ ?_ ?_ ?_ | with_reducible refine ab ?_ ?_ ?_ ?_ | with_reducible refine ae ?_ ?_ ?_ | with_reducible refine ag ?_ ?_ | with_reducible refine ai ?_ ?_ | with_reducible refine aa ?_ _ | (intro _) | with_reducible exact aj _ | exact ah | (dsimp only))
def kP (a : Vec) (b : Vec) : Option (Vec × Int) :=
 (
 (eA a).bind fun x =>
 bif ! x then
  some true
 else
  (eA b).bind fun x1 =>
  some (! x1)).bind fun q =>
 bif q then
 some ((⟨0,0⟩ : Vec),1)
 else
 (mr (⟨w64 (a.Mem + b.Mem),w64 (a.Cores + b.Cores)⟩ : Vec)).bind fun x2 =>
 some (x2.1,x2.2)
theorem pJ (a : Vec) (b : Vec) : Lo (kP a b) (l_ a b):=by
 unfold kP l_
 repeat' (first | with_reducible exact kt _ | with_reducible exact sw _ | with_reducible refine ad ?_ ?_ ?_ ?_ ?_ | with_reducible refine ab ?_ ?_ ?_ ?_ | with_reducible refine ae ?_ ?_ ?_ | with_reducible refine ag ?_ ?_ | with_reducible refine ai ?_ ?_ | with_reducible refine aa ?_ _ | (intro _) | with_reducible exact aj _ | exact ah | (dsimp only))
def lS (l : List Vec) (t : Vec × Int) : Option ((Vec × Int) ⊕ Vec) :=
 bif decide (t.2 < (l.length : Int)) then
 (idx l t.2).bind fun x =>
 (kP t.1 x).bind fun x1 =>
 some (.inl (x1.1,w64 (t.2 + 1)))
 else
 some (.inr t.1)
theorem uo (l : List Vec) (t : Vec × Int) : Lo (lS l t) (nW l t):=by
 unfold lS nW
 repeat' (first | with_reducible exact pJ _ _ | with_reducible refine ad ?_ ?_ ?_ ?_ ?_ | with_reducible refine ab ?_ ?_ ?_ ?_ | with_reducible refine ae ?_ ?_ ?_ | with_reducible refine ag ?_ ?_ | with_reducible refine ai ?_ ?_ | with_reducible refine aa ?_ _ | (intro _) | with_reducible exact aj _ | exact ah | (dsimp only))
def pz (l : List Vec) : Option Vec :=
 (itr 4096 (lS l) ((⟨0,0⟩ : Vec),0)).bind fun out =>
 some out
theorem wB (l : List Vec) : Lo (pz l) (pb l):=by
 unfold pz pb
 repeat' (first | with_reducible exact uo _ _ | with_reducible refine ad ?_ ?_ ?_ ?_ ?_ | with_reducible refine ab ?_ ?_ ?_ ?_ | with_reducible refine ae ?_ ?_ ?_ | with_reducible refine ag ?_ ?_ | with_reducible refine ai ?_ ?_ | with_reducible refine aa ?_ _ | (intro _) | with_reducible exact aj _ | exact ah | (dsimp only))
def ki (s : State) (label : Int) (t : List Vec × Int) : Option ((List Vec × Int) ⊕ List Vec) :=
 bif decide (t.2 < (s.Nodes.length : Int)) then
 (
  (idx s.Nodes t.2).bind fun x =>
  (
  bif x.Up then
   some (x.Label == label)
  else
   some false).bind fun q =>
  bif q then
  (app 16 t.1 [x.Cap]).bind fun l =>
  some l
  else
  some t.1).bind fun l1 =>
 some (.inl (l1,w64 (t.2 + 1)))
 else
 some (.inr t.1)
theorem sN (s : State) (label : Int) (t : List Vec × Int) : Lo (ki s label t) (ma s label t):=by
 unfold ki ma
 repeat' (first | with_reducible refine ad ?_ ?_ ?_ ?_ ?_ | with_reducible refine ab ?_ ?_ ?_ ?_ | with_reducible refine ae ?_ ?_ ?_ | with_reducible refine ag ?_ ?_ | with_reducible refine ai ?_ ?_ | with_reducible refine aa ?_ _ | (intro _) | with_reducible exact aj _ | exact ah | (dsimp only))
def ip (s : State) (label : Int) : Option Vec :=
 (itr 4096 (ki s label) ([],0)).bind fun l2 =>
 (pz l2).bind fun x1 =>
 some x1
theorem aF (s : State) (label : Int) : Lo (ip s label) (ej s label):=by
 unfold ip ej
 repeat' (first | with_reducible exact sN _ _ _ | with_reducible exact wB _ | with_reducible refine ad ?_ ?_ ?_ ?_ ?_ | with_reducible refine ab ?_ ?_ ?_ ?_ | with_reducible refine ae ?_ ?_ ?_ | with_reducible refine ag ?_ ?_ | with_reducible refine ai ?_ ?_ | with_reducible refine aa ?_ _ | (intro _) | with_reducible exact aj _ | exact ah | (dsimp only))
def gu (v : View) (c : Cont) (t : App × Int) : Option ((App × Int) ⊕ ((App × Bool) ⊕ App)) :=
 bif decide (t.2 < (v.s.Apps.length : Int)) then
 (idx v.s.Apps t.2).bind fun x =>
 bif x.Id == c.App then
  some (.inr (.inl (x,true)))
 else
  some (.inl (t.1,w64 (t.2 + 1)))
 else
 some (.inr (.inr (t.1)))
theorem pj (v : View) (c : Cont) (t : App × Int) : Lo (gu v c t) (iE v c t):=by
 unfold gu iE
 repeat' (first | with_reducible refine ad ?_ ?_ ?_ ?_ ?_ | with_reducible refine ab ?_ ?_ ?_ ?_ | with_reducible refine ae ?_ ?_ ?_ | with_reducible refine ag ?_ ?_ | with_reducible refine ai ?_ ?_ | with_reducible refine aa ?_ _ | (intro _) | with_reducible exact aj _ | exact ah | (dsimp only))
def iV (v : View) (c : Cont) : Option (App × Bool) :=
 (itr 4096 (gu v c) ((⟨0,0,[],0,0,⟨0,0⟩,[],0,0,[],[],[],[]⟩ : App),0)).bind fun q0 =>
 match q0 with
 | .inl q =>
 some (q.1,q.2)
 | .inr q1 =>
 some ((⟨0,0,[],0,0,⟨0,0⟩,[],0,0,[],[],[],[]⟩ : App),false)
theorem rl (v : View) (c : Cont) : Lo (iV v c) (hU v c):=by
 unfold iV hU
 repeat' (first | with_reducible exact pj _ _ _ | with_reducible refine ad ?_ ?_ ?_ ?_ ?_ | with_reducible refine ab ?_ ?_ ?_ ?_ | with_reducible refine ae ?_ ?_ ?_ | with_reducible refine ag ?_ ?_ | with_reducible refine ai ?_ ?_ | with_reducible refine aa ?_ _ | (intro _) | with_reducible exact aj _ | exact ah | (dsimp only))
def ft (s : List UInt8) (prefix_ : List UInt8) : Option Bool :=
 bif decide ((s.length : Int) ≥ (prefix_.length : Int)) then
 (slc s 0 (prefix_.length : Int)).bind fun s1 =>
 some (s1 == prefix_)
 else
 some false
theorem oE (s : List UInt8) (prefix_ : List UInt8) : Lo (ft s prefix_) (eC s prefix_):=by
 unfold ft eC
 repeat' (first | with_reducible refine ad ?_ ?_ ?_ ?_ ?_ | with_reducible refine ab ?_ ?_ ?_ ?_ | with_reducible refine ae ?_ ?_ ?_ | with_reducible refine ag ?_ ?_ | with_reducible refine ai ?_ ?_ | with_reducible refine aa ?_ _ | (intro _) | with_reducible exact aj _ | exact ah | (dsimp only))
def iH (s : List UInt8) (prefix_ : List UInt8) : Option Bool :=
 (ft s prefix_).bind fun x =>
 some x
theorem qE (s : List UInt8) (prefix_ : List UInt8) : Lo (iH s prefix_) (go s prefix_):=by
 unfold iH go
 repeat' (first | with_reducible exact oE _ _ | with_reducible refine ad ?_ ?_ ?_ ?_ ?_ | with_reducible refine ab ?_ ?_ ?_ ?_ | with_reducible refine ae ?_ ?_ ?_ | with_reducible refine ag ?_ ?_ | with_reducible refine ai ?_ ?_ | with_reducible refine aa ?_ _ | (intro _) | with_reducible exact aj _ | exact ah | (dsimp only))
def gU (v : View) (a : App) : Option Bool :=
 (
 bif a.Queue == v.path then
  some true
 else
  (cat v.path ([46] : List UInt8)).bind fun s =>
  (iH a.Queue s).bind fun x =>
  some x).bind fun below =>
 bif below then
 bif v.user == (-1) then
  some true
 else
  some (a.User == v.user)
 else
 some false
theorem m7 (v : View) (a : App) : Lo (gU v a) (gR v a):=by
 unfold gU gR
 repeat' (first | with_reducible exact qE _ _ | with_reducible refine ad ?_ ?_ ?_ ?_ ?_ | with_reducible refine ab ?_ ?_ ?_ ?_ | with_reducible refine ae ?_ ?_ ?_ | with_reducible refine ag ?_ ?_ | with_reducible refine ai ?_ ?_ | with_reducible refine aa ?_ _ | (intro _) | with_reducible exact aj _ | exact ah | (dsimp only))
def ia (v : View) (t : Vec × Int) : Option ((Vec × Int) ⊕ Vec) :=
 bif decide (t.2 < (v.s.Conts.length : Int)) then
 (
  (idx v.s.Conts t.2).bind fun x =>
  (iV v x).bind fun x1 =>
  (
  bif x1.2 then
   bif x.Label == v.label then
   (gU v x1.1).bind fun x2 =>
   some x2
   else
   some false
  else
   some false).bind fun q =>
  bif q then
  (kP t.1 x.Size).bind fun x3 =>
  some x3.1
  else
  some t.1).bind fun out =>
 some (.inl (out,w64 (t.2 + 1)))
 else
 some (.inr t.1)
theorem pV (v : View) (t : Vec × Int) : Lo (ia v t) (iW v t):=by
 unfold ia iW
 repeat' (first | with_reducible exact rl _ _ | with_reducible exact m7 _ _ | with_reducible exact pJ _ _ | with_reducible refine ad ?_ ?_ ?_ ?_ ?_ | with_reducible refine ab ?_ ?_ ?_ ?_ | with_reducible refine ae ?_ ?_ ?_ | with_reducible refine ag ?_ ?_ | with_reducible refine ai ?_ ?_ | with_reducible refine aa ?_ _ | (intro _) | with_reducible exact aj _ | exact ah | (dsimp only))
def jF (v : View) : Option Vec :=
 (itr 4096 (ia v) ((⟨0,0⟩ : Vec),0)).bind fun out1 =>
 some out1
theorem se (v : View) : Lo (jF v) (iJ v):=by
 unfold jF iJ
 repeat' (first | with_reducible exact pV _ _ | with_reducible refine ad ?_ ?_ ?_ ?_ ?_ | with_reducible refine ab ?_ ?_ ?_ ?_ | with_reducible refine ae ?_ ?_ ?_ | with_reducible refine ag ?_ ?_ | with_reducible refine ai ?_ ?_ | with_reducible refine aa ?_ _ | (intro _) | with_reducible exact aj _ | exact ah | (dsimp only))
def fa (s : State) (path : List UInt8) (label : Int) : Option Vec :=
 (jF (⟨⟨⟨s.Conf.Labels,s.Conf.Queues⟩,s.Nodes,s.Apps,s.Conts,s.Slots,s.Plans,s.Now,s.Epoch,s.Seq⟩,path,label,(-1)⟩ : View)).bind fun x =>
 some x
theorem ao (s : State) (path : List UInt8) (label : Int) : Lo (fa s path label) (aU s path label):=by
 unfold fa aU
 repeat' (first | with_reducible exact se _ | with_reducible refine ad ?_ ?_ ?_ ?_ ?_ | with_reducible refine ab ?_ ?_ ?_ ?_ | with_reducible refine ae ?_ ?_ ?_ | with_reducible refine ag ?_ ?_ | with_reducible refine ai ?_ ?_ | with_reducible refine aa ?_ _ | (intro _) | with_reducible exact aj _ | exact ah | (dsimp only))
def dd (s : List UInt8) (c : Int) (i1 : Int) : Option (Int ⊕ (Int ⊕ Unit)) :=
 bif decide (i1 ≥ 0) then
 (idx s i1).bind fun ch =>
 bif (ch.toNat : Int) == c then
  some (.inr (.inl i1))
 else
  some (.inl (w64 (i1 - 1)))
 else
 some (.inr (.inr ()))
theorem j7 (s : List UInt8) (c : Int) (i1 : Int) : Lo (dd s c i1) (dF s c i1):=by
 unfold dd dF
 repeat' (first | with_reducible refine ad ?_ ?_ ?_ ?_ ?_ | with_reducible refine ab ?_ ?_ ?_ ?_ | with_reducible refine ae ?_ ?_ ?_ | with_reducible refine ag ?_ ?_ | with_reducible refine ai ?_ ?_ | with_reducible refine aa ?_ _ | (intro _) | with_reducible exact aj _ | exact ah | (dsimp only))
def dU (s : List UInt8) (c : Int) : Option Int :=
 let i:=w64 ((s.length : Int) - 1)
 (itr 4096 (dd s c) i).bind fun q0 =>
 match q0 with
 | .inl q =>
 some q
 | .inr _ =>
 some (-1)
theorem kV (s : List UInt8) (c : Int) : Lo (dU s c) (cF s c):=by
 unfold dU cF
 repeat' (first | with_reducible exact j7 _ _ _ | with_reducible refine ad ?_ ?_ ?_ ?_ ?_ | with_reducible refine ab ?_ ?_ ?_ ?_ | with_reducible refine ae ?_ ?_ ?_ | with_reducible refine ag ?_ ?_ | with_reducible refine ai ?_ ?_ | with_reducible refine aa ?_ _ | (intro _) | with_reducible exact aj _ | exact ah | (dsimp only))
def dq (t1 : Int × Int × Int) : Option ((Int × Int × Int) ⊕ Int) :=
 bif decide (t1.2.2 > 0) then
 (
  bif (andK .i64 t1.2.2 1) != 0 then
  let pow:=IntKind.u32.wrap (t1.1 * t1.2.1)
  some pow
  else
  some t1.1).bind fun pow1 =>
 let sq:=IntKind.u32.wrap (t1.2.1 * t1.2.1)
 some (.inl (pow1,sq,shrK .i64 t1.2.2 1))
 else
 some (.inr t1.1)
theorem kn (t1 : Int × Int × Int) : Lo (dq t1) (dT t1):=by
 unfold dq dT
 repeat' (first | with_reducible refine ad ?_ ?_ ?_ ?_ ?_ | with_reducible refine ab ?_ ?_ ?_ ?_ | with_reducible refine ae ?_ ?_ ?_ | with_reducible refine ag ?_ ?_ | with_reducible refine ai ?_ ?_ | with_reducible refine aa ?_ _ | (intro _) | with_reducible exact aj _ | exact ah | (dsimp only))
def dt (sep : List UInt8) (t : Int × Int) : Option ((Int × Int) ⊕ Int) :=
 bif decide (t.2 ≥ 0) then
 (idx sep t.2).bind fun ch =>
 let hash:=IntKind.u32.wrap ((IntKind.u32.wrap (t.1 * 16777619)) + (IntKind.u32.wrap (ch.toNat : Int)))
 some (.inl (hash,w64 (t.2 - 1)))
 else
 some (.inr t.1)
theorem ky (sep : List UInt8) (t : Int × Int) : Lo (dt sep t) (dV sep t):=by
 unfold dt dV
 repeat' (first | with_reducible refine ad ?_ ?_ ?_ ?_ ?_ | with_reducible refine ab ?_ ?_ ?_ ?_ | with_reducible refine ae ?_ ?_ ?_ | with_reducible refine ag ?_ ?_ | with_reducible refine ai ?_ ?_ | with_reducible refine aa ?_ _ | (intro _) | with_reducible exact aj _ | exact ah | (dsimp only))
def d7 (sep : List UInt8) : Option (Int × Int) :=
 let i:=w64 ((sep.length : Int) - 1)
 (itr 4096 (dt sep) (0,i)).bind fun hash1 =>
 (itr 4096 dq (1,16777619,(sep.length : Int))).bind fun pow2 =>
 some (hash1,pow2)
theorem lI (sep : List UInt8) : Lo (d7 sep) (cT sep):=by
 unfold d7 cT
 repeat' (first | with_reducible exact ky _ _ | with_reducible exact kn _ | with_reducible refine ad ?_ ?_ ?_ ?_ ?_ | with_reducible refine ab ?_ ?_ ?_ ?_ | with_reducible refine ae ?_ ?_ ?_ | with_reducible refine ag ?_ ?_ | with_reducible refine ai ?_ ?_ | with_reducible refine aa ?_ _ | (intro _) | with_reducible exact aj _ | exact ah | (dsimp only))
def bF (s : List UInt8) (sep : List UInt8) (x : Int × Int) (t1 : Int × Int) : Option ((Int × Int) ⊕ (Int ⊕ Unit)) :=
 bif decide (t1.2 ≥ 0) then
 (idx s t1.2).bind fun ch1 =>
 let h2:=IntKind.u32.wrap ((IntKind.u32.wrap (t1.1 * 16777619)) + (IntKind.u32.wrap (ch1.toNat : Int)))
 (idx s (w64 (t1.2 + (sep.length : Int)))).bind fun ch2 =>
 let h3:=IntKind.u32.wrap (h2 - (IntKind.u32.wrap (x.2 * (IntKind.u32.wrap (ch2.toNat : Int)))))
 (
  bif h3 == x.1 then
  (slc s t1.2 (w64 (t1.2 + (sep.length : Int)))).bind fun s2 =>
  some (s2 == sep)
  else
  some false).bind fun q1 =>
 bif q1 then
  some (.inr (.inl (t1.2)))
 else
  some (.inl (h3,w64 (t1.2 - 1)))
 else
 some (.inr (.inr ()))
theorem ic (s : List UInt8) (sep : List UInt8) (x : Int × Int) (t1 : Int × Int) : Lo (bF s sep x t1) (bT s sep x t1):=by
 unfold bF bT
 repeat' (first | with_reducible refine ad ?_ ?_ ?_ ?_ ?_ | with_reducible refine ab ?_ ?_ ?_ ?_ | with_reducible refine ae ?_ ?_ ?_ | with_reducible refine ag ?_ ?_ | with_reducible refine ai ?_ ?_ | with_reducible refine aa ?_ _ | (intro _) | with_reducible exact aj _ | exact ah | (dsimp only))
def bC (s : List UInt8) (last : Int) (t : Int × Int) : Option ((Int × Int) ⊕ Int) :=
 bif decide (t.2 ≥ last) then
 (idx s t.2).bind fun ch =>
 let h:=IntKind.u32.wrap ((IntKind.u32.wrap (t.1 * 16777619)) + (IntKind.u32.wrap (ch.toNat : Int)))
 some (.inl (h,w64 (t.2 - 1)))
 else
 some (.inr t.1)
theorem hH (s : List UInt8) (last : Int) (t : Int × Int) : Lo (bC s last t) (bS s last t):=by
 unfold bC bS
 repeat' (first | with_reducible refine ad ?_ ?_ ?_ ?_ ?_ | with_reducible refine ab ?_ ?_ ?_ ?_ | with_reducible refine ae ?_ ?_ ?_ | with_reducible refine ag ?_ ?_ | with_reducible refine ai ?_ ?_ | with_reducible refine aa ?_ _ | (intro _) | with_reducible exact aj _ | exact ah | (dsimp only))
def bZ (s : List UInt8) (sep : List UInt8) : Option Int :=
 (d7 sep).bind fun x =>
 let last:=w64 ((s.length : Int) - (sep.length : Int))
 let i:=w64 ((s.length : Int) - 1)
 (itr 4096 (bC s last) (0,i)).bind fun h1 =>
 (
 bif h1 == x.1 then
  (slc s last (s.length : Int)).bind fun s1 =>
  some (s1 == sep)
 else
  some false).bind fun q =>
 bif q then
 some last
 else
 (itr 4096 (bF s sep x) (h1,w64 (last - 1))).bind fun q0 =>
 match q0 with
 | .inl q2 =>
  some q2
 | .inr _ =>
  some (-1)
theorem iR (s : List UInt8) (sep : List UInt8) : Lo (bZ s sep) (ba s sep):=by
 unfold bZ ba
 repeat' (first | with_reducible exact lI _ | with_reducible exact hH _ _ _ | with_reducible exact ic _ _ _ _ | with_reducible refine ad ?_ ?_ ?_ ?_ ?_ | with_reducible refine ab ?_ ?_ ?_ ?_ | with_reducible refine ae ?_ ?_ ?_ | with_reducible refine ag ?_ ?_ | with_reducible refine ai ?_ ?_ | with_reducible refine aa ?_ _ | (intro _) | with_reducible exact aj _ | exact ah | (dsimp only))
def iD (s : List UInt8) (substr : List UInt8) : Option Int :=
 bif (substr.length : Int) == 0 then
 some (s.length : Int)
 else
 bif (substr.length : Int) == 1 then
  (idx substr 0).bind fun ch =>
  (dU s (ch.toNat : Int)).bind fun x =>
  some x
 else
  bif (substr.length : Int) == (s.length : Int) then
  bif substr == s then
   some 0
  else
   some (-1)
  else
  bif decide ((substr.length : Int) > (s.length : Int)) then
   some (-1)
  else
   (bZ s substr).bind fun x1 =>
   some x1
theorem qZ (s : List UInt8) (substr : List UInt8) : Lo (iD s substr) (gm s substr):=by
 unfold iD gm
 repeat' (first | with_reducible exact kV _ _ | with_reducible exact iR _ _ | with_reducible refine ad ?_ ?_ ?_ ?_ ?_ | with_reducible refine ab ?_ ?_ ?_ ?_ | with_reducible refine ae ?_ ?_ ?_ | with_reducible refine ag ?_ ?_ | with_reducible refine ai ?_ ?_ | with_reducible refine aa ?_ _ | (intro _) | with_reducible exact aj _ | exact ah | (dsimp only))
def ll (path : List UInt8) : Option (List UInt8 × Bool) :=
 (iD path ([46] : List UInt8)).bind fun i =>
 bif decide (i < 0) then
 some (([] : List UInt8),false)
 else
 (slc path 0 i).bind fun s =>
 some (s,true)
theorem re (path : List UInt8) : Lo (ll path) (li path):=by
 unfold ll li
 repeat' (first | with_reducible exact qZ _ _ | with_reducible refine ad ?_ ?_ ?_ ?_ ?_ | with_reducible refine ab ?_ ?_ ?_ ?_ | with_reducible refine ae ?_ ?_ ?_ | with_reducible refine ag ?_ ?_ | with_reducible refine ai ?_ ?_ | with_reducible refine aa ?_ _ | (intro _) | with_reducible exact aj _ | exact ah | (dsimp only))
def oA (t : List UInt8 × List (List UInt8)) : Option ((List UInt8 × List (List UInt8)) ⊕ List (List UInt8)) :=
 bif ! (t.1 == ([] : List UInt8)) then
 (app 16 t.2 [t.1]).bind fun l =>
 (ll t.1).bind fun x =>
 some (.inl (x.1,l))
 else
 some (.inr t.2)
theorem wk (t : List UInt8 × List (List UInt8)) : Lo (oA t) (qX t):=by
 unfold oA qX
 repeat' (first | with_reducible exact re _ | with_reducible refine ad ?_ ?_ ?_ ?_ ?_ | with_reducible refine ab ?_ ?_ ?_ ?_ | with_reducible refine ae ?_ ?_ ?_ | with_reducible refine ag ?_ ?_ | with_reducible refine ai ?_ ?_ | with_reducible refine aa ?_ _ | (intro _) | with_reducible exact aj _ | exact ah | (dsimp only))
def rA (path : List UInt8) : Option (List (List UInt8)) :=
 (itr 4096 oA (path,[])).bind fun out =>
 some out
theorem qN (path : List UInt8) : Lo (rA path) (lV path):=by
 unfold rA lV
 repeat' (first | with_reducible exact wk _ | with_reducible refine ad ?_ ?_ ?_ ?_ ?_ | with_reducible refine ab ?_ ?_ ?_ ?_ | with_reducible refine ae ?_ ?_ ?_ | with_reducible refine ag ?_ ?_ | with_reducible refine ai ?_ ?_ | with_reducible refine aa ?_ _ | (intro _) | with_reducible exact aj _ | exact ah | (dsimp only))
def CR (s : List Cap) : Option (List Cap) :=
 bif s.isEmpty then
 none
 else
 (app 16 [] s).bind fun l =>
 some l
def nk (s : List Cap) : Option (List Cap):=app 16 [] s
theorem tf (s : List Cap) : Lo (nk s) (nV s):=by
 unfold nk nV
 repeat' (first | with_reducible refine ad ?_ ?_ ?_ ?_ ?_ | with_reducible refine ab ?_ ?_ ?_ ?_ | with_reducible refine ae ?_ ?_ ?_ | with_reducible refine ag ?_ ?_ | with_reducible refine ai ?_ ?_ | with_reducible refine aa ?_ _ | (intro _) | with_reducible exact aj _ | exact ah | (dsimp only))
def lq (s : List Queue) (f : (TupT fam [.st 1] → Option Bool)) (t : Int) : Option (Int ⊕ (Int ⊕ Unit)) :=
 bif decide (t < (s.length : Int)) then
 (idx s t).bind fun x =>
 (f (x,())).bind fun r =>
 bif r then
  some (.inr (.inl t))
 else
  some (.inl (w64 (t + 1)))
 else
 some (.inr (.inr ()))
theorem tx (s : List Queue) (f f_' : (TupT fam [.st 1] → Option Bool)) (h_f : ∀ a,Lo (f a) (f_' a)) (t : Int) : Lo (lq s f t) (mX s f_' t):=by
 unfold lq mX
 repeat' (first | exact h_f _ | with_reducible refine ad ?_ ?_ ?_ ?_ ?_ | with_reducible refine ab ?_ ?_ ?_ ?_ | with_reducible refine ae ?_ ?_ ?_ | with_reducible refine ag ?_ ?_ | with_reducible refine ai ?_ ?_ | with_reducible refine aa ?_ _ | (intro _) | with_reducible exact aj _ | exact ah | (dsimp only))
def oz (s : List Queue) (f : (TupT fam [.st 1] → Option Bool)) : Option Int :=
 (itr 4096 (lq s f) 0).bind fun q0 =>
 match q0 with
 | .inl q =>
 some q
 | .inr _ =>
 some (-1)
theorem v5 (s : List Queue) (f f_' : (TupT fam [.st 1] → Option Bool)) (h_f : ∀ a,Lo (f a) (f_' a)) : Lo (oz s f) (nh s f_'):=by
 unfold oz nh
 repeat' (first | with_reducible refine tx _ _ _ ?_ _ | exact h_f _ | with_reducible refine ad ?_ ?_ ?_ ?_ ?_ | with_reducible refine ab ?_ ?_ ?_ ?_ | with_reducible refine ae ?_ ?_ ?_ | with_reducible refine ag ?_ ?_ | with_reducible refine ai ?_ ?_ | with_reducible refine aa ?_ _ | (intro _) | with_reducible exact aj _ | exact ah | (dsimp only))
def mS (q : Queue) (p : List UInt8) : Option Bool :=
 some (q.Path == p)
theorem vi (q : Queue) (p : List UInt8) : Lo (mS q p) (mh q p):=by
 unfold mS mh
 repeat' (first | with_reducible refine ad ?_ ?_ ?_ ?_ ?_ | with_reducible refine ab ?_ ?_ ?_ ?_ | with_reducible refine ae ?_ ?_ ?_ | with_reducible refine ag ?_ ?_ | with_reducible refine ai ?_ ?_ | with_reducible refine aa ?_ _ | (intro _) | with_reducible exact aj _ | exact ah | (dsimp only))
def mq (c : Conf) (path : List UInt8) : Option (Queue × Bool) :=
 (oz c.Queues (fun a' => mS a'.1 path)).bind fun i =>
 bif decide (i < 0) then
 some ((⟨[],[],0⟩ : Queue),false)
 else
 (idx c.Queues i).bind fun x =>
 (nk x.Caps).bind fun x1 =>
 some ((⟨x.Path,x1,x.User⟩ : Queue),true)
theorem kJ (c : Conf) (path : List UInt8) : Lo (mq c path) (fS c path):=by
 unfold mq fS
 repeat' (first | with_reducible refine v5 _ _ _ ?_ | with_reducible exact vi _ _ | with_reducible exact tf _ | with_reducible refine ad ?_ ?_ ?_ ?_ ?_ | with_reducible refine ab ?_ ?_ ?_ ?_ | with_reducible refine ae ?_ ?_ ?_ | with_reducible refine ag ?_ ?_ | with_reducible refine ai ?_ ?_ | with_reducible refine aa ?_ _ | (intro _) | with_reducible exact aj _ | exact ah | (dsimp only))
def n6 (x : Int) (y : Int) : Option (Int × Int) :=
 let w0:=IntKind.u64.wrap ((andK .u64 x 4294967295) * (andK .u64 y 4294967295))
 let t:=IntKind.u64.wrap ((IntKind.u64.wrap ((shrK .u64 x 32) * (andK .u64 y 4294967295))) + (shrK .u64 w0 32))
 let w1:=IntKind.u64.wrap ((andK .u64 t 4294967295) + (IntKind.u64.wrap ((andK .u64 x 4294967295) * (shrK .u64 y 32))))
 let hi:=IntKind.u64.wrap ((IntKind.u64.wrap ((IntKind.u64.wrap ((shrK .u64 x 32) * (shrK .u64 y 32))) + (shrK .u64 t 32))) + (shrK .u64 w1 32))
 some (hi,IntKind.u64.wrap (x * y))
theorem v_ (x : Int) (y : Int) : Lo (n6 x y) (jw x y):=by
 unfold n6 jw
 repeat' (first | with_reducible refine ad ?_ ?_ ?_ ?_ ?_ | with_reducible refine ab ?_ ?_ ?_ ?_ | with_reducible refine ae ?_ ?_ ?_ | with_reducible refine ag ?_ ?_ | with_reducible refine ai ?_ ?_ | with_reducible refine aa ?_ _ | (intro _) | with_reducible exact aj _ | exact ah | (dsimp only))
def lD (x : Int) : Option Int :=
 (
 bif decide (x ≥ 4294967296) then
  some (shrK .u64 x 32,32)
 else
  some (x,0)).bind fun q =>
 (
 bif decide (q.1 ≥ 65536) then
  some (shrK .u64 q.1 16,w64 (q.2 + 16))
 else
  some (q.1,q.2)).bind fun q1 =>
 (
 bif decide (q1.1 ≥ 256) then
  some (shrK .u64 q1.1 8,w64 (q1.2 + 8))
 else
  some (q1.1,q1.2)).bind fun q2 =>
 (idx ([0,1,2,2,3,3,3,3,4,4,4,4,4,4,4,4,5,5,5,5,5,5,5,5,5,5,5,5,5,5,5,5,6,6,6,6,6,6,6,6,6,6,6,6,6,6,6,6,6,6,6,6,6,6,6,6,6,6,6,6,6,6,6,6,7,7,7,7,7,7,7,7,7,7,7,7,7,7,7,7,7,7,7,7,7,7,7,7,7,7,7,7,7,7,7,7,7,7,7,7,7,7,7,7,7,7,7,7,7,7,7,7,7,7,7,7,7,7,7,7,7,7,7,7,7,7,7,7,8,8,8,8,8,8,8,8,8,8,8,8,8,8,8,8,8,8,8,8,8,8,8,8,8,8,8,8,8,8,8,8,8,8,8,8,8,8,8,8,8,8,8,8,8,8,8,8,8,8,8,8,8,8,8,8,8,8,8,8,8,8,8,8,8,8,8,8,8,8,8,8,8,8,8,8,8,8,8,8,8,8,8,8,8,8,8,8,8,8,8,8,8,8,8,8,8,8,8,8,8,8,8,8,8,8,8,8,8,8,8,8,8,8,8,8,8,8,8,8,8,8,8,8,8,8,8,8] : List UInt8) (IntKind.u8.wrap q2.1)).bind fun ch =>
 let n:=w64 (q2.2 + (w64 (ch.toNat : Int)))
 some n
theorem rg (x : Int) : Lo (lD x) (lv x):=by
 unfold lD lv
 repeat' (first | with_reducible refine ad ?_ ?_ ?_ ?_ ?_ | with_reducible refine ab ?_ ?_ ?_ ?_ | with_reducible refine ae ?_ ?_ ?_ | with_reducible refine ag ?_ ?_ | with_reducible refine ai ?_ ?_ | with_reducible refine aa ?_ _ | (intro _) | with_reducible exact aj _ | exact ah | (dsimp only))
def gM (x : Int) : Option Int :=
 (lD x).bind fun x1 =>
 some (w64 (64 - x1))
theorem pH (x : Int) : Lo (gM x) (fp x):=by
 unfold gM fp
 repeat' (first | with_reducible exact rg _ | with_reducible refine ad ?_ ?_ ?_ ?_ ?_ | with_reducible refine ab ?_ ?_ ?_ ?_ | with_reducible refine ae ?_ ?_ ?_ | with_reducible refine ag ?_ ?_ | with_reducible refine ai ?_ ?_ | with_reducible refine aa ?_ _ | (intro _) | with_reducible exact aj _ | exact ah | (dsimp only))
def kQ (yn1 : Int) (yn0 : Int) (un0 : Int) (t1 : Int × Int) : Option ((Int × Int) ⊕ Int) :=
 (
 bif decide (t1.2 ≥ 4294967296) then
  some true
 else
  some (decide ((IntKind.u64.wrap (t1.2 * yn0)) > (IntKind.u64.wrap ((IntKind.u64.wrap (4294967296 * t1.1)) + un0))))).bind fun q2 =>
 bif q2 then
 bif decide ((IntKind.u64.wrap (t1.1 + yn1)) ≥ 4294967296) then
  some (.inr (IntKind.u64.wrap (t1.2 - 1)))
 else
  some (.inl (IntKind.u64.wrap (t1.1 + yn1),IntKind.u64.wrap (t1.2 - 1)))
 else
 some (.inr t1.2)
theorem tN (yn1 : Int) (yn0 : Int) (un0 : Int) (t1 : Int × Int) : Lo (kQ yn1 yn0 un0 t1) (mR yn1 yn0 un0 t1):=by
 unfold kQ mR
 repeat' (first | with_reducible refine ad ?_ ?_ ?_ ?_ ?_ | with_reducible refine ab ?_ ?_ ?_ ?_ | with_reducible refine ae ?_ ?_ ?_ | with_reducible refine ag ?_ ?_ | with_reducible refine ai ?_ ?_ | with_reducible refine aa ?_ _ | (intro _) | with_reducible exact aj _ | exact ah | (dsimp only))
def lp (yn1 : Int) (yn0 : Int) (un1 : Int) (t : Int × Int) : Option ((Int × Int) ⊕ Int) :=
 (
 bif decide (t.1 ≥ 4294967296) then
  some true
 else
  some (decide ((IntKind.u64.wrap (t.1 * yn0)) > (IntKind.u64.wrap ((IntKind.u64.wrap (4294967296 * t.2)) + un1))))).bind fun q =>
 bif q then
 bif decide ((IntKind.u64.wrap (t.2 + yn1)) ≥ 4294967296) then
  some (.inr (IntKind.u64.wrap (t.1 - 1)))
 else
  some (.inl (IntKind.u64.wrap (t.1 - 1),IntKind.u64.wrap (t.2 + yn1)))
 else
 some (.inr t.1)
theorem tR (yn1 : Int) (yn0 : Int) (un1 : Int) (t : Int × Int) : Lo (lp yn1 yn0 un1 t) (mU yn1 yn0 un1 t):=by
 unfold lp mU
 repeat' (first | with_reducible refine ad ?_ ?_ ?_ ?_ ?_ | with_reducible refine ab ?_ ?_ ?_ ?_ | with_reducible refine ae ?_ ?_ ?_ | with_reducible refine ag ?_ ?_ | with_reducible refine ai ?_ ?_ | with_reducible refine aa ?_ _ | (intro _) | with_reducible exact aj _ | exact ah | (dsimp only))
def nZ (hi : Int) (lo : Int) (y : Int) : Option (Int × Int) :=
 bif y == 0 then
 none
 else
 bif decide (y ≤ hi) then
  none
 else
  bif hi == 0 then
  (nz y).bind fun _ =>
  (nz y).bind fun _ =>
  some (IntKind.u64.wrap (Int.tdiv lo y),Int.tmod lo y)
  else
  (gM y).bind fun x =>
  (nn (IntKind.u64.wrap x)).bind fun _ =>
  let yn1:=shrK .u64 (shlK .u64 y (IntKind.u64.wrap x)) 32
  let yn0:=andK .u64 (shlK .u64 y (IntKind.u64.wrap x)) 4294967295
  (nn (IntKind.u64.wrap x)).bind fun _ =>
  (nn (IntKind.u64.wrap (64 - (IntKind.u64.wrap x)))).bind fun _ =>
  let un32:=orK .u64 (shlK .u64 hi (IntKind.u64.wrap x)) (shrK .u64 lo (IntKind.u64.wrap (64 - (IntKind.u64.wrap x))))
  (nn (IntKind.u64.wrap x)).bind fun _ =>
  let un1:=shrK .u64 (shlK .u64 lo (IntKind.u64.wrap x)) 32
  let un0:=andK .u64 (shlK .u64 lo (IntKind.u64.wrap x)) 4294967295
  (nz yn1).bind fun _ =>
  let rhat:=IntKind.u64.wrap (un32 - (IntKind.u64.wrap ((IntKind.u64.wrap (Int.tdiv un32 yn1)) * yn1)))
  (itr 4096 (lp yn1 yn0 un1) (IntKind.u64.wrap (Int.tdiv un32 yn1),rhat)).bind fun q1 =>
  let un21:=IntKind.u64.wrap ((IntKind.u64.wrap ((IntKind.u64.wrap (un32 * 4294967296)) + un1)) - (IntKind.u64.wrap (q1 * (shlK .u64 y (IntKind.u64.wrap x)))))
  (nz yn1).bind fun _ =>
  let rhat1:=IntKind.u64.wrap (un21 - (IntKind.u64.wrap ((IntKind.u64.wrap (Int.tdiv un21 yn1)) * yn1)))
  (itr 4096 (kQ yn1 yn0 un0) (rhat1,IntKind.u64.wrap (Int.tdiv un21 yn1))).bind fun q0 =>
  (nn (IntKind.u64.wrap x)).bind fun _ =>
  let quo:=IntKind.u64.wrap ((IntKind.u64.wrap (q1 * 4294967296)) + q0)
  let rem:=shrK .u64 (IntKind.u64.wrap ((IntKind.u64.wrap ((IntKind.u64.wrap (un21 * 4294967296)) + un0)) - (IntKind.u64.wrap (q0 * (shlK .u64 y (IntKind.u64.wrap x)))))) (IntKind.u64.wrap x)
  some (quo,rem)
theorem v9 (hi : Int) (lo : Int) (y : Int) : Lo (nZ hi lo y) (kO hi lo y):=by
 unfold nZ kO
 repeat' (first | with_reducible exact pH _ | with_reducible exact tR _ _ _ _ | with_reducible exact tN _ _ _ _ | with_reducible refine ad ?_ ?_ ?_ ?_ ?_ | with_reducible refine ab ?_ ?_ ?_ ?_ | with_reducible refine ae ?_ ?_ ?_ | with_reducible refine ag ?_ ?_ | with_reducible refine ai ?_ ?_ | with_reducible refine aa ?_ _ | (intro _) | with_reducible exact aj _ | exact ah | (dsimp only))
def mg (n : Int) (bp : Int) : Option Int :=
 (n6 (IntKind.u64.wrap n) (IntKind.u64.wrap bp)).bind fun x =>
 (nZ x.1 x.2 10000).bind fun x1 =>
 some (w64 x1.1)
theorem xg (n : Int) (bp : Int) : Lo (mg n bp) (jf n bp):=by
 unfold mg jf
 repeat' (first | with_reducible exact v_ _ _ | with_reducible exact v9 _ _ _ | with_reducible refine ad ?_ ?_ ?_ ?_ ?_ | with_reducible refine ab ?_ ?_ ?_ ?_ | with_reducible refine ae ?_ ?_ ?_ | with_reducible refine ag ?_ ?_ | with_reducible refine ai ?_ ?_ | with_reducible refine aa ?_ _ | (intro _) | with_reducible exact aj _ | exact ah | (dsimp only))
def oJ (a : Vec) (bp : Int) : Option (Vec × Int) :=
 (
 (eA a).bind fun x =>
 bif ! x then
  some true
 else
  bif decide (bp < 0) then
  some true
  else
  some (decide (bp > 1000000))).bind fun q =>
 bif q then
 some ((⟨0,0⟩ : Vec),1)
 else
 (mg a.Mem bp).bind fun x1 =>
 (mg a.Cores bp).bind fun x2 =>
 (mr (⟨x1,x2⟩ : Vec)).bind fun x3 =>
 some (x3.1,x3.2)
theorem v7 (a : Vec) (bp : Int) : Lo (oJ a bp) (dN a bp):=by
 unfold oJ dN
 repeat' (first | with_reducible exact kt _ | with_reducible exact xg _ _ | with_reducible exact sw _ | with_reducible refine ad ?_ ?_ ?_ ?_ ?_ | with_reducible refine ab ?_ ?_ ?_ ?_ | with_reducible refine ae ?_ ?_ ?_ | with_reducible refine ag ?_ ?_ | with_reducible refine ai ?_ ?_ | with_reducible refine aa ?_ _ | (intro _) | with_reducible exact aj _ | exact ah | (dsimp only))
def kM (s : State) (label : Int) (part : (TupT fam [.st 0] → Option Int)) (up : List (List UInt8)) (t : Vec × Vec × Int) : Option ((Vec × Vec × Int) ⊕ (Vec ⊕ (Vec × Vec))) :=
 bif decide (t.2.2 ≥ 0) then
 (inb t.2.2 up.length).bind fun i1 =>
 (up[i1]?).bind fun x2 =>
 (mq s.Conf x2).bind fun x3 =>
 (
  bif ! x3.2 then
  some true
  else
  bif decide (label < 0) then
   some true
  else
   some (decide (label ≥ (x3.1.Caps.length : Int)))).bind fun q =>
 bif q then
  some (.inr (.inl (⟨0,0⟩ : Vec)))
 else
  (inb label x3.1.Caps.length).bind fun i2 =>
  (x3.1.Caps[i2]?).bind fun x4 =>
  (part (x4,())).bind fun r =>
  (oJ t.2.1 r).bind fun x5 =>
  some (.inl (t.1,x5.1,w64 (t.2.2 - 1)))
 else
 some (.inr (.inr (t.1,t.2.1)))
theorem tD (s : State) (label : Int) (part part_' : (TupT fam [.st 0] → Option Int)) (h_part : ∀ a,Lo (part a) (part_' a)) (up : List (List UInt8)) (t : Vec × Vec × Int) : Lo (kM s label part up t) (fH s label part_' up t):=by
 unfold kM fH
 repeat' (first | with_reducible exact kJ _ _ | with_reducible exact v7 _ _ | exact h_part _ | with_reducible refine ad ?_ ?_ ?_ ?_ ?_ | with_reducible refine ab ?_ ?_ ?_ ?_ | with_reducible refine ae ?_ ?_ ?_ | with_reducible refine ag ?_ ?_ | with_reducible refine ai ?_ ?_ | with_reducible refine aa ?_ _ | (intro _) | with_reducible exact aj _ | exact ah | (dsimp only))
def lz (s : State) (path : List UInt8) (label : Int) (part : (TupT fam [.st 0] → Option Int)) : Option Vec :=
 (rA path).bind fun up =>
 (mq s.Conf path).bind fun x =>
 bif ! x.2 then
 some (⟨0,0⟩ : Vec)
 else
 (ip s label).bind fun x1 =>
 let i:=w64 ((up.length : Int) - 2)
 (itr 4096 (kM s label part up) ((⟨0,0⟩ : Vec),x1,i)).bind fun q0 =>
 match q0 with
 | .inl q1 =>
  some q1
 | .inr q2 =>
  some q2.2
theorem rh (s : State) (path : List UInt8) (label : Int) (part part_' : (TupT fam [.st 0] → Option Int)) (h_part : ∀ a,Lo (part a) (part_' a)) : Lo (lz s path label part) (hZ s path label part_'):=by
 unfold lz hZ
 repeat' (first | with_reducible exact qN _ | with_reducible exact kJ _ _ | with_reducible exact aF _ _ | with_reducible refine tD _ _ _ _ ?_ _ _ | exact h_part _ | with_reducible refine ad ?_ ?_ ?_ ?_ ?_ | with_reducible refine ab ?_ ?_ ?_ ?_ | with_reducible refine ae ?_ ?_ ?_ | with_reducible refine ag ?_ ?_ | with_reducible refine ai ?_ ?_ | with_reducible refine aa ?_ _ | (intro _) | with_reducible exact aj _ | exact ah | (dsimp only))
def ga (c : Cap) : Option Int :=
 some c.Least
theorem oN (c : Cap) : Lo (ga c) (cp c):=by
 unfold ga cp
 repeat' (first | with_reducible refine ad ?_ ?_ ?_ ?_ ?_ | with_reducible refine ab ?_ ?_ ?_ ?_ | with_reducible refine ae ?_ ?_ ?_ | with_reducible refine ag ?_ ?_ | with_reducible refine ai ?_ ?_ | with_reducible refine aa ?_ _ | (intro _) | with_reducible exact aj _ | exact ah | (dsimp only))
def j9 (s : State) (path : List UInt8) (label : Int) : Option Vec :=
 (lz s path label (fun a' => ga a'.1)).bind fun x =>
 some x
theorem p7 (s : State) (path : List UInt8) (label : Int) : Lo (j9 s path label) (cO s path label):=by
 unfold j9 cO
 repeat' (first | with_reducible refine rh _ _ _ _ _ ?_ | with_reducible exact oN _ | with_reducible refine ad ?_ ?_ ?_ ?_ ?_ | with_reducible refine ab ?_ ?_ ?_ ?_ | with_reducible refine ae ?_ ?_ ?_ | with_reducible refine ag ?_ ?_ | with_reducible refine ai ?_ ?_ | with_reducible refine aa ?_ _ | (intro _) | with_reducible exact aj _ | exact ah | (dsimp only))
def mn (a : App) : Option Bool :=
 bif a.State == 1 then
 some true
 else
 some (a.State == 2)
theorem rX (a : App) : Lo (mn a) (mC a):=by
 unfold mn mC
 repeat' (first | with_reducible refine ad ?_ ?_ ?_ ?_ ?_ | with_reducible refine ab ?_ ?_ ?_ ?_ | with_reducible refine ae ?_ ?_ ?_ | with_reducible refine ag ?_ ?_ | with_reducible refine ai ?_ ?_ | with_reducible refine aa ?_ _ | (intro _) | with_reducible exact aj _ | exact ah | (dsimp only))
def dc (s : List Int) (f : (TupT fam [.int .i64] → Option Bool)) (t : Int) : Option (Int ⊕ (Int ⊕ Unit)) :=
 bif decide (t < (s.length : Int)) then
 (idx s t).bind fun x =>
 (f (x,())).bind fun r =>
 bif r then
  some (.inr (.inl t))
 else
  some (.inl (w64 (t + 1)))
 else
 some (.inr (.inr ()))
theorem jR (s : List Int) (f f_' : (TupT fam [.int .i64] → Option Bool)) (h_f : ∀ a,Lo (f a) (f_' a)) (t : Int) : Lo (dc s f t) (dJ s f_' t):=by
 unfold dc dJ
 repeat' (first | exact h_f _ | with_reducible refine ad ?_ ?_ ?_ ?_ ?_ | with_reducible refine ab ?_ ?_ ?_ ?_ | with_reducible refine ae ?_ ?_ ?_ | with_reducible refine ag ?_ ?_ | with_reducible refine ai ?_ ?_ | with_reducible refine aa ?_ _ | (intro _) | with_reducible exact aj _ | exact ah | (dsimp only))
def dR (s : List Int) (f : (TupT fam [.int .i64] → Option Bool)) : Option Int :=
 (itr 4096 (dc s f) 0).bind fun q0 =>
 match q0 with
 | .inl q =>
 some q
 | .inr _ =>
 some (-1)
theorem lF (s : List Int) (f f_' : (TupT fam [.int .i64] → Option Bool)) (h_f : ∀ a,Lo (f a) (f_' a)) : Lo (dR s f) (cE s f_'):=by
 unfold dR cE
 repeat' (first | with_reducible refine jR _ _ _ ?_ _ | exact h_f _ | with_reducible refine ad ?_ ?_ ?_ ?_ ?_ | with_reducible refine ab ?_ ?_ ?_ ?_ | with_reducible refine ae ?_ ?_ ?_ | with_reducible refine ag ?_ ?_ | with_reducible refine ai ?_ ?_ | with_reducible refine aa ?_ _ | (intro _) | with_reducible exact aj _ | exact ah | (dsimp only))
def db (s : List Int) (f : (TupT fam [.int .i64] → Option Bool)) : Option Bool :=
 (dR s f).bind fun x =>
 some (decide (x ≥ 0))
theorem jV (s : List Int) (f f_' : (TupT fam [.int .i64] → Option Bool)) (h_f : ∀ a,Lo (f a) (f_' a)) : Lo (db s f) (bR s f_'):=by
 unfold db bR
 repeat' (first | with_reducible refine lF _ _ _ ?_ | exact h_f _ | with_reducible refine ad ?_ ?_ ?_ ?_ ?_ | with_reducible refine ab ?_ ?_ ?_ ?_ | with_reducible refine ae ?_ ?_ ?_ | with_reducible refine ag ?_ ?_ | with_reducible refine ai ?_ ?_ | with_reducible refine aa ?_ _ | (intro _) | with_reducible exact aj _ | exact ah | (dsimp only))
def oG (n : Int) (p : Int) (p1 : Int) : Option Bool :=
 bif decide (n < p) then
 some true
 else
 some (decide (n > p1))
theorem v6 (n : Int) (p : Int) (p1 : Int) : Lo (oG n p p1) (np n p p1):=by
 unfold oG np
 repeat' (first | with_reducible refine ad ?_ ?_ ?_ ?_ ?_ | with_reducible refine ab ?_ ?_ ?_ ?_ | with_reducible refine ae ?_ ?_ ?_ | with_reducible refine ag ?_ ?_ | with_reducible refine ai ?_ ?_ | with_reducible refine aa ?_ _ | (intro _) | with_reducible exact aj _ | exact ah | (dsimp only))
def na (least : Int) (most : Int) (l : List Int) : Option Bool :=
 (db l (fun a' => oG a'.1 least most)).bind fun x =>
 some (! x)
theorem xW (least : Int) (most : Int) (l : List Int) : Lo (na least most l) (ol least most l):=by
 unfold na ol
 repeat' (first | with_reducible refine jV _ _ _ ?_ | with_reducible exact v6 _ _ _ | with_reducible refine ad ?_ ?_ ?_ ?_ ?_ | with_reducible refine ab ?_ ?_ ?_ ?_ | with_reducible refine ae ?_ ?_ ?_ | with_reducible refine ag ?_ ?_ | with_reducible refine ai ?_ ?_ | with_reducible refine aa ?_ _ | (intro _) | with_reducible exact aj _ | exact ah | (dsimp only))
def jD (l : List Ask) (label : Int) (t : Vec × Int) : Option ((Vec × Int) ⊕ Vec) :=
 bif decide (t.2 < (l.length : Int)) then
 (
  (idx l t.2).bind fun x =>
  (
  bif x.Label == label then
   (na 0 1125899906842624 [x.Size.Mem,x.Size.Cores]).bind fun x1 =>
   bif x1 then
   (na 0 50 [x.Count]).bind fun x2 =>
   some x2
   else
   some false
  else
   some false).bind fun q =>
  bif q then
  some (⟨w64 (t.1.Mem + (w64 (x.Size.Mem * x.Count))),w64 (t.1.Cores + (w64 (x.Size.Cores * x.Count)))⟩ : Vec)
  else
  some t.1).bind fun out =>
 some (.inl (out,w64 (t.2 + 1)))
 else
 some (.inr t.1)
theorem rP (l : List Ask) (label : Int) (t : Vec × Int) : Lo (jD l label t) (k9 l label t):=by
 unfold jD k9
 repeat' (first | with_reducible exact xW _ _ _ | with_reducible refine ad ?_ ?_ ?_ ?_ ?_ | with_reducible refine ab ?_ ?_ ?_ ?_ | with_reducible refine ae ?_ ?_ ?_ | with_reducible refine ag ?_ ?_ | with_reducible refine ai ?_ ?_ | with_reducible refine aa ?_ _ | (intro _) | with_reducible exact aj _ | exact ah | (dsimp only))
def mb (l : List Ask) (label : Int) : Option Vec :=
 (itr 4096 (jD l label) ((⟨0,0⟩ : Vec),0)).bind fun out1 =>
 some out1
theorem uw (l : List Ask) (label : Int) : Lo (mb l label) (lw l label):=by
 unfold mb lw
 repeat' (first | with_reducible exact rP _ _ _ | with_reducible refine ad ?_ ?_ ?_ ?_ ?_ | with_reducible refine ab ?_ ?_ ?_ ?_ | with_reducible refine ae ?_ ?_ ?_ | with_reducible refine ag ?_ ?_ | with_reducible refine ai ?_ ?_ | with_reducible refine aa ?_ _ | (intro _) | with_reducible exact aj _ | exact ah | (dsimp only))
def fA (v : View) (t : Vec × Int) : Option ((Vec × Int) ⊕ Vec) :=
 bif decide (t.2 < (v.s.Apps.length : Int)) then
 (
  (idx v.s.Apps t.2).bind fun x =>
  (
  (mn x).bind fun x1 =>
  bif x1 then
   (gU v x).bind fun x2 =>
   some x2
  else
   some false).bind fun q =>
  bif q then
  (mb x.Asks v.label).bind fun x3 =>
  (kP t.1 x3).bind fun x4 =>
  some x4.1
  else
  some t.1).bind fun out =>
 some (.inl (out,w64 (t.2 + 1)))
 else
 some (.inr t.1)
theorem oq (v : View) (t : Vec × Int) : Lo (fA v t) (gP v t):=by
 unfold fA gP
 repeat' (first | with_reducible exact rX _ | with_reducible exact m7 _ _ | with_reducible exact uw _ _ | with_reducible exact pJ _ _ | with_reducible refine ad ?_ ?_ ?_ ?_ ?_ | with_reducible refine ab ?_ ?_ ?_ ?_ | with_reducible refine ae ?_ ?_ ?_ | with_reducible refine ag ?_ ?_ | with_reducible refine ai ?_ ?_ | with_reducible refine aa ?_ _ | (intro _) | with_reducible exact aj _ | exact ah | (dsimp only))
def g9 (v : View) : Option Vec :=
 (itr 4096 (fA v) ((⟨0,0⟩ : Vec),0)).bind fun out1 =>
 some out1
theorem qn (v : View) : Lo (g9 v) (fJ v):=by
 unfold g9 fJ
 repeat' (first | with_reducible exact oq _ _ | with_reducible refine ad ?_ ?_ ?_ ?_ ?_ | with_reducible refine ab ?_ ?_ ?_ ?_ | with_reducible refine ae ?_ ?_ ?_ | with_reducible refine ag ?_ ?_ | with_reducible refine ai ?_ ?_ | with_reducible refine aa ?_ _ | (intro _) | with_reducible exact aj _ | exact ah | (dsimp only))
def iO (s : State) (path : List UInt8) (label : Int) : Option Vec :=
 (g9 (⟨⟨⟨s.Conf.Labels,s.Conf.Queues⟩,s.Nodes,s.Apps,s.Conts,s.Slots,s.Plans,s.Now,s.Epoch,s.Seq⟩,path,label,(-1)⟩ : View)).bind fun x =>
 some x
theorem ax (s : State) (path : List UInt8) (label : Int) : Lo (iO s path label) (aw s path label):=by
 unfold iO aw
 repeat' (first | with_reducible exact qn _ | with_reducible refine ad ?_ ?_ ?_ ?_ ?_ | with_reducible refine ab ?_ ?_ ?_ ?_ | with_reducible refine ae ?_ ?_ ?_ | with_reducible refine ag ?_ ?_ | with_reducible refine ai ?_ ?_ | with_reducible refine aa ?_ _ | (intro _) | with_reducible exact aj _ | exact ah | (dsimp only))
def lO (c : Conf) (path : List UInt8) (t : List (List UInt8) × Int) : Option ((List (List UInt8) × Int) ⊕ List (List UInt8)) :=
 bif decide (t.2 < (c.Queues.length : Int)) then
 (
  (idx c.Queues t.2).bind fun x =>
  (ll x.Path).bind fun x1 =>
  (
  bif x1.2 then
   some (x1.1 == path)
  else
   some false).bind fun q =>
  bif q then
  (app 16 t.1 [x.Path]).bind fun l =>
  some l
  else
  some t.1).bind fun out =>
 some (.inl (out,w64 (t.2 + 1)))
 else
 some (.inr t.1)
theorem uC (c : Conf) (path : List UInt8) (t : List (List UInt8) × Int) : Lo (lO c path t) (oF c path t):=by
 unfold lO oF
 repeat' (first | with_reducible exact re _ | with_reducible refine ad ?_ ?_ ?_ ?_ ?_ | with_reducible refine ab ?_ ?_ ?_ ?_ | with_reducible refine ae ?_ ?_ ?_ | with_reducible refine ag ?_ ?_ | with_reducible refine ai ?_ ?_ | with_reducible refine aa ?_ _ | (intro _) | with_reducible exact aj _ | exact ah | (dsimp only))
def pO (c : Conf) (path : List UInt8) : Option (List (List UInt8)) :=
 (itr 4096 (lO c path) ([],0)).bind fun out1 =>
 some out1
theorem kL (c : Conf) (path : List UInt8) : Lo (pO c path) (eU c path):=by
 unfold pO eU
 repeat' (first | with_reducible exact uC _ _ _ | with_reducible refine ad ?_ ?_ ?_ ?_ ?_ | with_reducible refine ab ?_ ?_ ?_ ?_ | with_reducible refine ae ?_ ?_ ?_ | with_reducible refine ag ?_ ?_ | with_reducible refine ai ?_ ?_ | with_reducible refine aa ?_ _ | (intro _) | with_reducible exact aj _ | exact ah | (dsimp only))
def gI (c : Cap) : Option Int :=
 some c.Most
theorem pD (c : Cap) : Lo (gI c) (cI c):=by
 unfold gI cI
 repeat' (first | with_reducible refine ad ?_ ?_ ?_ ?_ ?_ | with_reducible refine ab ?_ ?_ ?_ ?_ | with_reducible refine ae ?_ ?_ ?_ | with_reducible refine ag ?_ ?_ | with_reducible refine ai ?_ ?_ | with_reducible refine aa ?_ _ | (intro _) | with_reducible exact aj _ | exact ah | (dsimp only))
def ox (s : State) (path : List UInt8) (label : Int) : Option Vec :=
 (lz s path label (fun a' => gI a'.1)).bind fun x =>
 some x
theorem wj (s : State) (path : List UInt8) (label : Int) : Lo (ox s path label) (eh s path label):=by
 unfold ox eh
 repeat' (first | with_reducible refine rh _ _ _ _ _ ?_ | with_reducible exact pD _ | with_reducible refine ad ?_ ?_ ?_ ?_ ?_ | with_reducible refine ab ?_ ?_ ?_ ?_ | with_reducible refine ae ?_ ?_ ?_ | with_reducible refine ag ?_ ?_ | with_reducible refine ai ?_ ?_ | with_reducible refine aa ?_ _ | (intro _) | with_reducible exact aj _ | exact ah | (dsimp only))
def jL (l : List Int) (t : Int × Int) : Option ((Int × Int) ⊕ Int) :=
 bif decide (t.2 < (l.length : Int)) then
 (idx l t.2).bind fun x =>
 some (.inl (imin t.1 x,w64 (t.2 + 1)))
 else
 some (.inr t.1)
theorem rM (l : List Int) (t : Int × Int) : Lo (jL l t) (lk l t):=by
 unfold jL lk
 repeat' (first | with_reducible refine ad ?_ ?_ ?_ ?_ ?_ | with_reducible refine ab ?_ ?_ ?_ ?_ | with_reducible refine ae ?_ ?_ ?_ | with_reducible refine ag ?_ ?_ | with_reducible refine ai ?_ ?_ | with_reducible refine aa ?_ _ | (intro _) | with_reducible exact aj _ | exact ah | (dsimp only))
def eY (first : Int) (l : List Int) : Option Int :=
 (itr 4096 (jL l) (first,0)).bind fun first1 =>
 some first1
theorem lC (first : Int) (l : List Int) : Lo (eY first l) (e_ first l):=by
 unfold eY e_
 repeat' (first | with_reducible exact rM _ _ | with_reducible refine ad ?_ ?_ ?_ ?_ ?_ | with_reducible refine ab ?_ ?_ ?_ ?_ | with_reducible refine ae ?_ ?_ ?_ | with_reducible refine ag ?_ ?_ | with_reducible refine ai ?_ ?_ | with_reducible refine aa ?_ _ | (intro _) | with_reducible exact aj _ | exact ah | (dsimp only))
def ep (n : Int) : Option Int :=
 (
 bif decide (n < 0) then
  some true
 else
  some (decide (n > 1125899906842624))).bind fun q =>
 bif q then
 some 0
 else
 some n
theorem m0 (n : Int) : Lo (ep n) (eQ n):=by
 unfold ep eQ
 repeat' (first | with_reducible refine ad ?_ ?_ ?_ ?_ ?_ | with_reducible refine ab ?_ ?_ ?_ ?_ | with_reducible refine ae ?_ ?_ ?_ | with_reducible refine ag ?_ ?_ | with_reducible refine ai ?_ ?_ | with_reducible refine aa ?_ _ | (intro _) | with_reducible exact aj _ | exact ah | (dsimp only))
def kq (want : List Int) (most : List Int) (n : Int) (t1 : List Int × Int × Int) : Option ((List Int × Int × Int) ⊕ List Int) :=
 bif decide (t1.2.2 < n) then
 (idx want t1.2.2).bind fun x9 =>
 (ep x9).bind fun x10 =>
 (idx most t1.2.2).bind fun x11 =>
 (ep x11).bind fun x12 =>
 (eY x10 [x12]).bind fun x13 =>
 (inb t1.2.2 t1.1.length).bind fun i2 =>
 (t1.1[i2]?).bind fun x14 =>
 (eY (imax (w64 (x13 - x14)) 0) [t1.2.1]).bind fun more =>
 (inb t1.2.2 t1.1.length).bind fun i3 =>
 (t1.1[i3]?).bind fun x15 =>
 (inb t1.2.2 t1.1.length).bind fun i4 =>
 (t1.1[i4]?).bind fun x16 =>
 some (.inl (List.set t1.1 i4 (w64 (x15 + more)),w64 (t1.2.1 - more),w64 (t1.2.2 + 1)))
 else
 some (.inr t1.1)
theorem sS (want : List Int) (most : List Int) (n : Int) (t1 : List Int × Int × Int) : Lo (kq want most n t1) (lN want most n t1):=by
 unfold kq lN
 repeat' (first | with_reducible exact m0 _ | with_reducible exact lC _ _ | with_reducible refine ad ?_ ?_ ?_ ?_ ?_ | with_reducible refine ab ?_ ?_ ?_ ?_ | with_reducible refine ae ?_ ?_ ?_ | with_reducible refine ag ?_ ?_ | with_reducible refine ai ?_ ?_ | with_reducible refine aa ?_ _ | (intro _) | with_reducible exact aj _ | exact ah | (dsimp only))
def km (least : List Int) (want : List Int) (most : List Int) (n : Int) (t : List Int × Int × Int) : Option ((List Int × Int × Int) ⊕ ((List Int × Int))) :=
 bif decide (t.2.2 < n) then
 (idx least t.2.2).bind fun x =>
 (ep x).bind fun x1 =>
 (idx want t.2.2).bind fun x2 =>
 (ep x2).bind fun x3 =>
 (idx most t.2.2).bind fun x4 =>
 (ep x4).bind fun x5 =>
 (eY x1 [x3,x5,t.2.1]).bind fun x6 =>
 (inb t.2.2 t.1.length).bind fun i =>
 (t.1[i]?).bind fun x7 =>
 (inb t.2.2 (List.set t.1 i x6).length).bind fun i1 =>
 ((List.set t.1 i x6)[i1]?).bind fun x8 =>
 some (.inl (List.set t.1 i x6,w64 (t.2.1 - x8),w64 (t.2.2 + 1)))
 else
 some (.inr (t.1,t.2.1))
theorem sO (least : List Int) (want : List Int) (most : List Int) (n : Int) (t : List Int × Int × Int) : Lo (km least want most n t) (md least want most n t):=by
 unfold km md
 repeat' (first | with_reducible exact m0 _ | with_reducible exact lC _ _ | with_reducible refine ad ?_ ?_ ?_ ?_ ?_ | with_reducible refine ab ?_ ?_ ?_ ?_ | with_reducible refine ae ?_ ?_ ?_ | with_reducible refine ag ?_ ?_ | with_reducible refine ai ?_ ?_ | with_reducible refine aa ?_ _ | (intro _) | with_reducible exact aj _ | exact ah | (dsimp only))
def ke (total : Int) (least : List Int) (want : List Int) (most : List Int) : Option (List Int) :=
 (eY (least.length : Int) [(want.length : Int),(most.length : Int)]).bind fun n =>
 (mkl 8 n n 0).bind fun l =>
 (ep total).bind fun left =>
 (itr 4096 (km least want most n) (l,left,0)).bind fun q =>
 (itr 4096 (kq want most n) (q.1,q.2,0)).bind fun out =>
 some out
theorem qj (total : Int) (least : List Int) (want : List Int) (most : List Int) : Lo (ke total least want most) (em total least want most):=by
 unfold ke em
 repeat' (first | with_reducible exact lC _ _ | with_reducible exact m0 _ | with_reducible exact sO _ _ _ _ _ | with_reducible exact sS _ _ _ _ | with_reducible refine ad ?_ ?_ ?_ ?_ ?_ | with_reducible refine ab ?_ ?_ ?_ ?_ | with_reducible refine ae ?_ ?_ ?_ | with_reducible refine ag ?_ ?_ | with_reducible refine ai ?_ ?_ | with_reducible refine aa ?_ _ | (intro _) | with_reducible exact aj _ | exact ah | (dsimp only))
def jd (s : State) (label : Int) (deep : Int) (self : State → (List UInt8) → Int → Int → Int → Option (List Share)) (kids : List (List UInt8)) (x5 : List Int) (t1 : List Share × Int) : Option ((List Share × Int) ⊕ List Share) :=
 bif decide (t1.2 < (x5.length : Int)) then
 (inb t1.2 x5.length).bind fun i1 =>
 (x5[i1]?).bind fun x6 =>
 (inb t1.2 kids.length).bind fun i2 =>
 (kids[i2]?).bind fun x7 =>
 (self s x7 label x6 (w64 (deep + 1))).bind fun x8 =>
 (app 24 t1.1 x8).bind fun l3 =>
 some (.inl (l3,w64 (t1.2 + 1)))
 else
 some (.inr t1.1)
theorem rn (s : State) (label : Int) (deep : Int) (self self_' : State → (List UInt8) → Int → Int → Int → Option (List Share)) (h_self : ∀ (a0 : State) (a1 : (List UInt8)) (a2 : Int) (a3 : Int) (a4 : Int),Lo (self a0 a1 a2 a3 a4) (self_' a0 a1 a2 a3 a4)) (kids : List (List UInt8)) (x5 : List Int) (t1 : List Share × Int) : Lo (jd s label deep self kids x5 t1) (bv s label deep self_' kids x5 t1):=by
 unfold jd bv
 repeat' (first | with_reducible refine h_self _ _ _ _ _ | with_reducible refine ad ?_ ?_ ?_ ?_ ?_ | with_reducible refine ab ?_ ?_ ?_ ?_ | with_reducible refine ae ?_ ?_ ?_ | with_reducible refine ag ?_ ?_ | with_reducible refine ai ?_ ?_ | with_reducible refine aa ?_ _ | (intro _) | with_reducible exact aj _ | exact ah | (dsimp only))
def jk (s : State) (label : Int) (kids : List (List UInt8)) (t : Rows3_ListInt × Int) : Option ((Rows3_ListInt × Int) ⊕ Rows3_ListInt) :=
 bif decide (t.2 < (kids.length : Int)) then
 (inb t.2 kids.length).bind fun i =>
 (kids[i]?).bind fun x =>
 (j9 s x label).bind fun x1 =>
 (fa s x label).bind fun x2 =>
 (iO s x label).bind fun x3 =>
 (ox s x label).bind fun x4 =>
 (inS t.2 (t.1.r0.length : Int) t.1.r0.length).bind fun p =>
 (inS 0 1 [x1.Mem,w64 (x2.Mem + x3.Mem),x4.Mem].length).bind fun p1 =>
 (inS t.2 (t.1.r1.length : Int) t.1.r1.length).bind fun p2 =>
 (inS 1 2 [x1.Mem,w64 (x2.Mem + x3.Mem),x4.Mem].length).bind fun p3 =>
 (inS t.2 (t.1.r2.length : Int) t.1.r2.length).bind fun p4 =>
 (inS 2 3 [x1.Mem,w64 (x2.Mem + x3.Mem),x4.Mem].length).bind fun p5 =>
 some (.inl ((⟨cpy t.1.r0 p.1 p.2 (sub [x1.Mem,w64 (x2.Mem + x3.Mem),x4.Mem] p1.1 p1.2),cpy t.1.r1 p2.1 p2.2 (sub [x1.Mem,w64 (x2.Mem + x3.Mem),x4.Mem] p3.1 p3.2),cpy t.1.r2 p4.1 p4.2 (sub [x1.Mem,w64 (x2.Mem + x3.Mem),x4.Mem] p5.1 p5.2)⟩ : Rows3_ListInt),w64 (t.2 + 1)))
 else
 some (.inr t.1)
theorem ru (s : State) (label : Int) (kids : List (List UInt8)) (t : Rows3_ListInt × Int) : Lo (jk s label kids t) (bz s label kids t):=by
 unfold jk bz
 repeat' (first | with_reducible exact p7 _ _ _ | with_reducible exact ao _ _ _ | with_reducible exact ax _ _ _ | with_reducible exact wj _ _ _ | with_reducible refine ad ?_ ?_ ?_ ?_ ?_ | with_reducible refine ab ?_ ?_ ?_ ?_ | with_reducible refine ae ?_ ?_ ?_ | with_reducible refine ag ?_ ?_ | with_reducible refine ai ?_ ?_ | with_reducible refine aa ?_ _ | (intro _) | with_reducible exact aj _ | exact ah | (dsimp only))
def k8 (self : State → (List UInt8) → Int → Int → Int → Option (List Share)) (s : State) (path : List UInt8) (label : Int) (mem : Int) (deep : Int) : Option (List Share) :=
 (pO s.Conf path).bind fun kids =>
 (
 bif (kids.length : Int) == 0 then
  some true
 else
  some (decide (deep > 4))).bind fun q =>
 bif q then
 some [(⟨path,mem⟩ : Share)]
 else
 (mkl 8 (kids.length : Int) (kids.length : Int) 0).bind fun l =>
 (mkl 8 (kids.length : Int) (kids.length : Int) 0).bind fun l1 =>
 (mkl 8 (kids.length : Int) (kids.length : Int) 0).bind fun l2 =>
 (itr 4096 (jk s label kids) ((⟨l,l1,l2⟩ : Rows3_ListInt),0)).bind fun rows =>
 (ke mem rows.r0 rows.r1 rows.r2).bind fun x5 =>
 (itr 4096 (jd s label deep self kids x5) ([],0)).bind fun out =>
 some out
theorem tG (self self_' : State → (List UInt8) → Int → Int → Int → Option (List Share)) (h_self : ∀ (a0 : State) (a1 : (List UInt8)) (a2 : Int) (a3 : Int) (a4 : Int),Lo (self a0 a1 a2 a3 a4) (self_' a0 a1 a2 a3 a4)) (s : State) (path : List UInt8) (label : Int) (mem : Int) (deep : Int) : Lo (k8 self s path label mem deep) (cY self_' s path label mem deep):=by
 unfold k8 cY
 repeat' (first | with_reducible exact kL _ _ | with_reducible exact ru _ _ _ _ | with_reducible exact qj _ _ _ _ | with_reducible refine rn _ _ _ _ _ ?_ _ _ _ | with_reducible refine h_self _ _ _ _ _ | with_reducible refine ad ?_ ?_ ?_ ?_ ?_ | with_reducible refine ab ?_ ?_ ?_ ?_ | with_reducible refine ae ?_ ?_ ?_ | with_reducible refine ag ?_ ?_ | with_reducible refine ai ?_ ?_ | with_reducible refine aa ?_ _ | (intro _) | with_reducible exact aj _ | exact ah | (dsimp only))
def iK : Nat → State → (List UInt8) → Int → Int → Int → Option (List Share)
 | 0 => fun _ _ _ _ _ => none
 | n + 1 => k8 (iK n)
theorem nX : ∀ (n : Nat),∀ (a0 : State) (a1 : List UInt8) (a2 : Int) (a3 : Int) (a4 : Int),Lo (iK n a0 a1 a2 a3 a4) (aG n a0 a1 a2 a3 a4)
 | 0 => fun _ _ _ _ _ => ah
 | n + 1 => fun a0 a1 a2 a3 a4 => tG (iK n) (aG n) (nX n) a0 a1 a2 a3 a4
def mZ (a0 : State) (a1 : List UInt8) (a2 : Int) (a3 : Int) (a4 : Int) : Option (List Share):=iK 64 a0 a1 a2 a3 a4
theorem u_ (a0 : State) (a1 : List UInt8) (a2 : Int) (a3 : Int) (a4 : Int) : Lo (mZ a0 a1 a2 a3 a4) (jU a0 a1 a2 a3 a4):=by
 unfold mZ jU
 repeat' (first | with_reducible refine nX _ _ _ _ _ _ | with_reducible refine ad ?_ ?_ ?_ ?_ ?_ | with_reducible refine ab ?_ ?_ ?_ ?_ | with_reducible refine ae ?_ ?_ ?_ | with_reducible refine ag ?_ ?_ | with_reducible refine ai ?_ ?_ | with_reducible refine aa ?_ _ | (intro _) | with_reducible exact aj _ | exact ah | (dsimp only))
def gQ (s : State) (label : Int) : Option (List Share) :=
 (ip s label).bind fun x =>
 (mZ s ([114,111,111,116] : List UInt8) label x.Mem 1).bind fun x1 =>
 some x1
theorem o0 (s : State) (label : Int) : Lo (gQ s label) (dO s label):=by
 unfold gQ dO
 repeat' (first | with_reducible exact aF _ _ | with_reducible exact u_ _ _ _ _ _ | with_reducible refine ad ?_ ?_ ?_ ?_ ?_ | with_reducible refine ab ?_ ?_ ?_ ?_ | with_reducible refine ae ?_ ?_ ?_ | with_reducible refine ag ?_ ?_ | with_reducible refine ai ?_ ?_ | with_reducible refine aa ?_ _ | (intro _) | with_reducible exact aj _ | exact ah | (dsimp only))
def mW (s : List App) (f : (TupT fam [.st 6] → Option Bool)) (t : Int) : Option (Int ⊕ (Int ⊕ Unit)) :=
 bif decide (t < (s.length : Int)) then
 (idx s t).bind fun x =>
 (f (x,())).bind fun r =>
 bif r then
  some (.inr (.inl t))
 else
  some (.inl (w64 (t + 1)))
 else
 some (.inr (.inr ()))
theorem uP (s : List App) (f f_' : (TupT fam [.st 6] → Option Bool)) (h_f : ∀ a,Lo (f a) (f_' a)) (t : Int) : Lo (mW s f t) (po s f_' t):=by
 unfold mW po
 repeat' (first | exact h_f _ | with_reducible refine ad ?_ ?_ ?_ ?_ ?_ | with_reducible refine ab ?_ ?_ ?_ ?_ | with_reducible refine ae ?_ ?_ ?_ | with_reducible refine ag ?_ ?_ | with_reducible refine ai ?_ ?_ | with_reducible refine aa ?_ _ | (intro _) | with_reducible exact aj _ | exact ah | (dsimp only))
def qF (s : List App) (f : (TupT fam [.st 6] → Option Bool)) : Option Int :=
 (itr 4096 (mW s f) 0).bind fun q0 =>
 match q0 with
 | .inl q =>
 some q
 | .inr _ =>
 some (-1)
theorem xF (s : List App) (f f_' : (TupT fam [.st 6] → Option Bool)) (h_f : ∀ a,Lo (f a) (f_' a)) : Lo (qF s f) (qI s f_'):=by
 unfold qF qI
 repeat' (first | with_reducible refine uP _ _ _ ?_ _ | exact h_f _ | with_reducible refine ad ?_ ?_ ?_ ?_ ?_ | with_reducible refine ab ?_ ?_ ?_ ?_ | with_reducible refine ae ?_ ?_ ?_ | with_reducible refine ag ?_ ?_ | with_reducible refine ai ?_ ?_ | with_reducible refine aa ?_ _ | (intro _) | with_reducible exact aj _ | exact ah | (dsimp only))
def pm (a : App) (p : Int) : Option Bool :=
 some (a.Id == p)
theorem wP (a : App) (p : Int) : Lo (pm a p) (oV a p):=by
 unfold pm oV
 repeat' (first | with_reducible refine ad ?_ ?_ ?_ ?_ ?_ | with_reducible refine ab ?_ ?_ ?_ ?_ | with_reducible refine ae ?_ ?_ ?_ | with_reducible refine ag ?_ ?_ | with_reducible refine ai ?_ ?_ | with_reducible refine aa ?_ _ | (intro _) | with_reducible exact aj _ | exact ah | (dsimp only))
def oU (s : State) (id_ : Int) : Option Int :=
 (qF s.Apps (fun a' => pm a'.1 id_)).bind fun x =>
 some x
theorem ux (s : State) (id_ : Int) : Lo (oU s id_) (pY s id_):=by
 unfold oU pY
 repeat' (first | with_reducible refine xF _ _ _ ?_ | with_reducible exact wP _ _ | with_reducible refine ad ?_ ?_ ?_ ?_ ?_ | with_reducible refine ab ?_ ?_ ?_ ?_ | with_reducible refine ae ?_ ?_ ?_ | with_reducible refine ag ?_ ?_ | with_reducible refine ai ?_ ?_ | with_reducible refine aa ?_ _ | (intro _) | with_reducible exact aj _ | exact ah | (dsimp only))
def CQ (s : List Ask) : Option (List Ask) :=
 bif s.isEmpty then
 none
 else
 (app 64 [] s).bind fun l =>
 some l
def q9 (s : List Ask) : Option (List Ask):=app 64 [] s
theorem xK (s : List Ask) : Lo (q9 s) (q_ s):=by
 unfold q9 q_
 repeat' (first | with_reducible refine ad ?_ ?_ ?_ ?_ ?_ | with_reducible refine ab ?_ ?_ ?_ ?_ | with_reducible refine ae ?_ ?_ ?_ | with_reducible refine ag ?_ ?_ | with_reducible refine ai ?_ ?_ | with_reducible refine aa ?_ _ | (intro _) | with_reducible exact aj _ | exact ah | (dsimp only))
def iv (l : List Int) : Option (List Int) :=
 (mkl 8 (l.length : Int) (l.length : Int) 0).bind fun l1 =>
 some (cpy l1 0 l1.length l)
theorem wF (l : List Int) : Lo (iv l) (iS l):=by
 unfold iv iS
 repeat' (first | with_reducible refine ad ?_ ?_ ?_ ?_ ?_ | with_reducible refine ab ?_ ?_ ?_ ?_ | with_reducible refine ae ?_ ?_ ?_ | with_reducible refine ag ?_ ?_ | with_reducible refine ai ?_ ?_ | with_reducible refine aa ?_ _ | (intro _) | with_reducible exact aj _ | exact ah | (dsimp only))
def nf (a : App) : Option App :=
 (q9 a.Asks).bind fun x =>
 (iv a.Grants).bind fun x1 =>
 (iv a.Kills).bind fun x2 =>
 (iv a.Told).bind fun x3 =>
 (iv a.Lost).bind fun x4 =>
 some (⟨a.Id,a.State,a.Queue,a.User,a.Prio,⟨a.Master.Mem,a.Master.Cores⟩,x,a.Seen,a.Beat,x1,x2,x3,x4⟩ : App)
theorem th (a : App) : Lo (nf a) (nG a):=by
 unfold nf nG
 repeat' (first | with_reducible exact xK _ | with_reducible exact wF _ | with_reducible refine ad ?_ ?_ ?_ ?_ ?_ | with_reducible refine ab ?_ ?_ ?_ ?_ | with_reducible refine ae ?_ ?_ ?_ | with_reducible refine ag ?_ ?_ | with_reducible refine ai ?_ ?_ | with_reducible refine aa ?_ _ | (intro _) | with_reducible exact aj _ | exact ah | (dsimp only))
def ml (s : State) (id_ : Int) : Option (App × Bool) :=
 (oU s id_).bind fun i =>
 bif decide (i < 0) then
 some ((⟨0,0,[],0,0,⟨0,0⟩,[],0,0,[],[],[],[]⟩ : App),false)
 else
 (idx s.Apps i).bind fun x =>
 (nf x).bind fun x1 =>
 some (x1,true)
theorem wM (s : State) (id_ : Int) : Lo (ml s id_) (pd s id_):=by
 unfold ml pd
 repeat' (first | with_reducible exact ux _ _ | with_reducible exact th _ | with_reducible refine ad ?_ ?_ ?_ ?_ ?_ | with_reducible refine ab ?_ ?_ ?_ ?_ | with_reducible refine ae ?_ ?_ ?_ | with_reducible refine ag ?_ ?_ | with_reducible refine ai ?_ ?_ | with_reducible refine aa ?_ _ | (intro _) | with_reducible exact aj _ | exact ah | (dsimp only))
def jH (s : State) (label : Int) (t1 : Looker × Int) : Option ((Looker × Int) ⊕ Looker) :=
 bif decide (t1.2 < (s.Conts.length : Int)) then
 (
  (idx s.Conts t1.2).bind fun x4 =>
  bif x4.Label != label then
  some t1.1
  else
  (ml s x4.App).bind fun x5 =>
  bif x4.Notice != 0 then
   (dX (⟨⟨⟨t1.1.s.Conf.Labels,t1.1.s.Conf.Queues⟩,t1.1.s.Nodes,t1.1.s.Apps,t1.1.s.Conts,t1.1.s.Slots,t1.1.s.Plans,t1.1.s.Now,t1.1.s.Epoch,t1.1.s.Seq⟩,t1.1.label,t1.1.over,mput (fun x6 => x4.Id == x6.k) t1.1.leaf (⟨x4.Id,x5.1.Queue⟩ : Ent2_IntListUInt8),t1.1.noticed,t1.1.gone⟩ : Looker) x4).bind fun x7 =>
   some x7
  else
   some (⟨⟨⟨t1.1.s.Conf.Labels,t1.1.s.Conf.Queues⟩,t1.1.s.Nodes,t1.1.s.Apps,t1.1.s.Conts,t1.1.s.Slots,t1.1.s.Plans,t1.1.s.Now,t1.1.s.Epoch,t1.1.s.Seq⟩,t1.1.label,t1.1.over,mput (fun x6 => x4.Id == x6.k) t1.1.leaf (⟨x4.Id,x5.1.Queue⟩ : Ent2_IntListUInt8),t1.1.noticed,t1.1.gone⟩ : Looker)).bind fun k1 =>
 some (.inl (k1,w64 (t1.2 + 1)))
 else
 some (.inr t1.1)
theorem ar (s : State) (label : Int) (t1 : Looker × Int) : Lo (jH s label t1) (eB s label t1):=by
 unfold jH eB
 repeat' (first | with_reducible exact wM _ _ | with_reducible exact iU _ _ | with_reducible refine ad ?_ ?_ ?_ ?_ ?_ | with_reducible refine ab ?_ ?_ ?_ ?_ | with_reducible refine ae ?_ ?_ ?_ | with_reducible refine ag ?_ ?_ | with_reducible refine ai ?_ ?_ | with_reducible refine aa ?_ _ | (intro _) | with_reducible exact aj _ | exact ah | (dsimp only))
def jN (s : State) (label : Int) (x : List Share) (t : Looker × Int) : Option ((Looker × Int) ⊕ Looker) :=
 bif decide (t.2 < (x.length : Int)) then
 (inb t.2 x.length).bind fun i =>
 (x[i]?).bind fun x1 =>
 (fa s x1.Path label).bind fun x2 =>
 some (.inl ((⟨⟨⟨t.1.s.Conf.Labels,t.1.s.Conf.Queues⟩,t.1.s.Nodes,t.1.s.Apps,t.1.s.Conts,t.1.s.Slots,t.1.s.Plans,t.1.s.Now,t.1.s.Epoch,t.1.s.Seq⟩,t.1.label,mput (fun x3 => x1.Path == x3.k) t.1.over (⟨x1.Path,w64 (x2.Mem - x1.Mem)⟩ : Ent0_ListUInt8Int),t.1.leaf,t.1.noticed,t.1.gone⟩ : Looker),w64 (t.2 + 1)))
 else
 some (.inr t.1)
theorem rv (s : State) (label : Int) (x : List Share) (t : Looker × Int) : Lo (jN s label x t) (bQ s label x t):=by
 unfold jN bQ
 repeat' (first | with_reducible exact ao _ _ _ | with_reducible refine ad ?_ ?_ ?_ ?_ ?_ | with_reducible refine ab ?_ ?_ ?_ ?_ | with_reducible refine ae ?_ ?_ ?_ | with_reducible refine ag ?_ ?_ | with_reducible refine ai ?_ ?_ | with_reducible refine aa ?_ _ | (intro _) | with_reducible exact aj _ | exact ah | (dsimp only))
def mc (s : State) (label : Int) : Option Looker :=
 (gQ s label).bind fun x =>
 (itr 4096 (jN s label x) ((⟨⟨⟨s.Conf.Labels,s.Conf.Queues⟩,s.Nodes,s.Apps,s.Conts,s.Slots,s.Plans,s.Now,s.Epoch,s.Seq⟩,label,[],[],[],0⟩ : Looker),0)).bind fun k =>
 (itr 4096 (jH s label) (k,0)).bind fun k2 =>
 some k2
theorem uG (s : State) (label : Int) : Lo (mc s label) (eo s label):=by
 unfold mc eo
 repeat' (first | with_reducible exact o0 _ _ | with_reducible exact rv _ _ _ _ | with_reducible exact ar _ _ _ | with_reducible refine ad ?_ ?_ ?_ ?_ ?_ | with_reducible refine ab ?_ ?_ ?_ ?_ | with_reducible refine ae ?_ ?_ ?_ | with_reducible refine ag ?_ ?_ | with_reducible refine ai ?_ ?_ | with_reducible refine aa ?_ _ | (intro _) | with_reducible exact aj _ | exact ah | (dsimp only))
def eT (k : Looker) (path : List UInt8) (x : Vec) (x1 : Vec) (x2 : App) (t1 : Int) : Option (Int ⊕ (Int ⊕ Unit)) :=
 bif decide (t1 < (x2.Asks.length : Int)) then
 (idx x2.Asks t1).bind fun x4 =>
 (
  bif x4.Label == k.label then
  some (decide ((w64 (x.Mem + x4.Size.Mem)) ≤ x1.Mem))
  else
  some false).bind fun q1 =>
 bif q1 then
  (iO k.s path k.label).bind fun x5 =>
  some (.inr (.inl (imin x5.Mem (w64 (x1.Mem - x.Mem)))))
 else
  some (.inl (w64 (t1 + 1)))
 else
 some (.inr (.inr ()))
theorem mO (k : Looker) (path : List UInt8) (x : Vec) (x1 : Vec) (x2 : App) (t1 : Int) : Lo (eT k path x x1 x2 t1) (aV k path x x1 x2 t1):=by
 unfold eT aV
 repeat' (first | with_reducible exact ax _ _ _ | with_reducible refine ad ?_ ?_ ?_ ?_ ?_ | with_reducible refine ab ?_ ?_ ?_ ?_ | with_reducible refine ae ?_ ?_ ?_ | with_reducible refine ag ?_ ?_ | with_reducible refine ai ?_ ?_ | with_reducible refine aa ?_ _ | (intro _) | with_reducible exact aj _ | exact ah | (dsimp only))
def eR (k : Looker) (path : List UInt8) (x : Vec) (x1 : Vec) (t : Int) : Option (Int ⊕ (Int ⊕ Unit)) :=
 bif decide (t < (k.s.Apps.length : Int)) then
 (
  (idx k.s.Apps t).bind fun x2 =>
  (
  (mn x2).bind fun x3 =>
  bif ! x3 then
   some true
  else
   some (! (x2.Queue == path))).bind fun q =>
  bif q then
  some (.inl ())
  else
  (itr 4096 (eT k path x x1 x2) 0).bind fun q0 =>
  match q0 with
  | .inl q2 =>
   some (.inr q2)
  | .inr _ =>
   some (.inl ()) : Option (Unit ⊕ Int)).bind fun q0 =>
 match q0 with
 | .inl _ =>
  some (.inl (w64 (t + 1)))
 | .inr q3 =>
  some (.inr (.inl q3))
 else
 some (.inr (.inr ()))
theorem eF (k : Looker) (path : List UInt8) (x : Vec) (x1 : Vec) (t : Int) : Lo (eR k path x x1 t) (aC k path x x1 t):=by
 unfold eR aC
 repeat' (first | with_reducible exact rX _ | with_reducible exact mO _ _ _ _ _ _ | with_reducible refine ad ?_ ?_ ?_ ?_ ?_ | with_reducible refine ab ?_ ?_ ?_ ?_ | with_reducible refine ae ?_ ?_ ?_ | with_reducible refine ag ?_ ?_ | with_reducible refine ai ?_ ?_ | with_reducible refine aa ?_ _ | (intro _) | with_reducible exact aj _ | exact ah | (dsimp only))
def gg (k : Looker) (path : List UInt8) : Option (Int × Looker) :=
 (fa k.s path k.label).bind fun x =>
 (j9 k.s path k.label).bind fun x1 =>
 (itr 4096 (eR k path x x1) 0).bind fun q0 =>
 match q0 with
 | .inl q4 =>
 some (q4,k)
 | .inr _ =>
 some (0,k)
theorem oQ (k : Looker) (path : List UInt8) : Lo (gg k path) (aN k path):=by
 unfold gg aN
 repeat' (first | with_reducible exact ao _ _ _ | with_reducible exact p7 _ _ _ | with_reducible exact eF _ _ _ _ _ | with_reducible refine ad ?_ ?_ ?_ ?_ ?_ | with_reducible refine ab ?_ ?_ ?_ ?_ | with_reducible refine ae ?_ ?_ ?_ | with_reducible refine ag ?_ ?_ | with_reducible refine ai ?_ ?_ | with_reducible refine aa ?_ _ | (intro _) | with_reducible exact aj _ | exact ah | (dsimp only))
def ff (x : List Share) (t : Looker × Int × Int) : Option ((Looker × Int × Int) ⊕ ((Looker × Int))) :=
 bif decide (t.2.2 < (x.length : Int)) then
 (inb t.2.2 x.length).bind fun i =>
 (x[i]?).bind fun x1 =>
 (gg t.1 x1.Path).bind fun x2 =>
 let sum:=w64 (t.2.1 + x2.1)
 some (.inl (x2.2,sum,w64 (t.2.2 + 1)))
 else
 some (.inr (t.1,t.2.1))
theorem nt (x : List Share) (t : Looker × Int × Int) : Lo (ff x t) (aS x t):=by
 unfold ff aS
 repeat' (first | with_reducible exact oQ _ _ | with_reducible refine ad ?_ ?_ ?_ ?_ ?_ | with_reducible refine ab ?_ ?_ ?_ ?_ | with_reducible refine ae ?_ ?_ ?_ | with_reducible refine ag ?_ ?_ | with_reducible refine ai ?_ ?_ | with_reducible refine aa ?_ _ | (intro _) | with_reducible exact aj _ | exact ah | (dsimp only))
def gK (k : Looker) : Option (Int × Looker) :=
 (gQ k.s k.label).bind fun x =>
 (itr 4096 (ff x) (k,0,0)).bind fun q =>
 (ip q.1.s q.1.label).bind fun x3 =>
 (fa q.1.s ([114,111,111,116] : List UInt8) q.1.label).bind fun x4 =>
 some (w64 (q.2 - (imax (w64 (x3.Mem - x4.Mem)) 0)),q.1)
theorem pv (k : Looker) : Lo (gK k) (a_ k):=by
 unfold gK a_
 repeat' (first | with_reducible exact o0 _ _ | with_reducible exact nt _ _ | with_reducible exact aF _ _ | with_reducible exact ao _ _ _ | with_reducible refine ad ?_ ?_ ?_ ?_ ?_ | with_reducible refine ab ?_ ?_ ?_ ?_ | with_reducible refine ae ?_ ?_ ?_ | with_reducible refine ag ?_ ?_ | with_reducible refine ai ?_ ?_ | with_reducible refine aa ?_ _ | (intro _) | with_reducible exact aj _ | exact ah | (dsimp only))
def kw (vals : List Int) (t : Int) : Option (Int ⊕ (Int ⊕ Unit)) :=
 bif decide (t < (vals.length : Int)) then
 (idx vals t).bind fun x =>
 bif x != 0 then
  some (.inr (.inl x))
 else
  some (.inl (w64 (t + 1)))
 else
 some (.inr (.inr ()))
theorem sP (vals : List Int) (t : Int) : Lo (kw vals t) (lM vals t):=by
 unfold kw lM
 repeat' (first | with_reducible refine ad ?_ ?_ ?_ ?_ ?_ | with_reducible refine ab ?_ ?_ ?_ ?_ | with_reducible refine ae ?_ ?_ ?_ | with_reducible refine ag ?_ ?_ | with_reducible refine ai ?_ ?_ | with_reducible refine aa ?_ _ | (intro _) | with_reducible exact aj _ | exact ah | (dsimp only))
def mQ (vals : List Int) : Option Int :=
 (itr 4096 (kw vals) 0).bind fun q0 =>
 match q0 with
 | .inl q =>
 some q
 | .inr _ =>
 some 0
theorem uQ (vals : List Int) : Lo (mQ vals) (mi vals):=by
 unfold mQ mi
 repeat' (first | with_reducible exact sP _ _ | with_reducible refine ad ?_ ?_ ?_ ?_ ?_ | with_reducible refine ab ?_ ?_ ?_ ?_ | with_reducible refine ae ?_ ?_ ?_ | with_reducible refine ag ?_ ?_ | with_reducible refine ai ?_ ?_ | with_reducible refine aa ?_ _ | (intro _) | with_reducible exact aj _ | exact ah | (dsimp only))
def ef (x : Int) : Option Bool :=
 some (x != x)
theorem m8 (x : Int) : Lo (ef x) (d6 x):=by
 unfold ef d6
 repeat' (first | with_reducible refine ad ?_ ?_ ?_ ?_ ?_ | with_reducible refine ab ?_ ?_ ?_ ?_ | with_reducible refine ae ?_ ?_ ?_ | with_reducible refine ag ?_ ?_ | with_reducible refine ai ?_ ?_ | with_reducible refine aa ?_ _ | (intro _) | with_reducible exact aj _ | exact ah | (dsimp only))
def iT (x : Int) (y : Int) : Option Int :=
 (ef x).bind fun xNaN =>
 (ef y).bind fun yNaN =>
 bif xNaN then
 bif yNaN then
  some 0
 else
  some (-1)
 else
 bif yNaN then
  some 1
 else
  bif decide (x < y) then
  some (-1)
  else
  bif decide (x > y) then
   some 1
  else
   some 0
theorem ri (x : Int) (y : Int) : Lo (iT x y) (gZ x y):=by
 unfold iT gZ
 repeat' (first | with_reducible exact m8 _ | with_reducible refine ad ?_ ?_ ?_ ?_ ?_ | with_reducible refine ab ?_ ?_ ?_ ?_ | with_reducible refine ae ?_ ?_ ?_ | with_reducible refine ag ?_ ?_ | with_reducible refine ai ?_ ?_ | with_reducible refine aa ?_ _ | (intro _) | with_reducible exact aj _ | exact ah | (dsimp only))
def fg (x : List UInt8) : Option Bool :=
 some (! (x == x))
theorem qW (x : List UInt8) : Lo (fg x) (eJ x):=by
 unfold fg eJ
 repeat' (first | with_reducible refine ad ?_ ?_ ?_ ?_ ?_ | with_reducible refine ab ?_ ?_ ?_ ?_ | with_reducible refine ae ?_ ?_ ?_ | with_reducible refine ag ?_ ?_ | with_reducible refine ai ?_ ?_ | with_reducible refine aa ?_ _ | (intro _) | with_reducible exact aj _ | exact ah | (dsimp only))
def gx (x : List UInt8) (y : List UInt8) : Option Int :=
 (fg x).bind fun xNaN =>
 (fg y).bind fun yNaN =>
 bif xNaN then
 bif yNaN then
  some 0
 else
  some (-1)
 else
 bif yNaN then
  some 1
 else
  bif Op.bytesLess x y then
  some (-1)
  else
  bif ! (strLe x y) then
   some 1
  else
   some 0
theorem pE (x : List UInt8) (y : List UInt8) : Lo (gx x y) (fk x y):=by
 unfold gx fk
 repeat' (first | with_reducible exact qW _ | with_reducible refine ad ?_ ?_ ?_ ?_ ?_ | with_reducible refine ab ?_ ?_ ?_ ?_ | with_reducible refine ae ?_ ?_ ?_ | with_reducible refine ag ?_ ?_ | with_reducible refine ai ?_ ?_ | with_reducible refine aa ?_ _ | (intro _) | with_reducible exact aj _ | exact ah | (dsimp only))
def fb (k : Looker) (_ob : Obj) (found : List UInt8) (e4 : Ent1_ListUInt8Cont) : Option (List UInt8) :=
 (
 bif found == ([] : List UInt8) then
  some true
 else
  let e5:=mget (fun x6 => found == x6.k) k.over (⟨found,0⟩ : Ent0_ListUInt8Int)
  let e6:=mget (fun x7 => e4.k == x7.k) k.over (⟨e4.k,0⟩ : Ent0_ListUInt8Int)
  (iT e5.v e6.v).bind fun x8 =>
  (gx e4.k found).bind fun x9 =>
  (mQ [x8,x9]).bind fun x10 =>
  some (decide (x10 < 0))).bind fun q2 =>
 bif q2 then
 some e4.k
 else
 some found
theorem nr (k : Looker) (_ob : Obj) (found : List UInt8) (e4 : Ent1_ListUInt8Cont) : Lo (fb k _ob found e4) (fX k _ob found e4):=by
 unfold fb fX
 repeat' (first | with_reducible exact ri _ _ | with_reducible exact pE _ _ | with_reducible exact uQ _ | with_reducible refine ad ?_ ?_ ?_ ?_ ?_ | with_reducible refine ab ?_ ?_ ?_ ?_ | with_reducible refine ae ?_ ?_ ?_ | with_reducible refine ag ?_ ?_ | with_reducible refine ai ?_ ?_ | with_reducible refine aa ?_ _ | (intro _) | with_reducible exact aj _ | exact ah | (dsimp only))
def fe (k : Looker) (t : List Ent1_ListUInt8Cont × Int) : Option ((List Ent1_ListUInt8Cont × Int) ⊕ List Ent1_ListUInt8Cont) :=
 bif decide (t.2 < (k.s.Conts.length : Int)) then
 (
  (idx k.s.Conts t.2).bind fun x =>
  let e:=mget (fun x1 => x.Id == x1.k) k.leaf (⟨x.Id,[]⟩ : Ent2_IntListUInt8)
  let is:=mhas (fun x1 => x.Id == x1.k) k.leaf
  (
  bif ! is then
   some true
  else
   let e1:=mget (fun x2 => x.Id == x2.k) k.noticed (⟨x.Id,0⟩ : Ent4_IntInt)
   bif decide (e1.v > 0) then
   some true
   else
   let e2:=mget (fun x3 => e.v == x3.k) k.over (⟨e.v,0⟩ : Ent0_ListUInt8Int)
   some (decide (e2.v ≤ 0))).bind fun q =>
  bif q then
  some t.1
  else
  let e3:=mget (fun x4 => e.v == x4.k) t.1 (⟨e.v,⟨0,0,0,⟨0,0⟩,0,0,false,0⟩⟩ : Ent1_ListUInt8Cont)
  let has:=mhas (fun x4 => e.v == x4.k) t.1
  (
   bif ! has then
   some true
   else
   bif e3.v.Master then
    bif ! x.Master then
    some true
    else
    bif e3.v.Master == x.Master then
     some (decide (x.Id > e3.v.Id))
    else
     some false
   else
    bif e3.v.Master == x.Master then
    some (decide (x.Id > e3.v.Id))
    else
    some false).bind fun q1 =>
  bif q1 then
   some (mput (fun x5 => e.v == x5.k) t.1 (⟨e.v,⟨x.Id,x.App,x.Node,⟨x.Size.Mem,x.Size.Cores⟩,x.Prio,x.Label,x.Master,x.Notice⟩⟩ : Ent1_ListUInt8Cont))
  else
   some t.1).bind fun best =>
 some (.inl (best,w64 (t.2 + 1)))
 else
 some (.inr t.1)
theorem nx (k : Looker) (t : List Ent1_ListUInt8Cont × Int) : Lo (fe k t) (gf k t):=by
 unfold fe gf
 repeat' (first | with_reducible refine ad ?_ ?_ ?_ ?_ ?_ | with_reducible refine ab ?_ ?_ ?_ ?_ | with_reducible refine ae ?_ ?_ ?_ | with_reducible refine ag ?_ ?_ | with_reducible refine ai ?_ ?_ | with_reducible refine aa ?_ _ | (intro _) | with_reducible exact aj _ | exact ah | (dsimp only))
def gL (k : Looker) : Option (Cont × Bool × Looker) :=
 (itr 4096 (fe k) ([],0)).bind fun best1 =>
 (rngc (ω:=Obj) (Obj.deferred none) (fun _ => some ([] : List UInt8)) (fb k) best1).bind fun found1 =>
 let e7:=mget (fun x11 => found1 == x11.k) best1 (⟨found1,⟨0,0,0,⟨0,0⟩,0,0,false,0⟩⟩ : Ent1_ListUInt8Cont)
 let is1:=mhas (fun x11 => found1 == x11.k) best1
 some (e7.v,is1,k)
theorem pR (k : Looker) : Lo (gL k) (fh k):=by
 unfold gL fh
 repeat' (first | with_reducible exact nx _ _ | with_reducible exact nr _ _ _ _ | with_reducible refine C9 ?_ (fun _ _ _ _ => rfl) (fun _ _ => rfl) _ | with_reducible refine ad ?_ ?_ ?_ ?_ ?_ | with_reducible refine ab ?_ ?_ ?_ ?_ | with_reducible refine ae ?_ ?_ ?_ | with_reducible refine ag ?_ ?_ | with_reducible refine ai ?_ ?_ | with_reducible refine aa ?_ _ | (intro _) | with_reducible exact aj _ | exact ah | (dsimp only))
def gn (need : Int × Looker) (t : Looker × List Int) : Option ((Looker × List Int) ⊕ List Int) :=
 bif decide (t.1.gone < need.1) then
 (gL t.1).bind fun x =>
 bif ! x.2.1 then
  some (.inr t.2)
 else
  (dX x.2.2 x.1).bind fun x1 =>
  (app 8 t.2 [x.1.Id]).bind fun l =>
  some (.inl (x1,l))
 else
 some (.inr t.2)
theorem mL (need : Int × Looker) (t : Looker × List Int) : Lo (gn need t) (dP need t):=by
 unfold gn dP
 repeat' (first | with_reducible exact pR _ | with_reducible exact iU _ _ | with_reducible refine ad ?_ ?_ ?_ ?_ ?_ | with_reducible refine ab ?_ ?_ ?_ ?_ | with_reducible refine ae ?_ ?_ ?_ | with_reducible refine ag ?_ ?_ | with_reducible refine ai ?_ ?_ | with_reducible refine aa ?_ _ | (intro _) | with_reducible exact aj _ | exact ah | (dsimp only))
def gH (s : State) (label : Int) : Option (List Int) :=
 (mc s label).bind fun k =>
 (gK k).bind fun need =>
 (itr 4096 (gn need) (need.2,[])).bind fun out =>
 some out
theorem oW (s : State) (label : Int) : Lo (gH s label) (bB s label):=by
 unfold gH bB
 repeat' (first | with_reducible exact uG _ _ | with_reducible exact pv _ | with_reducible exact mL _ _ | with_reducible refine ad ?_ ?_ ?_ ?_ ?_ | with_reducible refine ab ?_ ?_ ?_ ?_ | with_reducible refine ae ?_ ?_ ?_ | with_reducible refine ag ?_ ?_ | with_reducible refine ai ?_ ?_ | with_reducible refine aa ?_ _ | (intro _) | with_reducible exact aj _ | exact ah | (dsimp only))
def lP (s : List Cont) (f : (TupT fam [.st 7] → Option Bool)) (t : Int) : Option (Int ⊕ (Int ⊕ Unit)) :=
 bif decide (t < (s.length : Int)) then
 (idx s t).bind fun x =>
 (f (x,())).bind fun r =>
 bif r then
  some (.inr (.inl t))
 else
  some (.inl (w64 (t + 1)))
 else
 some (.inr (.inr ()))
theorem uK (s : List Cont) (f f_' : (TupT fam [.st 7] → Option Bool)) (h_f : ∀ a,Lo (f a) (f_' a)) (t : Int) : Lo (lP s f t) (om s f_' t):=by
 unfold lP om
 repeat' (first | exact h_f _ | with_reducible refine ad ?_ ?_ ?_ ?_ ?_ | with_reducible refine ab ?_ ?_ ?_ ?_ | with_reducible refine ae ?_ ?_ ?_ | with_reducible refine ag ?_ ?_ | with_reducible refine ai ?_ ?_ | with_reducible refine aa ?_ _ | (intro _) | with_reducible exact aj _ | exact ah | (dsimp only))
def iw (s : List Cont) (f : (TupT fam [.st 7] → Option Bool)) : Option Int :=
 (itr 4096 (lP s f) 0).bind fun q0 =>
 match q0 with
 | .inl q =>
 some q
 | .inr _ =>
 some (-1)
theorem nL (s : List Cont) (f f_' : (TupT fam [.st 7] → Option Bool)) (h_f : ∀ a,Lo (f a) (f_' a)) : Lo (iw s f) (iY s f_'):=by
 unfold iw iY
 repeat' (first | with_reducible refine uK _ _ _ ?_ _ | exact h_f _ | with_reducible refine ad ?_ ?_ ?_ ?_ ?_ | with_reducible refine ab ?_ ?_ ?_ ?_ | with_reducible refine ae ?_ ?_ ?_ | with_reducible refine ag ?_ ?_ | with_reducible refine ai ?_ ?_ | with_reducible refine aa ?_ _ | (intro _) | with_reducible exact aj _ | exact ah | (dsimp only))
def zw (s : List Cont) : Option (List Cont) :=
 bif s.isEmpty then
 none
 else
 (app 72 [] s).bind fun l =>
 some l
def iL (s : List Cont) : Option (List Cont):=app 72 [] s
theorem oK (s : List Cont) : Lo (iL s) (ij s):=by
 unfold iL ij
 repeat' (first | with_reducible refine ad ?_ ?_ ?_ ?_ ?_ | with_reducible refine ab ?_ ?_ ?_ ?_ | with_reducible refine ae ?_ ?_ ?_ | with_reducible refine ag ?_ ?_ | with_reducible refine ai ?_ ?_ | with_reducible refine aa ?_ _ | (intro _) | with_reducible exact aj _ | exact ah | (dsimp only))
def sQ (s : List (List UInt8)) : Option (List (List UInt8)) :=
 bif s.isEmpty then
 none
 else
 (app 16 [] s).bind fun l =>
 some l
def dv (s : List (List UInt8)) : Option (List (List UInt8)):=app 16 [] s
theorem kg (s : List (List UInt8)) : Lo (dv s) (bY s):=by
 unfold dv bY
 repeat' (first | with_reducible refine ad ?_ ?_ ?_ ?_ ?_ | with_reducible refine ab ?_ ?_ ?_ ?_ | with_reducible refine ae ?_ ?_ ?_ | with_reducible refine ag ?_ ?_ | with_reducible refine ai ?_ ?_ | with_reducible refine aa ?_ _ | (intro _) | with_reducible exact aj _ | exact ah | (dsimp only))
def zg (s : List Queue) : Option (List Queue) :=
 bif s.isEmpty then
 none
 else
 (app 48 [] s).bind fun l =>
 some l
def kj (s : List Queue) : Option (List Queue):=app 48 [] s
theorem sK (s : List Queue) : Lo (kj s) (jq s):=by
 unfold kj jq
 repeat' (first | with_reducible refine ad ?_ ?_ ?_ ?_ ?_ | with_reducible refine ab ?_ ?_ ?_ ?_ | with_reducible refine ae ?_ ?_ ?_ | with_reducible refine ag ?_ ?_ | with_reducible refine ai ?_ ?_ | with_reducible refine aa ?_ _ | (intro _) | with_reducible exact aj _ | exact ah | (dsimp only))
def B6 (s : List Node) : Option (List Node) :=
 bif s.isEmpty then
 none
 else
 (app 64 [] s).bind fun l =>
 some l
def pq (s : List Node) : Option (List Node):=app 64 [] s
theorem wJ (s : List Node) : Lo (pq s) (pi s):=by
 unfold pq pi
 repeat' (first | with_reducible refine ad ?_ ?_ ?_ ?_ ?_ | with_reducible refine ab ?_ ?_ ?_ ?_ | with_reducible refine ae ?_ ?_ ?_ | with_reducible refine ag ?_ ?_ | with_reducible refine ai ?_ ?_ | with_reducible refine aa ?_ _ | (intro _) | with_reducible exact aj _ | exact ah | (dsimp only))
def BP (s : List Slot) : Option (List Slot) :=
 bif s.isEmpty then
 none
 else
 (app 24 [] s).bind fun l =>
 some l
def pG (s : List Slot) : Option (List Slot):=app 24 [] s
theorem xo (s : List Slot) : Lo (pG s) (o_ s):=by
 unfold pG o_
 repeat' (first | with_reducible refine ad ?_ ?_ ?_ ?_ ?_ | with_reducible refine ab ?_ ?_ ?_ ?_ | with_reducible refine ae ?_ ?_ ?_ | with_reducible refine ag ?_ ?_ | with_reducible refine ai ?_ ?_ | with_reducible refine aa ?_ _ | (intro _) | with_reducible exact aj _ | exact ah | (dsimp only))
def Cs (s : List Plan) : Option (List Plan) :=
 bif s.isEmpty then
 none
 else
 (app 48 [] s).bind fun l =>
 some l
def pw (s : List Plan) : Option (List Plan):=app 48 [] s
theorem xr (s : List Plan) : Lo (pw s) (pc s):=by
 unfold pw pc
 repeat' (first | with_reducible refine ad ?_ ?_ ?_ ?_ ?_ | with_reducible refine ab ?_ ?_ ?_ ?_ | with_reducible refine ae ?_ ?_ ?_ | with_reducible refine ag ?_ ?_ | with_reducible refine ai ?_ ?_ | with_reducible refine aa ?_ _ | (intro _) | with_reducible exact aj _ | exact ah | (dsimp only))
def Ah (s : List App) : Option (List App) :=
 bif s.isEmpty then
 none
 else
 (app 200 [] s).bind fun l =>
 some l
def lZ (s : List App) : Option (List App):=app 200 [] s
theorem tZ (s : List App) : Lo (lZ s) (kW s):=by
 unfold lZ kW
 repeat' (first | with_reducible refine ad ?_ ?_ ?_ ?_ ?_ | with_reducible refine ab ?_ ?_ ?_ ?_ | with_reducible refine ae ?_ ?_ ?_ | with_reducible refine ag ?_ ?_ | with_reducible refine ai ?_ ?_ | with_reducible refine aa ?_ _ | (intro _) | with_reducible exact aj _ | exact ah | (dsimp only))
def mV (x9 : List App) (t1 : List App × Int) : Option ((List App × Int) ⊕ List App) :=
 bif decide (t1.2 < (x9.length : Int)) then
 (inb t1.2 t1.1.length).bind fun i2 =>
 (t1.1[i2]?).bind fun x10 =>
 (nf x10).bind fun x11 =>
 (inb t1.2 t1.1.length).bind fun i3 =>
 (t1.1[i3]?).bind fun x12 =>
 some (.inl (List.set t1.1 i3 x11,w64 (t1.2 + 1)))
 else
 some (.inr t1.1)
theorem vh (x9 : List App) (t1 : List App × Int) : Lo (mV x9 t1) (pn x9 t1):=by
 unfold mV pn
 repeat' (first | with_reducible exact th _ | with_reducible refine ad ?_ ?_ ?_ ?_ ?_ | with_reducible refine ab ?_ ?_ ?_ ?_ | with_reducible refine ae ?_ ?_ ?_ | with_reducible refine ag ?_ ?_ | with_reducible refine ai ?_ ?_ | with_reducible refine aa ?_ _ | (intro _) | with_reducible exact aj _ | exact ah | (dsimp only))
def mT (x1 : List Queue) (t : List Queue × Int) : Option ((List Queue × Int) ⊕ List Queue) :=
 bif decide (t.2 < (x1.length : Int)) then
 (inb t.2 t.1.length).bind fun i =>
 (t.1[i]?).bind fun x2 =>
 (nk x2.Caps).bind fun x3 =>
 (inb t.2 t.1.length).bind fun i1 =>
 (t.1[i1]?).bind fun x4 =>
 some (.inl (List.set t.1 i1 (⟨x4.Path,x3,x4.User⟩ : Queue),w64 (t.2 + 1)))
 else
 some (.inr t.1)
theorem vd (x1 : List Queue) (t : List Queue × Int) : Lo (mT x1 t) (pL x1 t):=by
 unfold mT pL
 repeat' (first | with_reducible exact tf _ | with_reducible refine ad ?_ ?_ ?_ ?_ ?_ | with_reducible refine ab ?_ ?_ ?_ ?_ | with_reducible refine ae ?_ ?_ ?_ | with_reducible refine ag ?_ ?_ | with_reducible refine ai ?_ ?_ | with_reducible refine aa ?_ _ | (intro _) | with_reducible exact aj _ | exact ah | (dsimp only))
def nj (s : State) : Option State :=
 (dv s.Conf.Labels).bind fun x =>
 (kj s.Conf.Queues).bind fun x1 =>
 (itr 4096 (mT x1) (x1,0)).bind fun q =>
 (pq s.Nodes).bind fun x5 =>
 (iL s.Conts).bind fun x6 =>
 (pG s.Slots).bind fun x7 =>
 (pw s.Plans).bind fun x8 =>
 (lZ s.Apps).bind fun x9 =>
 (itr 4096 (mV x9) (x9,0)).bind fun q1 =>
 some (⟨⟨x,q⟩,x5,q1,x6,x7,x8,s.Now,s.Epoch,s.Seq⟩ : State)
theorem xG (s : State) : Lo (nj s) (ot s):=by
 unfold nj ot
 repeat' (first | with_reducible exact kg _ | with_reducible exact sK _ | with_reducible exact vd _ _ | with_reducible exact wJ _ | with_reducible exact oK _ | with_reducible exact xo _ | with_reducible exact xr _ | with_reducible exact tZ _ | with_reducible exact vh _ _ | with_reducible refine ad ?_ ?_ ?_ ?_ ?_ | with_reducible refine ab ?_ ?_ ?_ ?_ | with_reducible refine ae ?_ ?_ ?_ | with_reducible refine ag ?_ ?_ | with_reducible refine ai ?_ ?_ | with_reducible refine aa ?_ _ | (intro _) | with_reducible exact aj _ | exact ah | (dsimp only))
def mN (c : Cont) (p : Int) : Option Bool :=
 some (c.Id == p)
theorem uM (c : Cont) (p : Int) : Lo (mN c p) (ms c p):=by
 unfold mN ms
 repeat' (first | with_reducible refine ad ?_ ?_ ?_ ?_ ?_ | with_reducible refine ab ?_ ?_ ?_ ?_ | with_reducible refine ae ?_ ?_ ?_ | with_reducible refine ag ?_ ?_ | with_reducible refine ai ?_ ?_ | with_reducible refine aa ?_ _ | (intro _) | with_reducible exact aj _ | exact ah | (dsimp only))
def jJ (s : List Ask) (f : (TupT fam [.st 5] → Option Bool)) (t : Int) : Option (Int ⊕ (Int ⊕ Unit)) :=
 bif decide (t < (s.length : Int)) then
 (idx s t).bind fun x =>
 (f (x,())).bind fun r =>
 bif r then
  some (.inr (.inl t))
 else
  some (.inl (w64 (t + 1)))
 else
 some (.inr (.inr ()))
theorem rQ (s : List Ask) (f f_' : (TupT fam [.st 5] → Option Bool)) (h_f : ∀ a,Lo (f a) (f_' a)) (t : Int) : Lo (jJ s f t) (kK s f_' t):=by
 unfold jJ kK
 repeat' (first | exact h_f _ | with_reducible refine ad ?_ ?_ ?_ ?_ ?_ | with_reducible refine ab ?_ ?_ ?_ ?_ | with_reducible refine ae ?_ ?_ ?_ | with_reducible refine ag ?_ ?_ | with_reducible refine ai ?_ ?_ | with_reducible refine aa ?_ _ | (intro _) | with_reducible exact aj _ | exact ah | (dsimp only))
def lX (s : List Ask) (f : (TupT fam [.st 5] → Option Bool)) : Option Int :=
 (itr 4096 (jJ s f) 0).bind fun q0 =>
 match q0 with
 | .inl q =>
 some q
 | .inr _ =>
 some (-1)
theorem uI (s : List Ask) (f f_' : (TupT fam [.st 5] → Option Bool)) (h_f : ∀ a,Lo (f a) (f_' a)) : Lo (lX s f) (kN s f_'):=by
 unfold lX kN
 repeat' (first | with_reducible refine rQ _ _ _ ?_ _ | exact h_f _ | with_reducible refine ad ?_ ?_ ?_ ?_ ?_ | with_reducible refine ab ?_ ?_ ?_ ?_ | with_reducible refine ae ?_ ?_ ?_ | with_reducible refine ag ?_ ?_ | with_reducible refine ai ?_ ?_ | with_reducible refine aa ?_ _ | (intro _) | with_reducible exact aj _ | exact ah | (dsimp only))
def jB (del : (TupT fam [.st 5] → Option Bool)) (t : List Ask × Int × Int) : Option ((List Ask × Int × Int) ⊕ ((List Ask × Int))) :=
 bif decide (t.2.2 < (t.1.length : Int)) then
 (
  (inb t.2.2 t.1.length).bind fun i1 =>
  (t.1[i1]?).bind fun x =>
  (del (x,())).bind fun r =>
  bif ! r then
  (inb t.2.1 t.1.length).bind fun i2 =>
  (t.1[i2]?).bind fun x1 =>
  some (List.set t.1 i2 x,w64 (t.2.1 + 1))
  else
  some (t.1,t.2.1)).bind fun q =>
 some (.inl (q.1,q.2,w64 (t.2.2 + 1)))
 else
 some (.inr (t.1,t.2.1))
theorem sg (del del_' : (TupT fam [.st 5] → Option Bool)) (h_del : ∀ a,Lo (del a) (del_' a)) (t : List Ask × Int × Int) : Lo (jB del t) (lj del_' t):=by
 unfold jB lj
 repeat' (first | exact h_del _ | with_reducible refine ad ?_ ?_ ?_ ?_ ?_ | with_reducible refine ab ?_ ?_ ?_ ?_ | with_reducible refine ae ?_ ?_ ?_ | with_reducible refine ag ?_ ?_ | with_reducible refine ai ?_ ?_ | with_reducible refine aa ?_ _ | (intro _) | with_reducible exact aj _ | exact ah | (dsimp only))
def lL (s : List Ask) (del : (TupT fam [.st 5] → Option Bool)) : Option (List Ask) :=
 (lX s del).bind fun i =>
 bif i == (-1) then
 some s
 else
 (itr 4096 (jB del) (s,i,w64 (i + 1))).bind fun q1 =>
 (inS q1.2 (q1.1.length : Int) q1.1.length).bind fun p =>
 none
theorem uz (s : List Ask) (del del_' : (TupT fam [.st 5] → Option Bool)) (h_del : ∀ a,Lo (del a) (del_' a)) : Lo (lL s del) (kZ s del_'):=by
 unfold lL kZ
 repeat' (first | with_reducible refine uI _ _ _ ?_ | with_reducible refine sg _ _ ?_ _ | exact h_del _ | with_reducible refine ad ?_ ?_ ?_ ?_ ?_ | with_reducible refine ab ?_ ?_ ?_ ?_ | with_reducible refine ae ?_ ?_ ?_ | with_reducible refine ag ?_ ?_ | with_reducible refine ai ?_ ?_ | with_reducible refine aa ?_ _ | (intro _) | with_reducible exact aj _ | exact ah | (dsimp only))
def qC (l : List Ask) : Option (List Ask) :=
 (mkl 64 (l.length : Int) (l.length : Int) (⟨0,0,⟨0,0⟩,0,0,0,0⟩ : Ask)).bind fun l1 =>
 some (cpy l1 0 l1.length l)
theorem xI (l : List Ask) : Lo (qC l) (qQ l):=by
 unfold qC qQ
 repeat' (first | with_reducible refine ad ?_ ?_ ?_ ?_ ?_ | with_reducible refine ab ?_ ?_ ?_ ?_ | with_reducible refine ae ?_ ?_ ?_ | with_reducible refine ag ?_ ?_ | with_reducible refine ai ?_ ?_ | with_reducible refine aa ?_ _ | (intro _) | with_reducible exact aj _ | exact ah | (dsimp only))
def nP (x : Ask) (p : Ask) : Option Bool :=
 some (x.Prio == p.Prio)
theorem vZ (x : Ask) (p : Ask) : Lo (nP x p) (m_ x p):=by
 unfold nP m_
 repeat' (first | with_reducible refine ad ?_ ?_ ?_ ?_ ?_ | with_reducible refine ab ?_ ?_ ?_ ?_ | with_reducible refine ae ?_ ?_ ?_ | with_reducible refine ag ?_ ?_ | with_reducible refine ai ?_ ?_ | with_reducible refine aa ?_ _ | (intro _) | with_reducible exact aj _ | exact ah | (dsimp only))
def sM (t : List Ask × Int × Int) : Option ((List Ask × Int × Int) ⊕ List Ask) :=
 bif decide (t.2.1 < t.2.2) then
 (inb t.2.2 t.1.length).bind fun i =>
 (t.1[i]?).bind fun x =>
 (inb t.2.1 t.1.length).bind fun i1 =>
 (t.1[i1]?).bind fun x1 =>
 (inb t.2.1 t.1.length).bind fun i2 =>
 (t.1[i2]?).bind fun x2 =>
 (inb t.2.2 (List.set t.1 i2 x).length).bind fun i3 =>
 ((List.set t.1 i2 x)[i3]?).bind fun x3 =>
 some (.inl (List.set (List.set t.1 i2 x) i3 x1,w64 (t.2.1 + 1),w64 (t.2.2 - 1)))
 else
 some (.inr t.1)
def BI (s : List Ask) : Option (List Ask) :=
 let j:=w64 ((s.length : Int) - 1)
 (itr 4096 sM (s,0,j)).bind fun s1 =>
 some s1
def vl (s : List Ask) (r : Int) : Option Unit :=
 (slc s 0 r).bind fun l =>
 none
def CN (s : List Ask) (r : Int) : Option Unit :=
 (vl s (w64 ((s.length : Int) - r))).bind fun _ =>
 some ()
def lW (s : List Ask) (i : Int) (v : List Ask) : Option (List Ask) :=
 (inS i (s.length : Int) s.length).bind fun p =>
 bif (v.length : Int) == 0 then
 some s
 else
 bif i == (s.length : Int) then
  (app 64 s v).bind fun l =>
  some l
 else
  none
theorem tT (s : List Ask) (i : Int) (v : List Ask) : Lo (lW s i v) (k_ s i v):=by
 unfold lW k_
 repeat' (first | with_reducible refine ad ?_ ?_ ?_ ?_ ?_ | with_reducible refine ab ?_ ?_ ?_ ?_ | with_reducible refine ae ?_ ?_ ?_ | with_reducible refine ag ?_ ?_ | with_reducible refine ai ?_ ?_ | with_reducible refine aa ?_ _ | (intro _) | with_reducible exact aj _ | exact ah | (dsimp only))
def mP (a : Ask) (out : List Ask) (k : Int) : Option (Int ⊕ Int) :=
 (
 bif decide (k < (out.length : Int)) then
  (inb k out.length).bind fun i =>
  (out[i]?).bind fun x1 =>
  some (decide (x1.Prio < a.Prio))
 else
  some false).bind fun q =>
 bif q then
 some (.inl (w64 (k + 1)))
 else
 some (.inr k)
theorem va (a : Ask) (out : List Ask) (k : Int) : Lo (mP a out k) (pP a out k):=by
 unfold mP pP
 repeat' (first | with_reducible refine ad ?_ ?_ ?_ ?_ ?_ | with_reducible refine ab ?_ ?_ ?_ ?_ | with_reducible refine ae ?_ ?_ ?_ | with_reducible refine ag ?_ ?_ | with_reducible refine ai ?_ ?_ | with_reducible refine aa ?_ _ | (intro _) | with_reducible exact aj _ | exact ah | (dsimp only))
def qL (l : List Ask) (a : Ask) : Option (List Ask × Int) :=
 (qC l).bind fun x =>
 (lL x (fun a' => nP a'.1 a)).bind fun out =>
 bif a.Count == 0 then
 some (out,0)
 else
 bif decide ((out.length : Int) ≥ 8) then
  some ([],4)
 else
  (itr 4096 (mP a out) 0).bind fun k1 =>
  (lW out k1 [(⟨a.Prio,a.Label,⟨a.Size.Mem,a.Size.Cores⟩,a.Count,a.Node,a.Rack,0⟩ : Ask)]).bind fun x2 =>
  some (x2,0)
theorem xQ (l : List Ask) (a : Ask) : Lo (qL l a) (qR l a):=by
 unfold qL qR
 repeat' (first | with_reducible exact xI _ | with_reducible refine uz _ _ _ ?_ | with_reducible exact vZ _ _ | with_reducible exact va _ _ _ | with_reducible exact tT _ _ _ | with_reducible refine ad ?_ ?_ ?_ ?_ ?_ | with_reducible refine ab ?_ ?_ ?_ ?_ | with_reducible refine ae ?_ ?_ ?_ | with_reducible refine ag ?_ ?_ | with_reducible refine ai ?_ ?_ | with_reducible refine aa ?_ _ | (intro _) | with_reducible exact aj _ | exact ah | (dsimp only))
def oy (a : App) : Option (List Ask) :=
 (qL [] (⟨0,0,⟨a.Master.Mem,a.Master.Cores⟩,1,(-1),(-1),0⟩ : Ask)).bind fun x =>
 some x.1
theorem wg (a : App) : Lo (oy a) (ng a):=by
 unfold oy ng
 repeat' (first | with_reducible exact xQ _ _ | with_reducible refine ad ?_ ?_ ?_ ?_ ?_ | with_reducible refine ab ?_ ?_ ?_ ?_ | with_reducible refine ae ?_ ?_ ?_ | with_reducible refine ag ?_ ?_ | with_reducible refine ai ?_ ?_ | with_reducible refine aa ?_ _ | (intro _) | with_reducible exact aj _ | exact ah | (dsimp only))
def rH (del : (TupT fam [.st 7] → Option Bool)) (t : List Cont × Int × Int) : Option ((List Cont × Int × Int) ⊕ ((List Cont × Int))) :=
 bif decide (t.2.2 < (t.1.length : Int)) then
 (
  (inb t.2.2 t.1.length).bind fun i1 =>
  (t.1[i1]?).bind fun x =>
  (del (x,())).bind fun r =>
  bif ! r then
  (inb t.2.1 t.1.length).bind fun i2 =>
  (t.1[i2]?).bind fun x1 =>
  some (List.set t.1 i2 x,w64 (t.2.1 + 1))
  else
  some (t.1,t.2.1)).bind fun q =>
 some (.inl (q.1,q.2,w64 (t.2.2 + 1)))
 else
 some (.inr (t.1,t.2.1))
def Bw (s : List Cont) (del : (TupT fam [.st 7] → Option Bool)) : Option (List Cont) :=
 (iw s del).bind fun i =>
 bif i == (-1) then
 some s
 else
 (itr 4096 (rH del) (s,i,w64 (i + 1))).bind fun q1 =>
 (inS q1.2 (q1.1.length : Int) q1.1.length).bind fun p =>
 none
def Ch (c : Cont) (p : Int) (p1 : List Int) : Option (Bool × List Int) :=
 (
 bif c.App == p then
  (app 8 p1 [c.Id]).bind fun l =>
  some l
 else
  some p1).bind fun q =>
 some (c.App == p,q)
def sk (s : List Slot) (f : (TupT fam [.st 8] → Option Bool)) (t : Int) : Option (Int ⊕ (Int ⊕ Unit)) :=
 bif decide (t < (s.length : Int)) then
 (idx s t).bind fun x =>
 (f (x,())).bind fun r =>
 bif r then
  some (.inr (.inl t))
 else
  some (.inl (w64 (t + 1)))
 else
 some (.inr (.inr ()))
def uq (s : List Slot) (f : (TupT fam [.st 8] → Option Bool)) : Option Int :=
 (itr 4096 (sk s f) 0).bind fun q0 =>
 match q0 with
 | .inl q =>
 some q
 | .inr _ =>
 some (-1)
def r9 (del : (TupT fam [.st 8] → Option Bool)) (t : List Slot × Int × Int) : Option ((List Slot × Int × Int) ⊕ ((List Slot × Int))) :=
 bif decide (t.2.2 < (t.1.length : Int)) then
 (
  (inb t.2.2 t.1.length).bind fun i1 =>
  (t.1[i1]?).bind fun x =>
  (del (x,())).bind fun r =>
  bif ! r then
  (inb t.2.1 t.1.length).bind fun i2 =>
  (t.1[i2]?).bind fun x1 =>
  some (List.set t.1 i2 x,w64 (t.2.1 + 1))
  else
  some (t.1,t.2.1)).bind fun q =>
 some (.inl (q.1,q.2,w64 (t.2.2 + 1)))
 else
 some (.inr (t.1,t.2.1))
def BB (s : List Slot) (del : (TupT fam [.st 8] → Option Bool)) : Option (List Slot) :=
 (uq s del).bind fun i =>
 bif i == (-1) then
 some s
 else
 (itr 4096 (r9 del) (s,i,w64 (i + 1))).bind fun q1 =>
 (inS q1.2 (q1.1.length : Int) q1.1.length).bind fun p =>
 none
def Ck (x : Slot) (p : Int) : Option Bool :=
 some (x.App == p)
def oj (s : State) (id_ : Int) : Option (State × List Int) :=
 none
theorem wc (s : State) (id_ : Int) : Lo (oj s id_) (nq s id_):=by
 unfold oj nq
 repeat' (first | with_reducible refine ad ?_ ?_ ?_ ?_ ?_ | with_reducible refine ab ?_ ?_ ?_ ?_ | with_reducible refine ae ?_ ?_ ?_ | with_reducible refine ag ?_ ?_ | with_reducible refine ai ?_ ?_ | with_reducible refine aa ?_ _ | (intro _) | with_reducible exact aj _ | exact ah | (dsimp only))
def mY (s : State) (i : Int) : Option State :=
 (inb i s.Apps.length).bind fun i1 =>
 (s.Apps[i1]?).bind fun x =>
 (oy x).bind fun x1 =>
 (inb i s.Apps.length).bind fun i2 =>
 (s.Apps[i2]?).bind fun x2 =>
 (oj (⟨⟨s.Conf.Labels,s.Conf.Queues⟩,s.Nodes,List.set s.Apps i2 (⟨x.Id,1,x.Queue,x.User,x.Prio,⟨x.Master.Mem,x.Master.Cores⟩,x1,s.Now,0,[],[],[],[]⟩ : App),s.Conts,s.Slots,s.Plans,s.Now,s.Epoch,s.Seq⟩ : State) x.Id).bind fun x3 =>
 some x3.1
theorem u3 (s : State) (i : Int) : Lo (mY s i) (mf s i):=by
 unfold mY mf
 repeat' (first | with_reducible exact wg _ | with_reducible exact wc _ _ | with_reducible refine ad ?_ ?_ ?_ ?_ ?_ | with_reducible refine ab ?_ ?_ ?_ ?_ | with_reducible refine ae ?_ ?_ ?_ | with_reducible refine ag ?_ ?_ | with_reducible refine ai ?_ ?_ | with_reducible refine aa ?_ _ | (intro _) | with_reducible exact aj _ | exact ah | (dsimp only))
def lr (s : List Cont) (i : Int) (j : Int) : Option (List Cont):=del s i j
theorem tw (s : List Cont) (i : Int) (j : Int) : Lo (lr s i j) (kc s i j):=by
 unfold lr kc
 repeat' (first | with_reducible refine ad ?_ ?_ ?_ ?_ ?_ | with_reducible refine ab ?_ ?_ ?_ ?_ | with_reducible refine ae ?_ ?_ ?_ | with_reducible refine ag ?_ ?_ | with_reducible refine ai ?_ ?_ | with_reducible refine aa ?_ _ | (intro _) | with_reducible exact aj _ | exact ah | (dsimp only))
def d5 (s : List Int) (v : Int) (t : Int) : Option (Int ⊕ (Int ⊕ Unit)) :=
 bif decide (t < (s.length : Int)) then
 (idx s t).bind fun x =>
 bif v == x then
  some (.inr (.inl t))
 else
  some (.inl (w64 (t + 1)))
 else
 some (.inr (.inr ()))
theorem lG (s : List Int) (v : Int) (t : Int) : Lo (d5 s v t) (eH s v t):=by
 unfold d5 eH
 repeat' (first | with_reducible refine ad ?_ ?_ ?_ ?_ ?_ | with_reducible refine ab ?_ ?_ ?_ ?_ | with_reducible refine ae ?_ ?_ ?_ | with_reducible refine ag ?_ ?_ | with_reducible refine ai ?_ ?_ | with_reducible refine aa ?_ _ | (intro _) | with_reducible exact aj _ | exact ah | (dsimp only))
def eP (s : List Int) (v : Int) : Option Int :=
 (itr 4096 (d5 s v) 0).bind fun q0 =>
 match q0 with
 | .inl q =>
 some q
 | .inr _ =>
 some (-1)
theorem m6 (s : List Int) (v : Int) : Lo (eP s v) (dW s v):=by
 unfold eP dW
 repeat' (first | with_reducible exact lG _ _ _ | with_reducible refine ad ?_ ?_ ?_ ?_ ?_ | with_reducible refine ab ?_ ?_ ?_ ?_ | with_reducible refine ae ?_ ?_ ?_ | with_reducible refine ag ?_ ?_ | with_reducible refine ai ?_ ?_ | with_reducible refine aa ?_ _ | (intro _) | with_reducible exact aj _ | exact ah | (dsimp only))
def eI (s : List Int) (i : Int) (j : Int) : Option (List Int) :=
 none
theorem mv (s : List Int) (i : Int) (j : Int) : Lo (eI s i j) (dC s i j):=by
 unfold eI dC
 repeat' (first | with_reducible refine ad ?_ ?_ ?_ ?_ ?_ | with_reducible refine ab ?_ ?_ ?_ ?_ | with_reducible refine ae ?_ ?_ ?_ | with_reducible refine ag ?_ ?_ | with_reducible refine ai ?_ ?_ | with_reducible refine aa ?_ _ | (intro _) | with_reducible exact aj _ | exact ah | (dsimp only))
def lU (ids : List Int) (t : State × Int) : Option ((State × Int) ⊕ State) :=
 bif decide (t.2 < (ids.length : Int)) then
 (
  (idx ids t.2).bind fun x1 =>
  (iw t.1.Conts (fun a' => mN a'.1 x1)).bind fun k =>
  bif decide (k < 0) then
  some t.1
  else
  (inb k t.1.Conts.length).bind fun i =>
  (t.1.Conts[i]?).bind fun x2 =>
  (oU t.1 x2.App).bind fun i1 =>
  (
   bif decide (i1 ≥ 0) then
   some x2.Master
   else
   some false).bind fun q =>
  bif q then
   (mY t.1 i1).bind fun x3 =>
   some x3
  else
   (lr t.1.Conts k (w64 (k + 1))).bind fun x4 =>
   bif decide (i1 < 0) then
   some (⟨⟨t.1.Conf.Labels,t.1.Conf.Queues⟩,t.1.Nodes,t.1.Apps,x4,t.1.Slots,t.1.Plans,t.1.Now,t.1.Epoch,t.1.Seq⟩ : State)
   else
   (inb i1 t.1.Apps.length).bind fun i2 =>
   (t.1.Apps[i2]?).bind fun x5 =>
   (eP x5.Grants x1).bind fun j =>
   bif decide (j ≥ 0) then
    (eI x5.Grants j (w64 (j + 1))).bind fun x6 =>
    (inb i1 t.1.Apps.length).bind fun i3 =>
    (t.1.Apps[i3]?).bind fun x7 =>
    some (⟨⟨t.1.Conf.Labels,t.1.Conf.Queues⟩,t.1.Nodes,List.set t.1.Apps i3 (⟨x5.Id,x5.State,x5.Queue,x5.User,x5.Prio,⟨x5.Master.Mem,x5.Master.Cores⟩,x5.Asks,x5.Seen,x5.Beat,x6,x5.Kills,x5.Told,x5.Lost⟩ : App),x4,t.1.Slots,t.1.Plans,t.1.Now,t.1.Epoch,t.1.Seq⟩ : State)
   else
    none).bind fun s1 =>
 some (.inl (s1,w64 (t.2 + 1)))
 else
 some (.inr t.1)
theorem ua (ids : List Int) (t : State × Int) : Lo (lU ids t) (nI ids t):=by
 unfold lU nI
 repeat' (first | with_reducible refine nL _ _ _ ?_ | with_reducible exact uM _ _ | with_reducible exact ux _ _ | with_reducible exact u3 _ _ | with_reducible exact tw _ _ _ | with_reducible exact m6 _ _ | with_reducible exact mv _ _ _ | with_reducible refine ad ?_ ?_ ?_ ?_ ?_ | with_reducible refine ab ?_ ?_ ?_ ?_ | with_reducible refine ae ?_ ?_ ?_ | with_reducible refine ag ?_ ?_ | with_reducible refine ai ?_ ?_ | with_reducible refine aa ?_ _ | (intro _) | with_reducible exact aj _ | exact ah | (dsimp only))
def pF (s : State) (ids : List Int) : Option State :=
 (nj s).bind fun x =>
 (itr 4096 (lU ids) (x,0)).bind fun s2 =>
 (nj s2).bind fun x8 =>
 some x8
theorem xa (s : State) (ids : List Int) : Lo (pF s ids) (o9 s ids):=by
 unfold pF o9
 repeat' (first | with_reducible exact xG _ | with_reducible exact ua _ _ | with_reducible refine ad ?_ ?_ ?_ ?_ ?_ | with_reducible refine ab ?_ ?_ ?_ ?_ | with_reducible refine ae ?_ ?_ ?_ | with_reducible refine ag ?_ ?_ | with_reducible refine ai ?_ ?_ | with_reducible refine aa ?_ _ | (intro _) | with_reducible exact aj _ | exact ah | (dsimp only))
def tH (yield : (TupT fam [.int .i64,.st 7] → Option Bool)) (p : List Cont) (i1 : Int) : Option (Int ⊕ (Unit ⊕ Unit)) :=
 bif decide (i1 ≥ 0) then
 (idx p i1).bind fun x =>
 (yield (i1,x,())).bind fun r =>
 bif ! r then
  some (.inr (.inl ()))
 else
  some (.inl (w64 (i1 - 1)))
 else
 some (.inr (.inr ()))
def CP (yield : (TupT fam [.int .i64,.st 7] → Option Bool)) (p : List Cont) : Option Unit :=
 let i:=w64 ((p.length : Int) - 1)
 (itr 4096 (tH yield p) i).bind fun q0 =>
 match q0 with
 | .inl _ =>
 some ()
 | .inr _ =>
 some ()
def Bh (x : Cont) (p : Cont) : Option Bool :=
 some (x.Id == p.Id)
def BD (c : Cont) (label : Int) (now : Int) : Option Bool :=
 bif c.Label == label then
 bif c.Notice != 0 then
  some (decide ((w64 (now - c.Notice)) ≥ 3))
 else
  some false
 else
 some false
def sJ (s : List Share) (f : (TupT fam [.st 13] → Option Bool)) (t : Int) : Option (Int ⊕ (Int ⊕ Unit)) :=
 bif decide (t < (s.length : Int)) then
 (idx s t).bind fun x =>
 (f (x,())).bind fun r =>
 bif r then
  some (.inr (.inl t))
 else
  some (.inl (w64 (t + 1)))
 else
 some (.inr (.inr ()))
def u1 (s : List Share) (f : (TupT fam [.st 13] → Option Bool)) : Option Int :=
 (itr 4096 (sJ s f) 0).bind fun q0 =>
 match q0 with
 | .inl q =>
 some q
 | .inr _ =>
 some (-1)
def sL (x : Share) (p : App) : Option Bool :=
 some (x.Path == p.Queue)
def sa (s : State) (c : Cont) (t : Int × Int) : Option ((Int × Int) ⊕ Int) :=
 bif decide (t.2 < (s.Conts.length : Int)) then
 (
  (idx s.Conts t.2).bind fun x2 =>
  (
  bif c.Master then
   bif x2.App == c.App then
   bif x2.Id != c.Id then
    some (x2.Label == c.Label)
   else
    some false
   else
   some false
  else
   some false).bind fun q =>
  bif q then
  let used:=w64 (t.1 - x2.Size.Mem)
  some used
  else
  some t.1).bind fun used1 =>
 some (.inl (used1,w64 (t.2 + 1)))
 else
 some (.inr t.1)
def Bv (s : State) (c : Cont) : Option Bool :=
 (ml s c.App).bind fun x =>
 (fa s x.1.Queue c.Label).bind fun x1 =>
 (itr 4096 (sa s c) (x1.Mem,0)).bind fun used2 =>
 (gQ s c.Label).bind fun l =>
 (u1 l (fun a' => sL a'.1 x.1)).bind fun i =>
 bif decide (i ≥ 0) then
 (inb i l.length).bind fun i1 =>
 (l[i1]?).bind fun x3 =>
 some (decide (used2 > x3.Mem))
 else
 some false
def me (s : State) (label : Int) : Option State :=
 (iL s.Conts).bind fun x =>
 bif x.isEmpty then
 some s
 else
 none
theorem uE (s : State) (label : Int) : Lo (me s label) (lh s label):=by
 unfold me lh
 repeat' (first | with_reducible exact oK _ | with_reducible refine ad ?_ ?_ ?_ ?_ ?_ | with_reducible refine ab ?_ ?_ ?_ ?_ | with_reducible refine ae ?_ ?_ ?_ | with_reducible refine ag ?_ ?_ | with_reducible refine ai ?_ ?_ | with_reducible refine aa ?_ _ | (intro _) | with_reducible exact aj _ | exact ah | (dsimp only))
def jO (x : Cont) (p : Int) : Option Bool :=
 some (x.Id == p)
theorem sn (x : Cont) (p : Int) : Lo (jO x p) (iM x p):=by
 unfold jO iM
 repeat' (first | with_reducible refine ad ?_ ?_ ?_ ?_ ?_ | with_reducible refine ab ?_ ?_ ?_ ?_ | with_reducible refine ae ?_ ?_ ?_ | with_reducible refine ag ?_ ?_ | with_reducible refine ai ?_ ?_ | with_reducible refine aa ?_ _ | (intro _) | with_reducible exact aj _ | exact ah | (dsimp only))
def lT (s : List Cont) (f : (TupT fam [.st 7] → Option Bool)) : Option Bool :=
 (iw s f).bind fun x =>
 some (decide (x ≥ 0))
theorem uj (s : List Cont) (f f_' : (TupT fam [.st 7] → Option Bool)) (h_f : ∀ a,Lo (f a) (f_' a)) : Lo (lT s f) (kH s f_'):=by
 unfold lT kH
 repeat' (first | with_reducible refine nL _ _ _ ?_ | exact h_f _ | with_reducible refine ad ?_ ?_ ?_ ?_ ?_ | with_reducible refine ab ?_ ?_ ?_ ?_ | with_reducible refine ae ?_ ?_ ?_ | with_reducible refine ag ?_ ?_ | with_reducible refine ai ?_ ?_ | with_reducible refine aa ?_ _ | (intro _) | with_reducible exact aj _ | exact ah | (dsimp only))
def jI (x : Cont) (p : Cont) : Option Bool :=
 some (x.Id == p.Id)
theorem rC (x : Cont) (p : Cont) : Lo (jI x p) (iP x p):=by
 unfold jI iP
 repeat' (first | with_reducible refine ad ?_ ?_ ?_ ?_ ?_ | with_reducible refine ab ?_ ?_ ?_ ?_ | with_reducible refine ae ?_ ?_ ?_ | with_reducible refine ag ?_ ?_ | with_reducible refine ai ?_ ?_ | with_reducible refine aa ?_ _ | (intro _) | with_reducible exact aj _ | exact ah | (dsimp only))
def aH (x : Int) (y : Int) : Option Bool :=
 (ef x).bind fun x1 =>
 bif x1 then
 (ef y).bind fun x2 =>
 bif ! x2 then
  some true
 else
  some (decide (x < y))
 else
 some (decide (x < y))
theorem aK (x : Int) (y : Int) : Lo (aH x y) (aI x y):=by
 unfold aH aI
 repeat' (first | with_reducible exact m8 _ | with_reducible refine ad ?_ ?_ ?_ ?_ ?_ | with_reducible refine ab ?_ ?_ ?_ ?_ | with_reducible refine ae ?_ ?_ ?_ | with_reducible refine ag ?_ ?_ | with_reducible refine ai ?_ ?_ | with_reducible refine aa ?_ _ | (intro _) | with_reducible exact aj _ | exact ah | (dsimp only))
def bU (a : Int) (t1 : List Int × Int) : Option ((List Int × Int) ⊕ List Int) :=
 (
 bif decide (t1.2 > a) then
  (inb t1.2 t1.1.length).bind fun i =>
  (t1.1[i]?).bind fun x =>
  (inb (w64 (t1.2 - 1)) t1.1.length).bind fun i1 =>
  (t1.1[i1]?).bind fun x1 =>
  (aH x x1).bind fun x2 =>
  some x2
 else
  some false).bind fun q =>
 bif q then
 (inb (w64 (t1.2 - 1)) t1.1.length).bind fun i2 =>
 (t1.1[i2]?).bind fun x3 =>
 (inb t1.2 t1.1.length).bind fun i3 =>
 (t1.1[i3]?).bind fun x4 =>
 (inb t1.2 t1.1.length).bind fun i4 =>
 (t1.1[i4]?).bind fun x5 =>
 (inb (w64 (t1.2 - 1)) (List.set t1.1 i4 x3).length).bind fun i5 =>
 ((List.set t1.1 i4 x3)[i5]?).bind fun x6 =>
 some (.inl (List.set (List.set t1.1 i4 x3) i5 x4,w64 (t1.2 - 1)))
 else
 some (.inr t1.1)
theorem iI (a : Int) (t1 : List Int × Int) : Lo (bU a t1) (ck a t1):=by
 unfold bU ck
 repeat' (first | with_reducible exact aK _ _ | with_reducible refine ad ?_ ?_ ?_ ?_ ?_ | with_reducible refine ab ?_ ?_ ?_ ?_ | with_reducible refine ae ?_ ?_ ?_ | with_reducible refine ag ?_ ?_ | with_reducible refine ai ?_ ?_ | with_reducible refine aa ?_ _ | (intro _) | with_reducible exact aj _ | exact ah | (dsimp only))
def bV (a : Int) (b : Int) (t : List Int × Int) : Option ((List Int × Int) ⊕ List Int) :=
 bif decide (t.2 < b) then
 (itr 4096 (bU a) (t.1,t.2)).bind fun data1 =>
 some (.inl (data1,w64 (t.2 + 1)))
 else
 some (.inr t.1)
theorem iA (a : Int) (b : Int) (t : List Int × Int) : Lo (bV a b t) (ci a b t):=by
 unfold bV ci
 repeat' (first | with_reducible exact iI _ _ | with_reducible refine ad ?_ ?_ ?_ ?_ ?_ | with_reducible refine ab ?_ ?_ ?_ ?_ | with_reducible refine ae ?_ ?_ ?_ | with_reducible refine ag ?_ ?_ | with_reducible refine ai ?_ ?_ | with_reducible refine aa ?_ _ | (intro _) | with_reducible exact aj _ | exact ah | (dsimp only))
def cA (data : List Int) (a : Int) (b : Int) : Option (List Int) :=
 (itr 4096 (bV a b) (data,w64 (a + 1))).bind fun data2 =>
 some data2
theorem jo (data : List Int) (a : Int) (b : Int) : Lo (cA data a b) (bw data a b):=by
 unfold cA bw
 repeat' (first | with_reducible exact iA _ _ _ | with_reducible refine ad ?_ ?_ ?_ ?_ ?_ | with_reducible refine ab ?_ ?_ ?_ ?_ | with_reducible refine ae ?_ ?_ ?_ | with_reducible refine ag ?_ ?_ | with_reducible refine ai ?_ ?_ | with_reducible refine aa ?_ _ | (intro _) | with_reducible exact aj _ | exact ah | (dsimp only))
def da (hi : Int) (first : Int) (t : List Int × Int) : Option ((List Int × Int) ⊕ (List Int ⊕ List Int)) :=
 let child:=w64 ((w64 (2 * t.2)) + 1)
 bif decide (child ≥ hi) then
 some (.inr (.inr (t.1)))
 else
 (
  (
  bif decide ((w64 (child + 1)) < hi) then
   (inb (w64 (first + child)) t.1.length).bind fun i =>
   (t.1[i]?).bind fun x =>
   (inb (w64 ((w64 (first + child)) + 1)) t.1.length).bind fun i1 =>
   (t.1[i1]?).bind fun x1 =>
   (aH x x1).bind fun x2 =>
   some x2
  else
   some false).bind fun q =>
  bif q then
  some (w64 (child + 1))
  else
  some child).bind fun child1 =>
 (inb (w64 (first + t.2)) t.1.length).bind fun i2 =>
 (t.1[i2]?).bind fun x3 =>
 (inb (w64 (first + child1)) t.1.length).bind fun i3 =>
 (t.1[i3]?).bind fun x4 =>
 (aH x3 x4).bind fun x5 =>
 bif ! x5 then
  some (.inr (.inl (t.1)))
 else
  (inb (w64 (first + child1)) t.1.length).bind fun i4 =>
  (t.1[i4]?).bind fun x6 =>
  (inb (w64 (first + t.2)) t.1.length).bind fun i5 =>
  (t.1[i5]?).bind fun x7 =>
  (inb (w64 (first + t.2)) t.1.length).bind fun i6 =>
  (t.1[i6]?).bind fun x8 =>
  (inb (w64 (first + child1)) (List.set t.1 i6 x6).length).bind fun i7 =>
  ((List.set t.1 i6 x6)[i7]?).bind fun x9 =>
  some (.inl (List.set (List.set t.1 i6 x6) i7 x7,child1))
theorem jT (hi : Int) (first : Int) (t : List Int × Int) : Lo (da hi first t) (dH hi first t):=by
 unfold da dH
 repeat' (first | with_reducible exact aK _ _ | with_reducible refine ad ?_ ?_ ?_ ?_ ?_ | with_reducible refine ab ?_ ?_ ?_ ?_ | with_reducible refine ae ?_ ?_ ?_ | with_reducible refine ag ?_ ?_ | with_reducible refine ai ?_ ?_ | with_reducible refine aa ?_ _ | (intro _) | with_reducible exact aj _ | exact ah | (dsimp only))
def bX (data : List Int) (lo : Int) (hi : Int) (first : Int) : Option (List Int) :=
 (itr 4096 (da hi first) (data,lo)).bind fun q0 =>
 match q0 with
 | .inl data1 =>
 some data1
 | .inr data2 =>
 some data2
theorem fL (data : List Int) (lo : Int) (hi : Int) (first : Int) : Lo (bX data lo hi first) (bq data lo hi first):=by
 unfold bX bq
 repeat' (first | with_reducible exact jT _ _ _ | with_reducible refine ad ?_ ?_ ?_ ?_ ?_ | with_reducible refine ab ?_ ?_ ?_ ?_ | with_reducible refine ae ?_ ?_ ?_ | with_reducible refine ag ?_ ?_ | with_reducible refine ai ?_ ?_ | with_reducible refine aa ?_ _ | (intro _) | with_reducible exact aj _ | exact ah | (dsimp only))
def c9 (a : Int) (t1 : List Int × Int) : Option ((List Int × Int) ⊕ List Int) :=
 bif decide (t1.2 ≥ 0) then
 (inb (w64 (a + t1.2)) t1.1.length).bind fun i2 =>
 (t1.1[i2]?).bind fun x1 =>
 (inb a t1.1.length).bind fun i3 =>
 (t1.1[i3]?).bind fun x2 =>
 (inb a t1.1.length).bind fun i4 =>
 (t1.1[i4]?).bind fun x3 =>
 (inb (w64 (a + t1.2)) (List.set t1.1 i4 x1).length).bind fun i5 =>
 ((List.set t1.1 i4 x1)[i5]?).bind fun x4 =>
 (bX (List.set (List.set t1.1 i4 x1) i5 x2) 0 t1.2 a).bind fun x5 =>
 some (.inl (x5,w64 (t1.2 - 1)))
 else
 some (.inr t1.1)
theorem jY (a : Int) (t1 : List Int × Int) : Lo (c9 a t1) (dK a t1):=by
 unfold c9 dK
 repeat' (first | with_reducible exact fL _ _ _ _ | with_reducible refine ad ?_ ?_ ?_ ?_ ?_ | with_reducible refine ab ?_ ?_ ?_ ?_ | with_reducible refine ae ?_ ?_ ?_ | with_reducible refine ag ?_ ?_ | with_reducible refine ai ?_ ?_ | with_reducible refine aa ?_ _ | (intro _) | with_reducible exact aj _ | exact ah | (dsimp only))
def de (a : Int) (b : Int) (t : List Int × Int) : Option ((List Int × Int) ⊕ List Int) :=
 bif decide (t.2 ≥ 0) then
 (bX t.1 t.2 (w64 (b - a)) a).bind fun x =>
 some (.inl (x,w64 (t.2 - 1)))
 else
 some (.inr t.1)
theorem jX (a : Int) (b : Int) (t : List Int × Int) : Lo (de a b t) (dD a b t):=by
 unfold de dD
 repeat' (first | with_reducible exact fL _ _ _ _ | with_reducible refine ad ?_ ?_ ?_ ?_ ?_ | with_reducible refine ab ?_ ?_ ?_ ?_ | with_reducible refine ae ?_ ?_ ?_ | with_reducible refine ag ?_ ?_ | with_reducible refine ai ?_ ?_ | with_reducible refine aa ?_ _ | (intro _) | with_reducible exact aj _ | exact ah | (dsimp only))
def dS (data : List Int) (a : Int) (b : Int) : Option (List Int) :=
 let i:=w64 (Int.tdiv (w64 ((w64 (b - a)) - 1)) 2)
 (itr 4096 (de a b) (data,i)).bind fun data1 =>
 let i1:=w64 ((w64 (b - a)) - 1)
 (itr 4096 (c9 a) (data1,i1)).bind fun data2 =>
 some data2
theorem lu (data : List Int) (a : Int) (b : Int) : Lo (dS data a b) (cD data a b):=by
 unfold dS cD
 repeat' (first | with_reducible exact jX _ _ _ | with_reducible exact jY _ _ | with_reducible refine ad ?_ ?_ ?_ ?_ ?_ | with_reducible refine ab ?_ ?_ ?_ ?_ | with_reducible refine ae ?_ ?_ ?_ | with_reducible refine ag ?_ ?_ | with_reducible refine ai ?_ ?_ | with_reducible refine aa ?_ _ | (intro _) | with_reducible exact aj _ | exact ah | (dsimp only))
def CV (x : Int) : Option Int :=
 (
 bif decide (x ≥ 65536) then
  some (shrK .u32 x 16,16)
 else
  some (x,0)).bind fun q =>
 (
 bif decide (q.1 ≥ 256) then
  some (shrK .u32 q.1 8,w64 (q.2 + 8))
 else
  some (q.1,q.2)).bind fun q1 =>
 (idx ([0,1,2,2,3,3,3,3,4,4,4,4,4,4,4,4,5,5,5,5,5,5,5,5,5,5,5,5,5,5,5,5,6,6,6,6,6,6,6,6,6,6,6,6,6,6,6,6,6,6,6,6,6,6,6,6,6,6,6,6,6,6,6,6,7,7,7,7,7,7,7,7,7,7,7,7,7,7,7,7,7,7,7,7,7,7,7,7,7,7,7,7,7,7,7,7,7,7,7,7,7,7,7,7,7,7,7,7,7,7,7,7,7,7,7,7,7,7,7,7,7,7,7,7,7,7,7,7,8,8,8,8,8,8,8,8,8,8,8,8,8,8,8,8,8,8,8,8,8,8,8,8,8,8,8,8,8,8,8,8,8,8,8,8,8,8,8,8,8,8,8,8,8,8,8,8,8,8,8,8,8,8,8,8,8,8,8,8,8,8,8,8,8,8,8,8,8,8,8,8,8,8,8,8,8,8,8,8,8,8,8,8,8,8,8,8,8,8,8,8,8,8,8,8,8,8,8,8,8,8,8,8,8,8,8,8,8,8,8,8,8,8,8,8,8,8,8,8,8,8,8,8,8,8,8,8] : List UInt8) (IntKind.u8.wrap q1.1)).bind fun ch =>
 let n:=w64 (q1.2 + (w64 (ch.toNat : Int)))
 some n
def nC (x : Int) : Option Int :=
 (lD x).bind fun x1 =>
 some x1
theorem sX (x : Int) : Lo (nC x) (nR x):=by
 unfold nC nR
 repeat' (first | with_reducible exact rg _ | with_reducible refine ad ?_ ?_ ?_ ?_ ?_ | with_reducible refine ab ?_ ?_ ?_ ?_ | with_reducible refine ae ?_ ?_ ?_ | with_reducible refine ag ?_ ?_ | with_reducible refine ai ?_ ?_ | with_reducible refine aa ?_ _ | (intro _) | with_reducible exact aj _ | exact ah | (dsimp only))
def fy (length : Int) : Option Int :=
 (nC (IntKind.u64.wrap length)).bind fun x =>
 (nn x).bind fun _ =>
 some (shlK .u64 1 x)
theorem oC (length : Int) : Lo (fy length) (eD length):=by
 unfold fy eD
 repeat' (first | with_reducible exact sX _ | with_reducible refine ad ?_ ?_ ?_ ?_ ?_ | with_reducible refine ab ?_ ?_ ?_ ?_ | with_reducible refine ae ?_ ?_ ?_ | with_reducible refine ag ?_ ?_ | with_reducible refine ai ?_ ?_ | with_reducible refine aa ?_ _ | (intro _) | with_reducible exact aj _ | exact ah | (dsimp only))
def fY (r : Int) : Option (Int × Int) :=
 some (xorK .u64 (xorK .u64 (xorK .u64 r (shlK .u64 r 13)) (shrK .u64 (xorK .u64 r (shlK .u64 r 13)) 7)) (shlK .u64 (xorK .u64 (xorK .u64 r (shlK .u64 r 13)) (shrK .u64 (xorK .u64 r (shlK .u64 r 13)) 7)) 17),xorK .u64 (xorK .u64 (xorK .u64 r (shlK .u64 r 13)) (shrK .u64 (xorK .u64 r (shlK .u64 r 13)) 7)) (shlK .u64 (xorK .u64 (xorK .u64 r (shlK .u64 r 13)) (shrK .u64 (xorK .u64 r (shlK .u64 r 13)) 7)) 17))
theorem oL (r : Int) : Lo (fY r) (eO r):=by
 unfold fY eO
 repeat' (first | with_reducible refine ad ?_ ?_ ?_ ?_ ?_ | with_reducible refine ab ?_ ?_ ?_ ?_ | with_reducible refine ae ?_ ?_ ?_ | with_reducible refine ag ?_ ?_ | with_reducible refine ai ?_ ?_ | with_reducible refine aa ?_ _ | (intro _) | with_reducible exact aj _ | exact ah | (dsimp only))
def bW (a : Int) (b : Int) (modulus : Int) (t : List Int × Int × Int) : Option ((List Int × Int × Int) ⊕ List Int) :=
 bif decide (t.2.2 ≤ (w64 ((w64 (a + (w64 ((w64 (Int.tdiv (w64 (b - a)) 4)) * 2)))) + 1))) then
 (fY t.2.1).bind fun x =>
 let other:=w64 (andK .u64 x.1 (IntKind.u64.wrap (modulus - 1)))
 (
  bif decide (other ≥ (w64 (b - a))) then
  let other1:=w64 (other - (w64 (b - a)))
  some other1
  else
  some other).bind fun other2 =>
 (inb (w64 (a + other2)) t.1.length).bind fun i =>
 (t.1[i]?).bind fun x1 =>
 (inb t.2.2 t.1.length).bind fun i1 =>
 (t.1[i1]?).bind fun x2 =>
 (inb t.2.2 t.1.length).bind fun i2 =>
 (t.1[i2]?).bind fun x3 =>
 (inb (w64 (a + other2)) (List.set t.1 i2 x1).length).bind fun i3 =>
 ((List.set t.1 i2 x1)[i3]?).bind fun x4 =>
 some (.inl (List.set (List.set t.1 i2 x1) i3 x2,x.2,w64 (t.2.2 + 1)))
 else
 some (.inr t.1)
theorem iF (a : Int) (b : Int) (modulus : Int) (t : List Int × Int × Int) : Lo (bW a b modulus t) (cq a b modulus t):=by
 unfold bW cq
 repeat' (first | with_reducible exact oL _ | with_reducible refine ad ?_ ?_ ?_ ?_ ?_ | with_reducible refine ab ?_ ?_ ?_ ?_ | with_reducible refine ae ?_ ?_ ?_ | with_reducible refine ag ?_ ?_ | with_reducible refine ai ?_ ?_ | with_reducible refine aa ?_ _ | (intro _) | with_reducible exact aj _ | exact ah | (dsimp only))
def cv (data : List Int) (a : Int) (b : Int) : Option (List Int) :=
 bif decide ((w64 (b - a)) ≥ 8) then
 (fy (w64 (b - a))).bind fun modulus =>
 let idx_:=w64 ((w64 (a + (w64 ((w64 (Int.tdiv (w64 (b - a)) 4)) * 2)))) - 1)
 (itr 4096 (bW a b modulus) (data,IntKind.u64.wrap (w64 (b - a)),idx_)).bind fun data1 =>
 some data1
 else
 some data
theorem jp (data : List Int) (a : Int) (b : Int) : Lo (cv data a b) (bA data a b):=by
 unfold cv bA
 repeat' (first | with_reducible exact oC _ | with_reducible exact iF _ _ _ _ | with_reducible refine ad ?_ ?_ ?_ ?_ ?_ | with_reducible refine ab ?_ ?_ ?_ ?_ | with_reducible refine ae ?_ ?_ ?_ | with_reducible refine ag ?_ ?_ | with_reducible refine ai ?_ ?_ | with_reducible refine aa ?_ _ | (intro _) | with_reducible exact aj _ | exact ah | (dsimp only))
def bu (data : List Int) (a : Int) (b : Int) (swaps : Int) : Option (Int × Int × Int) :=
 (idx data b).bind fun x =>
 (idx data a).bind fun x1 =>
 (aH x x1).bind fun x2 =>
 bif x2 then
 some (b,a,w64 (swaps + 1))
 else
 some (a,b,swaps)
theorem lQ (data : List Int) (a : Int) (b : Int) (swaps : Int) : Lo (bu data a b swaps) (a7 data a b swaps):=by
 unfold bu a7
 repeat' (first | with_reducible exact aK _ _ | with_reducible refine ad ?_ ?_ ?_ ?_ ?_ | with_reducible refine ab ?_ ?_ ?_ ?_ | with_reducible refine ae ?_ ?_ ?_ | with_reducible refine ag ?_ ?_ | with_reducible refine ai ?_ ?_ | with_reducible refine aa ?_ _ | (intro _) | with_reducible exact aj _ | exact ah | (dsimp only))
def cG (data : List Int) (a : Int) (b : Int) (c : Int) (swaps : Int) : Option (Int × Int) :=
 (bu data a b swaps).bind fun x =>
 (bu data x.2.1 c x.2.2).bind fun x1 =>
 (bu data x.1 x1.1 x1.2.2).bind fun x2 =>
 some (x2.2.1,x2.2.2)
theorem gF (data : List Int) (a : Int) (b : Int) (c : Int) (swaps : Int) : Lo (cG data a b c swaps) (bN data a b c swaps):=by
 unfold cG bN
 repeat' (first | with_reducible exact lQ _ _ _ _ | with_reducible refine ad ?_ ?_ ?_ ?_ ?_ | with_reducible refine ab ?_ ?_ ?_ ?_ | with_reducible refine ae ?_ ?_ ?_ | with_reducible refine ag ?_ ?_ | with_reducible refine ai ?_ ?_ | with_reducible refine aa ?_ _ | (intro _) | with_reducible exact aj _ | exact ah | (dsimp only))
def aP (data : List Int) (a : Int) (swaps : Int) : Option (Int × Int) :=
 (cG data (w64 (a - 1)) a (w64 (a + 1)) swaps).bind fun x =>
 some (x.1,x.2)
theorem iX (data : List Int) (a : Int) (swaps : Int) : Lo (aP data a swaps) (aJ data a swaps):=by
 unfold aP aJ
 repeat' (first | with_reducible exact gF _ _ _ _ _ | with_reducible refine ad ?_ ?_ ?_ ?_ ?_ | with_reducible refine ab ?_ ?_ ?_ ?_ | with_reducible refine ae ?_ ?_ ?_ | with_reducible refine ag ?_ ?_ | with_reducible refine ai ?_ ?_ | with_reducible refine aa ?_ _ | (intro _) | with_reducible exact aj _ | exact ah | (dsimp only))
def c_ (data : List Int) (a : Int) (b : Int) : Option (Int × Int) :=
 let i:=w64 (a + (w64 ((w64 (Int.tdiv (w64 (b - a)) 4)) * 1)))
 let j:=w64 (a + (w64 ((w64 (Int.tdiv (w64 (b - a)) 4)) * 2)))
 let k:=w64 (a + (w64 ((w64 (Int.tdiv (w64 (b - a)) 4)) * 3)))
 (
 bif decide ((w64 (b - a)) ≥ 8) then
  (
  bif decide ((w64 (b - a)) ≥ 50) then
   (aP data i 0).bind fun i1 =>
   (aP data j i1.2).bind fun j1 =>
   (aP data k j1.2).bind fun k1 =>
   some (k1.2,i1.1,j1.1,k1.1)
  else
   some (0,i,j,k)).bind fun q =>
  (cG data q.2.1 q.2.2.1 q.2.2.2 q.1).bind fun j2 =>
  some (j2.2,j2.1)
 else
  some (0,j)).bind fun q1 =>
 bif q1.1 == 0 then
 some (q1.2,1)
 else
 bif q1.1 == 12 then
  some (q1.2,2)
 else
  some (q1.2,0)
theorem jZ (data : List Int) (a : Int) (b : Int) : Lo (c_ data a b) (bO data a b):=by
 unfold c_ bO
 repeat' (first | with_reducible exact iX _ _ _ | with_reducible exact gF _ _ _ _ _ | with_reducible refine ad ?_ ?_ ?_ ?_ ?_ | with_reducible refine ab ?_ ?_ ?_ ?_ | with_reducible refine ae ?_ ?_ ?_ | with_reducible refine ag ?_ ?_ | with_reducible refine ai ?_ ?_ | with_reducible refine aa ?_ _ | (intro _) | with_reducible exact aj _ | exact ah | (dsimp only))
def cg (t : List Int × Int × Int) : Option ((List Int × Int × Int) ⊕ List Int) :=
 bif decide (t.2.1 < t.2.2) then
 (inb t.2.2 t.1.length).bind fun i =>
 (t.1[i]?).bind fun x =>
 (inb t.2.1 t.1.length).bind fun i1 =>
 (t.1[i1]?).bind fun x1 =>
 (inb t.2.1 t.1.length).bind fun i2 =>
 (t.1[i2]?).bind fun x2 =>
 (inb t.2.2 (List.set t.1 i2 x).length).bind fun i3 =>
 ((List.set t.1 i2 x)[i3]?).bind fun x3 =>
 some (.inl (List.set (List.set t.1 i2 x) i3 x1,w64 (t.2.1 + 1),w64 (t.2.2 - 1)))
 else
 some (.inr t.1)
theorem iQ (t : List Int × Int × Int) : Lo (cg t) (cB t):=by
 unfold cg cB
 repeat' (first | with_reducible refine ad ?_ ?_ ?_ ?_ ?_ | with_reducible refine ab ?_ ?_ ?_ ?_ | with_reducible refine ae ?_ ?_ ?_ | with_reducible refine ag ?_ ?_ | with_reducible refine ai ?_ ?_ | with_reducible refine aa ?_ _ | (intro _) | with_reducible exact aj _ | exact ah | (dsimp only))
def cM (data : List Int) (a : Int) (b : Int) : Option (List Int) :=
 (itr 4096 cg (data,a,w64 (b - 1))).bind fun data1 =>
 some data1
theorem jP (data : List Int) (a : Int) (b : Int) : Lo (cM data a b) (bH data a b):=by
 unfold cM bH
 repeat' (first | with_reducible exact iQ _ | with_reducible refine ad ?_ ?_ ?_ ?_ ?_ | with_reducible refine ab ?_ ?_ ?_ ?_ | with_reducible refine ae ?_ ?_ ?_ | with_reducible refine ag ?_ ?_ | with_reducible refine ai ?_ ?_ | with_reducible refine aa ?_ _ | (intro _) | with_reducible exact aj _ | exact ah | (dsimp only))
def aZ (b : Int) (t2 : List Int × Int) : Option ((List Int × Int) ⊕ List Int) :=
 bif decide (t2.2 < b) then
 (inb t2.2 t2.1.length).bind fun i14 =>
 (t2.1[i14]?).bind fun x14 =>
 (inb (w64 (t2.2 - 1)) t2.1.length).bind fun i15 =>
 (t2.1[i15]?).bind fun x15 =>
 (aH x14 x15).bind fun x16 =>
 bif ! x16 then
  some (.inr t2.1)
 else
  (inb (w64 (t2.2 - 1)) t2.1.length).bind fun i16 =>
  (t2.1[i16]?).bind fun x17 =>
  (inb t2.2 t2.1.length).bind fun i17 =>
  (t2.1[i17]?).bind fun x18 =>
  (inb t2.2 t2.1.length).bind fun i18 =>
  (t2.1[i18]?).bind fun x19 =>
  (inb (w64 (t2.2 - 1)) (List.set t2.1 i18 x17).length).bind fun i19 =>
  ((List.set t2.1 i18 x17)[i19]?).bind fun x20 =>
  some (.inl (List.set (List.set t2.1 i18 x17) i19 x18,w64 (t2.2 + 1)))
 else
 some (.inr t2.1)
theorem fP (b : Int) (t2 : List Int × Int) : Lo (aZ b t2) (bg b t2):=by
 unfold aZ bg
 repeat' (first | with_reducible exact aK _ _ | with_reducible refine ad ?_ ?_ ?_ ?_ ?_ | with_reducible refine ab ?_ ?_ ?_ ?_ | with_reducible refine ae ?_ ?_ ?_ | with_reducible refine ag ?_ ?_ | with_reducible refine ai ?_ ?_ | with_reducible refine aa ?_ _ | (intro _) | with_reducible exact aj _ | exact ah | (dsimp only))
def aW (t1 : List Int × Int) : Option ((List Int × Int) ⊕ List Int) :=
 bif decide (t1.2 ≥ 1) then
 (inb t1.2 t1.1.length).bind fun i8 =>
 (t1.1[i8]?).bind fun x7 =>
 (inb (w64 (t1.2 - 1)) t1.1.length).bind fun i9 =>
 (t1.1[i9]?).bind fun x8 =>
 (aH x7 x8).bind fun x9 =>
 bif ! x9 then
  some (.inr t1.1)
 else
  (inb (w64 (t1.2 - 1)) t1.1.length).bind fun i10 =>
  (t1.1[i10]?).bind fun x10 =>
  (inb t1.2 t1.1.length).bind fun i11 =>
  (t1.1[i11]?).bind fun x11 =>
  (inb t1.2 t1.1.length).bind fun i12 =>
  (t1.1[i12]?).bind fun x12 =>
  (inb (w64 (t1.2 - 1)) (List.set t1.1 i12 x10).length).bind fun i13 =>
  ((List.set t1.1 i12 x10)[i13]?).bind fun x13 =>
  some (.inl (List.set (List.set t1.1 i12 x10) i13 x11,w64 (t1.2 - 1)))
 else
 some (.inr t1.1)
theorem fW (t1 : List Int × Int) : Lo (aW t1) (bd t1):=by
 unfold aW bd
 repeat' (first | with_reducible exact aK _ _ | with_reducible refine ad ?_ ?_ ?_ ?_ ?_ | with_reducible refine ab ?_ ?_ ?_ ?_ | with_reducible refine ae ?_ ?_ ?_ | with_reducible refine ag ?_ ?_ | with_reducible refine ai ?_ ?_ | with_reducible refine aa ?_ _ | (intro _) | with_reducible exact aj _ | exact ah | (dsimp only))
def aY (b : Int) (t : List Int × Int × Int) (i : Int) : Option (Int ⊕ Int) :=
 (
 bif decide (i < b) then
  (inb i t.1.length).bind fun i1 =>
  (t.1[i1]?).bind fun x =>
  (inb (w64 (i - 1)) t.1.length).bind fun i2 =>
  (t.1[i2]?).bind fun x1 =>
  (aH x x1).bind fun x2 =>
  some (! x2)
 else
  some false).bind fun q =>
 bif q then
 some (.inl (w64 (i + 1)))
 else
 some (.inr i)
theorem fV (b : Int) (t : List Int × Int × Int) (i : Int) : Lo (aY b t i) (bi b t i):=by
 unfold aY bi
 repeat' (first | with_reducible exact aK _ _ | with_reducible refine ad ?_ ?_ ?_ ?_ ?_ | with_reducible refine ab ?_ ?_ ?_ ?_ | with_reducible refine ae ?_ ?_ ?_ | with_reducible refine ag ?_ ?_ | with_reducible refine ai ?_ ?_ | with_reducible refine aa ?_ _ | (intro _) | with_reducible exact aj _ | exact ah | (dsimp only))
def aX (a : Int) (b : Int) (t : List Int × Int × Int) : Option ((List Int × Int × Int) ⊕ ((List Int × Bool) ⊕ List Int)) :=
 bif decide (t.2.2 < 5) then
 (
  (itr 4096 (aY b t) t.2.1).bind fun i3 =>
  bif i3 == b then
  some (.inr (t.1,true))
  else
  bif decide ((w64 (b - a)) < 50) then
   some (.inr (t.1,false))
  else
   (inb (w64 (i3 - 1)) t.1.length).bind fun i4 =>
   (t.1[i4]?).bind fun x3 =>
   (inb i3 t.1.length).bind fun i5 =>
   (t.1[i5]?).bind fun x4 =>
   (inb i3 t.1.length).bind fun i6 =>
   (t.1[i6]?).bind fun x5 =>
   (inb (w64 (i3 - 1)) (List.set t.1 i6 x3).length).bind fun i7 =>
   ((List.set t.1 i6 x3)[i7]?).bind fun x6 =>
   (
   bif decide ((w64 (i3 - a)) ≥ 2) then
    (itr 4096 aW (List.set (List.set t.1 i6 x3) i7 x4,w64 (i3 - 1))).bind fun data1 =>
    some data1
   else
    some (List.set (List.set t.1 i6 x3) i7 x4)).bind fun data2 =>
   bif decide ((w64 (b - i3)) ≥ 2) then
   (itr 4096 (aZ b) (data2,w64 (i3 + 1))).bind fun data3 =>
   some (.inl (data3,i3))
   else
   some (.inl (data2,i3)) : Option ((List Int × Int) ⊕ (List Int × Bool))).bind fun q0 =>
 match q0 with
 | .inl q1 =>
  some (.inl (q1.1,q1.2,w64 (t.2.2 + 1)))
 | .inr q2 =>
  some (.inr (.inl (q2.1,q2.2)))
 else
 some (.inr (.inr (t.1)))
theorem fM (a : Int) (b : Int) (t : List Int × Int × Int) : Lo (aX a b t) (be a b t):=by
 unfold aX be
 repeat' (first | with_reducible exact fV _ _ _ | with_reducible exact fW _ | with_reducible exact fP _ _ | with_reducible refine ad ?_ ?_ ?_ ?_ ?_ | with_reducible refine ab ?_ ?_ ?_ ?_ | with_reducible refine ae ?_ ?_ ?_ | with_reducible refine ag ?_ ?_ | with_reducible refine ai ?_ ?_ | with_reducible refine aa ?_ _ | (intro _) | with_reducible exact aj _ | exact ah | (dsimp only))
def bo (data : List Int) (a : Int) (b : Int) : Option (Bool × List Int) :=
 (itr 4096 (aX a b) (data,w64 (a + 1),0)).bind fun q0 =>
 match q0 with
 | .inl q3 =>
 some (q3.2,q3.1)
 | .inr data4 =>
 some (false,data4)
theorem gD (data : List Int) (a : Int) (b : Int) : Lo (bo data a b) (aT data a b):=by
 unfold bo aT
 repeat' (first | with_reducible exact fM _ _ _ | with_reducible refine ad ?_ ?_ ?_ ?_ ?_ | with_reducible refine ab ?_ ?_ ?_ ?_ | with_reducible refine ae ?_ ?_ ?_ | with_reducible refine ag ?_ ?_ | with_reducible refine ai ?_ ?_ | with_reducible refine aa ?_ _ | (intro _) | with_reducible exact aj _ | exact ah | (dsimp only))
def bK (a : Int) (t : List Int × Int × Int) (i7 : Int) (j : Int) : Option (Int ⊕ Int) :=
 (
 bif decide (i7 ≤ j) then
  (inb a t.1.length).bind fun i8 =>
  (t.1[i8]?).bind fun x7 =>
  (inb j t.1.length).bind fun i9 =>
  (t.1[i9]?).bind fun x8 =>
  (aH x7 x8).bind fun x9 =>
  some x9
 else
  some false).bind fun q1 =>
 bif q1 then
 some (.inl (w64 (j - 1)))
 else
 some (.inr j)
theorem iq (a : Int) (t : List Int × Int × Int) (i7 : Int) (j : Int) : Lo (bK a t i7 j) (cb a t i7 j):=by
 unfold bK cb
 repeat' (first | with_reducible exact aK _ _ | with_reducible refine ad ?_ ?_ ?_ ?_ ?_ | with_reducible refine ab ?_ ?_ ?_ ?_ | with_reducible refine ae ?_ ?_ ?_ | with_reducible refine ag ?_ ?_ | with_reducible refine ai ?_ ?_ | with_reducible refine aa ?_ _ | (intro _) | with_reducible exact aj _ | exact ah | (dsimp only))
def bL (a : Int) (t : List Int × Int × Int) (i4 : Int) : Option (Int ⊕ Int) :=
 (
 bif decide (i4 ≤ t.2.2) then
  (inb a t.1.length).bind fun i5 =>
  (t.1[i5]?).bind fun x4 =>
  (inb i4 t.1.length).bind fun i6 =>
  (t.1[i6]?).bind fun x5 =>
  (aH x4 x5).bind fun x6 =>
  some (! x6)
 else
  some false).bind fun q =>
 bif q then
 some (.inl (w64 (i4 + 1)))
 else
 some (.inr i4)
theorem ir (a : Int) (t : List Int × Int × Int) (i4 : Int) : Lo (bL a t i4) (b7 a t i4):=by
 unfold bL b7
 repeat' (first | with_reducible exact aK _ _ | with_reducible refine ad ?_ ?_ ?_ ?_ ?_ | with_reducible refine ab ?_ ?_ ?_ ?_ | with_reducible refine ae ?_ ?_ ?_ | with_reducible refine ag ?_ ?_ | with_reducible refine ai ?_ ?_ | with_reducible refine aa ?_ _ | (intro _) | with_reducible exact aj _ | exact ah | (dsimp only))
def bM (a : Int) (t : List Int × Int × Int) : Option ((List Int × Int × Int) ⊕ ((List Int × Int))) :=
 (itr 4096 (bL a t) t.2.1).bind fun i7 =>
 (itr 4096 (bK a t i7) t.2.2).bind fun j1 =>
 bif decide (i7 > j1) then
 some (.inr (t.1,i7))
 else
 (inb j1 t.1.length).bind fun i10 =>
 (t.1[i10]?).bind fun x10 =>
 (inb i7 t.1.length).bind fun i11 =>
 (t.1[i11]?).bind fun x11 =>
 (inb i7 t.1.length).bind fun i12 =>
 (t.1[i12]?).bind fun x12 =>
 (inb j1 (List.set t.1 i12 x10).length).bind fun i13 =>
 ((List.set t.1 i12 x10)[i13]?).bind fun x13 =>
 some (.inl (List.set (List.set t.1 i12 x10) i13 x11,w64 (i7 + 1),w64 (j1 - 1)))
theorem il (a : Int) (t : List Int × Int × Int) : Lo (bM a t) (b8 a t):=by
 unfold bM b8
 repeat' (first | with_reducible exact ir _ _ _ | with_reducible exact iq _ _ _ _ | with_reducible refine ad ?_ ?_ ?_ ?_ ?_ | with_reducible refine ab ?_ ?_ ?_ ?_ | with_reducible refine ae ?_ ?_ ?_ | with_reducible refine ag ?_ ?_ | with_reducible refine ai ?_ ?_ | with_reducible refine aa ?_ _ | (intro _) | with_reducible exact aj _ | exact ah | (dsimp only))
def cj (data : List Int) (a : Int) (b : Int) (pivot : Int) : Option (Int × List Int) :=
 (inb pivot data.length).bind fun i =>
 (data[i]?).bind fun x =>
 (inb a data.length).bind fun i1 =>
 (data[i1]?).bind fun x1 =>
 (inb a data.length).bind fun i2 =>
 (data[i2]?).bind fun x2 =>
 (inb pivot (List.set data i2 x).length).bind fun i3 =>
 ((List.set data i2 x)[i3]?).bind fun x3 =>
 (itr 4096 (bM a) (List.set (List.set data i2 x) i3 x1,w64 (a + 1),w64 (b - 1))).bind fun q2 =>
 some (q2.2,q2.1)
theorem i_ (data : List Int) (a : Int) (b : Int) (pivot : Int) : Lo (cj data a b pivot) (bk data a b pivot):=by
 unfold cj bk
 repeat' (first | with_reducible exact il _ _ | with_reducible refine ad ?_ ?_ ?_ ?_ ?_ | with_reducible refine ab ?_ ?_ ?_ ?_ | with_reducible refine ae ?_ ?_ ?_ | with_reducible refine ag ?_ ?_ | with_reducible refine ai ?_ ?_ | with_reducible refine aa ?_ _ | (intro _) | with_reducible exact aj _ | exact ah | (dsimp only))
def cR (a : Int) (t : List Int × Int × Int) (i21 : Int) (j2 : Int) : Option (Int ⊕ Int) :=
 (
 bif decide (i21 ≤ j2) then
  (inb j2 t.1.length).bind fun i22 =>
  (t.1[i22]?).bind fun x21 =>
  (inb a t.1.length).bind fun i23 =>
  (t.1[i23]?).bind fun x22 =>
  (aH x21 x22).bind fun x23 =>
  some (! x23)
 else
  some false).bind fun q3 =>
 bif q3 then
 some (.inl (w64 (j2 - 1)))
 else
 some (.inr j2)
theorem jG (a : Int) (t : List Int × Int × Int) (i21 : Int) (j2 : Int) : Lo (cR a t i21 j2) (dn a t i21 j2):=by
 unfold cR dn
 repeat' (first | with_reducible exact aK _ _ | with_reducible refine ad ?_ ?_ ?_ ?_ ?_ | with_reducible refine ab ?_ ?_ ?_ ?_ | with_reducible refine ae ?_ ?_ ?_ | with_reducible refine ag ?_ ?_ | with_reducible refine ai ?_ ?_ | with_reducible refine aa ?_ _ | (intro _) | with_reducible exact aj _ | exact ah | (dsimp only))
def cQ (a : Int) (t : List Int × Int × Int) (i18 : Int) : Option (Int ⊕ Int) :=
 (
 bif decide (i18 ≤ t.2.2) then
  (inb i18 t.1.length).bind fun i19 =>
  (t.1[i19]?).bind fun x18 =>
  (inb a t.1.length).bind fun i20 =>
  (t.1[i20]?).bind fun x19 =>
  (aH x18 x19).bind fun x20 =>
  some x20
 else
  some false).bind fun q2 =>
 bif q2 then
 some (.inl (w64 (i18 + 1)))
 else
 some (.inr i18)
theorem jK (a : Int) (t : List Int × Int × Int) (i18 : Int) : Lo (cQ a t i18) (dm a t i18):=by
 unfold cQ dm
 repeat' (first | with_reducible exact aK _ _ | with_reducible refine ad ?_ ?_ ?_ ?_ ?_ | with_reducible refine ab ?_ ?_ ?_ ?_ | with_reducible refine ae ?_ ?_ ?_ | with_reducible refine ag ?_ ?_ | with_reducible refine ai ?_ ?_ | with_reducible refine aa ?_ _ | (intro _) | with_reducible exact aj _ | exact ah | (dsimp only))
def cL (a : Int) (t : List Int × Int × Int) : Option ((List Int × Int × Int) ⊕ ((List Int × Int))) :=
 (itr 4096 (cQ a t) t.2.1).bind fun i21 =>
 (itr 4096 (cR a t i21) t.2.2).bind fun j3 =>
 bif decide (i21 > j3) then
 some (.inr (t.1,j3))
 else
 (inb j3 t.1.length).bind fun i24 =>
 (t.1[i24]?).bind fun x24 =>
 (inb i21 t.1.length).bind fun i25 =>
 (t.1[i25]?).bind fun x25 =>
 (inb i21 t.1.length).bind fun i26 =>
 (t.1[i26]?).bind fun x26 =>
 (inb j3 (List.set t.1 i26 x24).length).bind fun i27 =>
 ((List.set t.1 i26 x24)[i27]?).bind fun x27 =>
 some (.inl (List.set (List.set t.1 i26 x24) i27 x25,w64 (i21 + 1),w64 (j3 - 1)))
theorem jM (a : Int) (t : List Int × Int × Int) : Lo (cL a t) (dl a t):=by
 unfold cL dl
 repeat' (first | with_reducible exact jK _ _ _ | with_reducible exact jG _ _ _ _ | with_reducible refine ad ?_ ?_ ?_ ?_ ?_ | with_reducible refine ab ?_ ?_ ?_ ?_ | with_reducible refine ae ?_ ?_ ?_ | with_reducible refine ag ?_ ?_ | with_reducible refine ai ?_ ?_ | with_reducible refine aa ?_ _ | (intro _) | with_reducible exact aj _ | exact ah | (dsimp only))
def cS (data : List Int) (a : Int) (x : Int) (x1 : Int) (i2 : Nat) (i3 : Nat) (i7 : Int) (j : Int) : Option (Int ⊕ Int) :=
 (
 bif decide (i7 ≤ j) then
  (inb j (List.set (List.set data i2 x) i3 x1).length).bind fun i8 =>
  ((List.set (List.set data i2 x) i3 x1)[i8]?).bind fun x7 =>
  (inb a (List.set (List.set data i2 x) i3 x1).length).bind fun i9 =>
  ((List.set (List.set data i2 x) i3 x1)[i9]?).bind fun x8 =>
  (aH x7 x8).bind fun x9 =>
  some (! x9)
 else
  some false).bind fun q1 =>
 bif q1 then
 some (.inl (w64 (j - 1)))
 else
 some (.inr j)
theorem jA (data : List Int) (a : Int) (x : Int) (x1 : Int) (i2 : Nat) (i3 : Nat) (i7 : Int) (j : Int) : Lo (cS data a x x1 i2 i3 i7 j) (dw data a x x1 i2 i3 i7 j):=by
 unfold cS dw
 repeat' (first | with_reducible exact aK _ _ | with_reducible refine ad ?_ ?_ ?_ ?_ ?_ | with_reducible refine ab ?_ ?_ ?_ ?_ | with_reducible refine ae ?_ ?_ ?_ | with_reducible refine ag ?_ ?_ | with_reducible refine ai ?_ ?_ | with_reducible refine aa ?_ _ | (intro _) | with_reducible exact aj _ | exact ah | (dsimp only))
def cP (data : List Int) (a : Int) (b : Int) (x : Int) (x1 : Int) (i2 : Nat) (i3 : Nat) (i4 : Int) : Option (Int ⊕ Int) :=
 (
 bif decide (i4 ≤ (w64 (b - 1))) then
  (inb i4 (List.set (List.set data i2 x) i3 x1).length).bind fun i5 =>
  ((List.set (List.set data i2 x) i3 x1)[i5]?).bind fun x4 =>
  (inb a (List.set (List.set data i2 x) i3 x1).length).bind fun i6 =>
  ((List.set (List.set data i2 x) i3 x1)[i6]?).bind fun x5 =>
  (aH x4 x5).bind fun x6 =>
  some x6
 else
  some false).bind fun q =>
 bif q then
 some (.inl (w64 (i4 + 1)))
 else
 some (.inr i4)
theorem jz (data : List Int) (a : Int) (b : Int) (x : Int) (x1 : Int) (i2 : Nat) (i3 : Nat) (i4 : Int) : Lo (cP data a b x x1 i2 i3 i4) (dj data a b x x1 i2 i3 i4):=by
 unfold cP dj
 repeat' (first | with_reducible exact aK _ _ | with_reducible refine ad ?_ ?_ ?_ ?_ ?_ | with_reducible refine ab ?_ ?_ ?_ ?_ | with_reducible refine ae ?_ ?_ ?_ | with_reducible refine ag ?_ ?_ | with_reducible refine ai ?_ ?_ | with_reducible refine aa ?_ _ | (intro _) | with_reducible exact aj _ | exact ah | (dsimp only))
def dI (data : List Int) (a : Int) (b : Int) (pivot : Int) : Option (Int × Bool × List Int) :=
 (inb pivot data.length).bind fun i =>
 (data[i]?).bind fun x =>
 (inb a data.length).bind fun i1 =>
 (data[i1]?).bind fun x1 =>
 (inb a data.length).bind fun i2 =>
 (data[i2]?).bind fun x2 =>
 (inb pivot (List.set data i2 x).length).bind fun i3 =>
 ((List.set data i2 x)[i3]?).bind fun x3 =>
 (itr 4096 (cP data a b x x1 i2 i3) (w64 (a + 1))).bind fun i7 =>
 (itr 4096 (cS data a x x1 i2 i3 i7) (w64 (b - 1))).bind fun j1 =>
 bif decide (i7 > j1) then
 (inb a (List.set (List.set data i2 x) i3 x1).length).bind fun i10 =>
 ((List.set (List.set data i2 x) i3 x1)[i10]?).bind fun x10 =>
 (inb j1 (List.set (List.set data i2 x) i3 x1).length).bind fun i11 =>
 ((List.set (List.set data i2 x) i3 x1)[i11]?).bind fun x11 =>
 (inb j1 (List.set (List.set data i2 x) i3 x1).length).bind fun i12 =>
 ((List.set (List.set data i2 x) i3 x1)[i12]?).bind fun x12 =>
 (inb a (List.set (List.set (List.set data i2 x) i3 x1) i12 x10).length).bind fun i13 =>
 ((List.set (List.set (List.set data i2 x) i3 x1) i12 x10)[i13]?).bind fun x13 =>
 some (j1,true,List.set (List.set (List.set (List.set data i2 x) i3 x1) i12 x10) i13 x11)
 else
 (inb j1 (List.set (List.set data i2 x) i3 x1).length).bind fun i14 =>
 ((List.set (List.set data i2 x) i3 x1)[i14]?).bind fun x14 =>
 (inb i7 (List.set (List.set data i2 x) i3 x1).length).bind fun i15 =>
 ((List.set (List.set data i2 x) i3 x1)[i15]?).bind fun x15 =>
 (inb i7 (List.set (List.set data i2 x) i3 x1).length).bind fun i16 =>
 ((List.set (List.set data i2 x) i3 x1)[i16]?).bind fun x16 =>
 (inb j1 (List.set (List.set (List.set data i2 x) i3 x1) i16 x14).length).bind fun i17 =>
 ((List.set (List.set (List.set data i2 x) i3 x1) i16 x14)[i17]?).bind fun x17 =>
 (itr 4096 (cL a) (List.set (List.set (List.set (List.set data i2 x) i3 x1) i16 x14) i17 x15,w64 (i7 + 1),w64 (j1 - 1))).bind fun q4 =>
 (inb a q4.1.length).bind fun i28 =>
 (q4.1[i28]?).bind fun x28 =>
 (inb q4.2 q4.1.length).bind fun i29 =>
 (q4.1[i29]?).bind fun x29 =>
 (inb q4.2 q4.1.length).bind fun i30 =>
 (q4.1[i30]?).bind fun x30 =>
 (inb a (List.set q4.1 i30 x28).length).bind fun i31 =>
 ((List.set q4.1 i30 x28)[i31]?).bind fun x31 =>
 some (q4.2,false,List.set (List.set q4.1 i30 x28) i31 x29)
theorem kF (data : List Int) (a : Int) (b : Int) (pivot : Int) : Lo (dI data a b pivot) (co data a b pivot):=by
 unfold dI co
 repeat' (first | with_reducible exact jz _ _ _ _ _ _ _ _ | with_reducible exact jA _ _ _ _ _ _ _ _ | with_reducible exact jM _ _ | with_reducible refine ad ?_ ?_ ?_ ?_ ?_ | with_reducible refine ab ?_ ?_ ?_ ?_ | with_reducible refine ae ?_ ?_ ?_ | with_reducible refine ag ?_ ?_ | with_reducible refine ai ?_ ?_ | with_reducible refine aa ?_ _ | (intro _) | with_reducible exact aj _ | exact ah | (dsimp only))
def cN (self : (List Int) → Int → Int → Int → Option (List Int)) (t : List Int × Int × Int × Int × Bool × Bool) : Option ((List Int × Int × Int × Int × Bool × Bool) ⊕ List Int) :=
 let length:=w64 (t.2.2.1 - t.2.1)
 bif decide (length ≤ 12) then
 (cA t.1 t.2.1 t.2.2.1).bind fun x =>
 some (.inr x)
 else
 bif t.2.2.2.1 == 0 then
  (dS t.1 t.2.1 t.2.2.1).bind fun x1 =>
  some (.inr x1)
 else
  (
  bif ! t.2.2.2.2.1 then
   (cv t.1 t.2.1 t.2.2.1).bind fun x2 =>
   some (x2,w64 (t.2.2.2.1 - 1))
  else
   some (t.1,t.2.2.2.1)).bind fun q =>
  (c_ q.1 t.2.1 t.2.2.1).bind fun x3 =>
  (
  bif x3.2 == 2 then
   (cM q.1 t.2.1 t.2.2.1).bind fun x4 =>
   let pivot:=w64 ((w64 (t.2.2.1 - 1)) - (w64 (x3.1 - t.2.1)))
   some (x4,pivot,1)
  else
   some (q.1,x3.1,x3.2)).bind fun q1 =>
  (
  (
   bif t.2.2.2.2.1 then
   bif t.2.2.2.2.2 then
    some (q1.2.2 == 1)
   else
    some false
   else
   some false).bind fun q2 =>
  bif q2 then
   (bo q1.1 t.2.1 t.2.2.1).bind fun x5 =>
   bif x5.1 then
   some (.inr (x5.2))
   else
   some (.inl (x5.2))
  else
   some (.inl (q1.1)) : Option (List Int ⊕ List Int)).bind fun q0 =>
  match q0 with
  | .inl data1 =>
  (
   bif decide (t.2.1 > 0) then
   (inb (w64 (t.2.1 - 1)) data1.length).bind fun i =>
   (data1[i]?).bind fun x6 =>
   (inb q1.2.1 data1.length).bind fun i1 =>
   (data1[i1]?).bind fun x7 =>
   (aH x6 x7).bind fun x8 =>
   some (! x8)
   else
   some false).bind fun q3 =>
  bif q3 then
   (cj data1 t.2.1 t.2.2.1 q1.2.1).bind fun mid =>
   some (.inl (mid.2,mid.1,t.2.2.1,q.2,t.2.2.2.2.1,t.2.2.2.2.2))
  else
   (dI data1 t.2.1 t.2.2.1 q1.2.1).bind fun x9 =>
   let leftLen:=w64 (x9.1 - t.2.1)
   let rightLen:=w64 (t.2.2.1 - x9.1)
   bif decide (leftLen < rightLen) then
   let wasBalanced:=decide (leftLen ≥ (w64 (Int.tdiv length 8)))
   (self x9.2.2 t.2.1 x9.1 q.2).bind fun x10 =>
   some (.inl (x10,w64 (x9.1 + 1),t.2.2.1,q.2,wasBalanced,x9.2.1))
   else
   let wasBalanced1:=decide (rightLen ≥ (w64 (Int.tdiv length 8)))
   (self x9.2.2 (w64 (x9.1 + 1)) t.2.2.1 q.2).bind fun x11 =>
   some (.inl (x11,t.2.1,x9.1,q.2,wasBalanced1,x9.2.1))
  | .inr data2 =>
  some (.inr data2)
theorem jy (self self_' : (List Int) → Int → Int → Int → Option (List Int)) (h_self : ∀ (a0 : (List Int)) (a1 : Int) (a2 : Int) (a3 : Int),Lo (self a0 a1 a2 a3) (self_' a0 a1 a2 a3)) (t : List Int × Int × Int × Int × Bool × Bool) : Lo (cN self t) (du self_' t):=by
 unfold cN du
 repeat' (first | with_reducible exact jo _ _ _ | with_reducible exact lu _ _ _ | with_reducible exact jp _ _ _ | with_reducible exact jZ _ _ _ | with_reducible exact jP _ _ _ | with_reducible exact gD _ _ _ | with_reducible exact aK _ _ | with_reducible exact i_ _ _ _ _ | with_reducible exact kF _ _ _ _ | with_reducible refine h_self _ _ _ _ | with_reducible refine ad ?_ ?_ ?_ ?_ ?_ | with_reducible refine ab ?_ ?_ ?_ ?_ | with_reducible refine ae ?_ ?_ ?_ | with_reducible refine ag ?_ ?_ | with_reducible refine ai ?_ ?_ | with_reducible refine aa ?_ _ | (intro _) | with_reducible exact aj _ | exact ah | (dsimp only))
def dG (self : (List Int) → Int → Int → Int → Option (List Int)) (data : List Int) (a : Int) (b : Int) (limit : Int) : Option (List Int) :=
 (itr 4096 (cN self) (data,a,b,limit,true,true)).bind fun data3 =>
 some data3
theorem kG (self self_' : (List Int) → Int → Int → Int → Option (List Int)) (h_self : ∀ (a0 : (List Int)) (a1 : Int) (a2 : Int) (a3 : Int),Lo (self a0 a1 a2 a3) (self_' a0 a1 a2 a3)) (data : List Int) (a : Int) (b : Int) (limit : Int) : Lo (dG self data a b limit) (d9 self_' data a b limit):=by
 unfold dG d9
 repeat' (first | with_reducible refine jy _ _ ?_ _ | with_reducible refine h_self _ _ _ _ | with_reducible refine ad ?_ ?_ ?_ ?_ ?_ | with_reducible refine ab ?_ ?_ ?_ ?_ | with_reducible refine ae ?_ ?_ ?_ | with_reducible refine ag ?_ ?_ | with_reducible refine ai ?_ ?_ | with_reducible refine aa ?_ _ | (intro _) | with_reducible exact aj _ | exact ah | (dsimp only))
def bP : Nat → (List Int) → Int → Int → Int → Option (List Int)
 | 0 => fun _ _ _ _ => none
 | n + 1 => dG (bP n)
theorem fq : ∀ (n : Nat),∀ (a0 : List Int) (a1 : Int) (a2 : Int) (a3 : Int),Lo (bP n a0 a1 a2 a3) (bh n a0 a1 a2 a3)
 | 0 => fun _ _ _ _ => ah
 | n + 1 => fun a0 a1 a2 a3 => kG (bP n) (bh n) (fq n) a0 a1 a2 a3
def d_ (a0 : List Int) (a1 : Int) (a2 : Int) (a3 : Int) : Option (List Int):=bP 64 a0 a1 a2 a3
theorem lH (a0 : List Int) (a1 : Int) (a2 : Int) (a3 : Int) : Lo (d_ a0 a1 a2 a3) (cV a0 a1 a2 a3):=by
 unfold d_ cV
 repeat' (first | with_reducible refine fq _ _ _ _ _ | with_reducible refine ad ?_ ?_ ?_ ?_ ?_ | with_reducible refine ab ?_ ?_ ?_ ?_ | with_reducible refine ae ?_ ?_ ?_ | with_reducible refine ag ?_ ?_ | with_reducible refine ai ?_ ?_ | with_reducible refine aa ?_ _ | (intro _) | with_reducible exact aj _ | exact ah | (dsimp only))
def fd (x : List Int) : Option (List Int) :=
 (nC (IntKind.u64.wrap (x.length : Int))).bind fun x1 =>
 (d_ x 0 (x.length : Int) x1).bind fun x2 =>
 some x2
theorem m9 (x : List Int) : Lo (fd x) (en x):=by
 unfold fd en
 repeat' (first | with_reducible exact sX _ | with_reducible exact lH _ _ _ _ | with_reducible refine ad ?_ ?_ ?_ ?_ ?_ | with_reducible refine ab ?_ ?_ ?_ ?_ | with_reducible refine ae ?_ ?_ ?_ | with_reducible refine ag ?_ ?_ | with_reducible refine ai ?_ ?_ | with_reducible refine aa ?_ _ | (intro _) | with_reducible exact aj _ | exact ah | (dsimp only))
def jc (s : State) (t2 : State) (t3 : List Int × Int) : Option ((List Int × Int) ⊕ List Int) :=
 bif decide (t3.2 < (s.Conts.length : Int)) then
 (
  (idx s.Conts t3.2).bind fun x5 =>
  (lT t2.Conts (fun a' => jI a'.1 x5)).bind fun x6 =>
  bif ! x6 then
  (app 8 t3.1 [x5.Id]).bind fun l =>
  some l
  else
  some t3.1).bind fun gone =>
 some (.inl (gone,w64 (t3.2 + 1)))
 else
 some (.inr t3.1)
theorem rr (s : State) (t2 : State) (t3 : List Int × Int) : Lo (jc s t2 t3) (ko s t2 t3):=by
 unfold jc ko
 repeat' (first | with_reducible refine uj _ _ _ ?_ | with_reducible exact rC _ _ | with_reducible refine ad ?_ ?_ ?_ ?_ ?_ | with_reducible refine ab ?_ ?_ ?_ ?_ | with_reducible refine ae ?_ ?_ ?_ | with_reducible refine ag ?_ ?_ | with_reducible refine ai ?_ ?_ | with_reducible refine aa ?_ _ | (intro _) | with_reducible exact aj _ | exact ah | (dsimp only))
def ji (x1 : State) (x2 : List Int) (t1 : Int) : Option (Int ⊕ Unit) :=
 bif decide (t1 < (x2.length : Int)) then
 (inb t1 x2.length).bind fun i =>
 (x2[i]?).bind fun x3 =>
 (iw x1.Conts (fun a' => jO a'.1 x3)).bind fun i1 =>
 (idx x1.Conts i1).bind fun x4 =>
 none
 else
 some (.inr ())
theorem rq (x1 : State) (x2 : List Int) (t1 : Int) : Lo (ji x1 x2 t1) (kz x1 x2 t1):=by
 unfold ji kz
 repeat' (first | with_reducible refine nL _ _ _ ?_ | with_reducible exact sn _ _ | with_reducible refine ad ?_ ?_ ?_ ?_ ?_ | with_reducible refine ab ?_ ?_ ?_ ?_ | with_reducible refine ae ?_ ?_ ?_ | with_reducible refine ag ?_ ?_ | with_reducible refine ai ?_ ?_ | with_reducible refine aa ?_ _ | (intro _) | with_reducible exact aj _ | exact ah | (dsimp only))
def jh (s : State) (t : State × Int) : Option ((State × Int) ⊕ State) :=
 bif decide (t.2 < (s.Conf.Labels.length : Int)) then
 (me t.1 t.2).bind fun x1 =>
 (gH x1 t.2).bind fun x2 =>
 (itr 4096 (ji x1 x2) 0).bind fun _ =>
 some (.inl (x1,w64 (t.2 + 1)))
 else
 some (.inr t.1)
theorem rj (s : State) (t : State × Int) : Lo (jh s t) (kh s t):=by
 unfold jh kh
 repeat' (first | with_reducible exact uE _ _ | with_reducible exact oW _ _ | with_reducible exact rq _ _ _ | with_reducible refine ad ?_ ?_ ?_ ?_ ?_ | with_reducible refine ab ?_ ?_ ?_ ?_ | with_reducible refine ae ?_ ?_ ?_ | with_reducible refine ag ?_ ?_ | with_reducible refine ai ?_ ?_ | with_reducible refine aa ?_ _ | (intro _) | with_reducible exact aj _ | exact ah | (dsimp only))
def kS (s : State) : Option (State × List Int) :=
 (pF s []).bind fun x =>
 (itr 4096 (jh s) (x,0)).bind fun t2 =>
 (itr 4096 (jc s t2) ([],0)).bind fun gone1 =>
 (fd gone1).bind fun x7 =>
 some (t2,x7)
theorem tA (s : State) : Lo (kS s) (j8 s):=by
 unfold kS j8
 repeat' (first | with_reducible exact xa _ _ | with_reducible exact rj _ _ | with_reducible exact rr _ _ _ | with_reducible exact m9 _ | with_reducible refine ad ?_ ?_ ?_ ?_ ?_ | with_reducible refine ab ?_ ?_ ?_ ?_ | with_reducible refine ae ?_ ?_ ?_ | with_reducible refine ag ?_ ?_ | with_reducible refine ai ?_ ?_ | with_reducible refine aa ?_ _ | (intro _) | with_reducible exact aj _ | exact ah | (dsimp only))
def gc (x2 : Queue) (x3 : Queue) (k : Int) : Option (Int ⊕ (Bool ⊕ Unit)) :=
 bif decide (k < (x2.Caps.length : Int)) then
 (idx x2.Caps k).bind fun x4 =>
 (idx x3.Caps k).bind fun x5 =>
 bif ! ((x4.Least == x5.Least) && (x4.Most == x5.Most)) then
  some (.inr (.inl false))
 else
  some (.inl (w64 (k + 1)))
 else
 some (.inr (.inr ()))
theorem oM (x2 : Queue) (x3 : Queue) (k : Int) : Lo (gc x2 x3 k) (h_ x2 x3 k):=by
 unfold gc h_
 repeat' (first | with_reducible refine ad ?_ ?_ ?_ ?_ ?_ | with_reducible refine ab ?_ ?_ ?_ ?_ | with_reducible refine ae ?_ ?_ ?_ | with_reducible refine ag ?_ ?_ | with_reducible refine ai ?_ ?_ | with_reducible refine aa ?_ _ | (intro _) | with_reducible exact aj _ | exact ah | (dsimp only))
def gh (a : Conf) (b : Conf) (i1 : Int) : Option (Int ⊕ (Bool ⊕ Unit)) :=
 bif decide (i1 < (a.Queues.length : Int)) then
 (idx a.Queues i1).bind fun x2 =>
 (idx b.Queues i1).bind fun x3 =>
 (
  bif ! (x2.Path == x3.Path) then
  some true
  else
  bif x2.User != x3.User then
   some true
  else
   some ((x2.Caps.length : Int) != (x3.Caps.length : Int))).bind fun q2 =>
 bif q2 then
  some (.inr (.inl false))
 else
  (itr 4096 (gc x2 x3) 0).bind fun q0 =>
  match q0 with
  | .inl q3 =>
  some (.inr (.inl q3))
  | .inr _ =>
  some (.inl (w64 (i1 + 1)))
 else
 some (.inr (.inr ()))
theorem oR (a : Conf) (b : Conf) (i1 : Int) : Lo (gh a b i1) (hG a b i1):=by
 unfold gh hG
 repeat' (first | with_reducible exact oM _ _ _ | with_reducible refine ad ?_ ?_ ?_ ?_ ?_ | with_reducible refine ab ?_ ?_ ?_ ?_ | with_reducible refine ae ?_ ?_ ?_ | with_reducible refine ag ?_ ?_ | with_reducible refine ai ?_ ?_ | with_reducible refine aa ?_ _ | (intro _) | with_reducible exact aj _ | exact ah | (dsimp only))
def gb (a : Conf) (b : Conf) (i : Int) : Option (Int ⊕ (Bool ⊕ Unit)) :=
 bif decide (i < (a.Labels.length : Int)) then
 (idx a.Labels i).bind fun x =>
 (idx b.Labels i).bind fun x1 =>
 bif ! (x == x1) then
  some (.inr (.inl false))
 else
  some (.inl (w64 (i + 1)))
 else
 some (.inr (.inr ()))
theorem oO (a : Conf) (b : Conf) (i : Int) : Lo (gb a b i) (hJ a b i):=by
 unfold gb hJ
 repeat' (first | with_reducible refine ad ?_ ?_ ?_ ?_ ?_ | with_reducible refine ab ?_ ?_ ?_ ?_ | with_reducible refine ae ?_ ?_ ?_ | with_reducible refine ag ?_ ?_ | with_reducible refine ai ?_ ?_ | with_reducible refine aa ?_ _ | (intro _) | with_reducible exact aj _ | exact ah | (dsimp only))
def iC (a : Conf) (b : Conf) : Option Bool :=
 (
 bif (a.Labels.length : Int) != (b.Labels.length : Int) then
  some true
 else
  some ((a.Queues.length : Int) != (b.Queues.length : Int))).bind fun q =>
 bif q then
 some false
 else
 (itr 4096 (gb a b) 0).bind fun q0 =>
 match q0 with
 | .inl q1 =>
  some q1
 | .inr _ =>
  (itr 4096 (gh a b) 0).bind fun q0 =>
  match q0 with
  | .inl q4 =>
  some q4
  | .inr _ =>
  some true
theorem qG (a : Conf) (b : Conf) : Lo (iC a b) (gp a b):=by
 unfold iC gp
 repeat' (first | with_reducible exact oO _ _ _ | with_reducible exact oR _ _ _ | with_reducible refine ad ?_ ?_ ?_ ?_ ?_ | with_reducible refine ab ?_ ?_ ?_ ?_ | with_reducible refine ae ?_ ?_ ?_ | with_reducible refine ag ?_ ?_ | with_reducible refine ai ?_ ?_ | with_reducible refine aa ?_ _ | (intro _) | with_reducible exact aj _ | exact ah | (dsimp only))
def fx (a : List Int) (b : List Int) (i : Int) : Option (Int ⊕ (Bool ⊕ Unit)) :=
 bif decide (i < (a.length : Int)) then
 (idx a i).bind fun x =>
 (idx b i).bind fun x1 =>
 bif x != x1 then
  some (.inr (.inl false))
 else
  some (.inl (w64 (i + 1)))
 else
 some (.inr (.inr ()))
theorem nO (a : List Int) (b : List Int) (i : Int) : Lo (fx a b i) (gE a b i):=by
 unfold fx gE
 repeat' (first | with_reducible refine ad ?_ ?_ ?_ ?_ ?_ | with_reducible refine ab ?_ ?_ ?_ ?_ | with_reducible refine ae ?_ ?_ ?_ | with_reducible refine ag ?_ ?_ | with_reducible refine ai ?_ ?_ | with_reducible refine aa ?_ _ | (intro _) | with_reducible exact aj _ | exact ah | (dsimp only))
def cu (a : List Int) (b : List Int) : Option Bool :=
 bif (a.length : Int) != (b.length : Int) then
 some false
 else
 (itr 4096 (fx a b) 0).bind fun q0 =>
 match q0 with
 | .inl q =>
  some q
 | .inr _ =>
  some true
theorem pT (a : List Int) (b : List Int) : Lo (cu a b) (ce a b):=by
 unfold cu ce
 repeat' (first | with_reducible exact nO _ _ _ | with_reducible refine ad ?_ ?_ ?_ ?_ ?_ | with_reducible refine ab ?_ ?_ ?_ ?_ | with_reducible refine ae ?_ ?_ ?_ | with_reducible refine ag ?_ ?_ | with_reducible refine ai ?_ ?_ | with_reducible refine aa ?_ _ | (intro _) | with_reducible exact aj _ | exact ah | (dsimp only))
def fZ (a : App) (b : App) (i : Int) : Option (Int ⊕ (Bool ⊕ Unit)) :=
 bif decide (i < (a.Asks.length : Int)) then
 (idx a.Asks i).bind fun x =>
 (idx b.Asks i).bind fun x1 =>
 bif ! ((x.Prio == x1.Prio) && ((x.Label == x1.Label) && (((x.Size.Mem == x1.Size.Mem) && (x.Size.Cores == x1.Size.Cores)) && ((x.Count == x1.Count) && ((x.Node == x1.Node) && ((x.Rack == x1.Rack) && (x.Missed == x1.Missed))))))) then
  some (.inr (.inl false))
 else
  some (.inl (w64 (i + 1)))
 else
 some (.inr (.inr ()))
theorem oP (a : App) (b : App) (i : Int) : Lo (fZ a b i) (gV a b i):=by
 unfold fZ gV
 repeat' (first | with_reducible refine ad ?_ ?_ ?_ ?_ ?_ | with_reducible refine ab ?_ ?_ ?_ ?_ | with_reducible refine ae ?_ ?_ ?_ | with_reducible refine ag ?_ ?_ | with_reducible refine ai ?_ ?_ | with_reducible refine aa ?_ _ | (intro _) | with_reducible exact aj _ | exact ah | (dsimp only))
def iG (a : App) (b : App) : Option Bool :=
 (
 bif a.Id != b.Id then
  some true
 else
  bif a.State != b.State then
  some true
  else
  bif ! (a.Queue == b.Queue) then
   some true
  else
   bif a.User != b.User then
   some true
   else
   bif a.Prio != b.Prio then
    some true
   else
    bif ! ((a.Master.Mem == b.Master.Mem) && (a.Master.Cores == b.Master.Cores)) then
    some true
    else
    bif a.Seen != b.Seen then
     some true
    else
     bif a.Beat != b.Beat then
     some true
     else
     some ((a.Asks.length : Int) != (b.Asks.length : Int))).bind fun q =>
 bif q then
 some false
 else
 (itr 4096 (fZ a b) 0).bind fun q0 =>
 match q0 with
 | .inl q1 =>
  some q1
 | .inr _ =>
  (cu a.Grants b.Grants).bind fun x2 =>
  bif x2 then
  (cu a.Kills b.Kills).bind fun x3 =>
  bif x3 then
   (cu a.Told b.Told).bind fun x4 =>
   bif x4 then
   (cu a.Lost b.Lost).bind fun x5 =>
   some x5
   else
   some false
  else
   some false
  else
  some false
theorem qK (a : App) (b : App) : Lo (iG a b) (gk a b):=by
 unfold iG gk
 repeat' (first | with_reducible exact oP _ _ _ | with_reducible exact pT _ _ | with_reducible refine ad ?_ ?_ ?_ ?_ ?_ | with_reducible refine ab ?_ ?_ ?_ ?_ | with_reducible refine ae ?_ ?_ ?_ | with_reducible refine ag ?_ ?_ | with_reducible refine ai ?_ ?_ | with_reducible refine aa ?_ _ | (intro _) | with_reducible exact aj _ | exact ah | (dsimp only))
def fF (a : State) (b : State) (t4 : Bool × Int) : Option ((Bool × Int) ⊕ Bool) :=
 bif decide (t4.2 < (a.Plans.length : Int)) then
 (
  bif t4.1 then
  (idx a.Plans t4.2).bind fun x10 =>
  (idx b.Plans t4.2).bind fun x11 =>
  let ok11:=(x10.Id == x11.Id) && ((x10.Label == x11.Label) && ((x10.From == x11.From) && ((x10.Until == x11.Until) && ((x10.Need.Mem == x11.Need.Mem) && (x10.Need.Cores == x11.Need.Cores)))))
  some ok11
  else
  some false).bind fun ok12 =>
 some (.inl (ok12,w64 (t4.2 + 1)))
 else
 some (.inr t4.1)
theorem oh (a : State) (b : State) (t4 : Bool × Int) : Lo (fF a b t4) (gS a b t4):=by
 unfold fF gS
 repeat' (first | with_reducible refine ad ?_ ?_ ?_ ?_ ?_ | with_reducible refine ab ?_ ?_ ?_ ?_ | with_reducible refine ae ?_ ?_ ?_ | with_reducible refine ag ?_ ?_ | with_reducible refine ai ?_ ?_ | with_reducible refine aa ?_ _ | (intro _) | with_reducible exact aj _ | exact ah | (dsimp only))
def fD (a : State) (b : State) (t3 : Bool × Int) : Option ((Bool × Int) ⊕ Bool) :=
 bif decide (t3.2 < (a.Slots.length : Int)) then
 (
  bif t3.1 then
  (idx a.Slots t3.2).bind fun x8 =>
  (idx b.Slots t3.2).bind fun x9 =>
  let ok8:=(x8.Node == x9.Node) && ((x8.App == x9.App) && (x8.Prio == x9.Prio))
  some ok8
  else
  some false).bind fun ok9 =>
 some (.inl (ok9,w64 (t3.2 + 1)))
 else
 some (.inr t3.1)
theorem nK (a : State) (b : State) (t3 : Bool × Int) : Lo (fD a b t3) (gJ a b t3):=by
 unfold fD gJ
 repeat' (first | with_reducible refine ad ?_ ?_ ?_ ?_ ?_ | with_reducible refine ab ?_ ?_ ?_ ?_ | with_reducible refine ae ?_ ?_ ?_ | with_reducible refine ag ?_ ?_ | with_reducible refine ai ?_ ?_ | with_reducible refine aa ?_ _ | (intro _) | with_reducible exact aj _ | exact ah | (dsimp only))
def fr (a : State) (b : State) (t2 : Bool × Int) : Option ((Bool × Int) ⊕ Bool) :=
 bif decide (t2.2 < (a.Conts.length : Int)) then
 (
  bif t2.1 then
  (idx a.Conts t2.2).bind fun x6 =>
  (idx b.Conts t2.2).bind fun x7 =>
  let ok5:=(x6.Id == x7.Id) && ((x6.App == x7.App) && ((x6.Node == x7.Node) && (((x6.Size.Mem == x7.Size.Mem) && (x6.Size.Cores == x7.Size.Cores)) && ((x6.Prio == x7.Prio) && ((x6.Label == x7.Label) && ((x6.Master == x7.Master) && (x6.Notice == x7.Notice)))))))
  some ok5
  else
  some false).bind fun ok6 =>
 some (.inl (ok6,w64 (t2.2 + 1)))
 else
 some (.inr t2.1)
theorem oD (a : State) (b : State) (t2 : Bool × Int) : Lo (fr a b t2) (gC a b t2):=by
 unfold fr gC
 repeat' (first | with_reducible refine ad ?_ ?_ ?_ ?_ ?_ | with_reducible refine ab ?_ ?_ ?_ ?_ | with_reducible refine ae ?_ ?_ ?_ | with_reducible refine ag ?_ ?_ | with_reducible refine ai ?_ ?_ | with_reducible refine aa ?_ _ | (intro _) | with_reducible exact aj _ | exact ah | (dsimp only))
def fu (a : State) (b : State) (t1 : Bool × Int) : Option ((Bool × Int) ⊕ Bool) :=
 bif decide (t1.2 < (a.Apps.length : Int)) then
 (
  bif t1.1 then
  (idx a.Apps t1.2).bind fun x3 =>
  (idx b.Apps t1.2).bind fun x4 =>
  (iG x3 x4).bind fun x5 =>
  some x5
  else
  some false).bind fun ok3 =>
 some (.inl (ok3,w64 (t1.2 + 1)))
 else
 some (.inr t1.1)
theorem oi (a : State) (b : State) (t1 : Bool × Int) : Lo (fu a b t1) (gy a b t1):=by
 unfold fu gy
 repeat' (first | with_reducible exact qK _ _ | with_reducible refine ad ?_ ?_ ?_ ?_ ?_ | with_reducible refine ab ?_ ?_ ?_ ?_ | with_reducible refine ae ?_ ?_ ?_ | with_reducible refine ag ?_ ?_ | with_reducible refine ai ?_ ?_ | with_reducible refine aa ?_ _ | (intro _) | with_reducible exact aj _ | exact ah | (dsimp only))
def fE (a : State) (b : State) (t : Bool × Int) : Option ((Bool × Int) ⊕ Bool) :=
 bif decide (t.2 < (a.Nodes.length : Int)) then
 (
  bif t.1 then
  (idx a.Nodes t.2).bind fun x1 =>
  (idx b.Nodes t.2).bind fun x2 =>
  let ok:=(x1.Id == x2.Id) && ((x1.Label == x2.Label) && ((x1.Rack == x2.Rack) && (((x1.Cap.Mem == x2.Cap.Mem) && (x1.Cap.Cores == x2.Cap.Cores)) && ((x1.Seen == x2.Seen) && ((x1.Beat == x2.Beat) && (x1.Up == x2.Up))))))
  some ok
  else
  some false).bind fun ok1 =>
 some (.inl (ok1,w64 (t.2 + 1)))
 else
 some (.inr t.1)
theorem nS (a : State) (b : State) (t : Bool × Int) : Lo (fE a b t) (gG a b t):=by
 unfold fE gG
 repeat' (first | with_reducible refine ad ?_ ?_ ?_ ?_ ?_ | with_reducible refine ab ?_ ?_ ?_ ?_ | with_reducible refine ae ?_ ?_ ?_ | with_reducible refine ag ?_ ?_ | with_reducible refine ai ?_ ?_ | with_reducible refine aa ?_ _ | (intro _) | with_reducible exact aj _ | exact ah | (dsimp only))
def g3 (a : State) (b : State) : Option Bool :=
 (
 (iC a.Conf b.Conf).bind fun x =>
 bif ! x then
  some true
 else
  bif a.Now != b.Now then
  some true
  else
  bif a.Epoch != b.Epoch then
   some true
  else
   bif a.Seq != b.Seq then
   some true
   else
   bif (a.Nodes.length : Int) != (b.Nodes.length : Int) then
    some true
   else
    bif (a.Apps.length : Int) != (b.Apps.length : Int) then
    some true
    else
    bif (a.Conts.length : Int) != (b.Conts.length : Int) then
     some true
    else
     bif (a.Slots.length : Int) != (b.Slots.length : Int) then
     some true
     else
     some ((a.Plans.length : Int) != (b.Plans.length : Int))).bind fun q =>
 bif q then
 some false
 else
 (itr 4096 (fE a b) (true,0)).bind fun ok2 =>
 (itr 4096 (fu a b) (ok2,0)).bind fun ok4 =>
 (itr 4096 (fr a b) (ok4,0)).bind fun ok7 =>
 (itr 4096 (fD a b) (ok7,0)).bind fun ok10 =>
 (itr 4096 (fF a b) (ok10,0)).bind fun ok13 =>
 some ok13
theorem qp (a : State) (b : State) : Lo (g3 a b) (fO a b):=by
 unfold g3 fO
 repeat' (first | with_reducible exact qG _ _ | with_reducible exact nS _ _ _ | with_reducible exact oi _ _ _ | with_reducible exact oD _ _ _ | with_reducible exact nK _ _ _ | with_reducible exact oh _ _ _ | with_reducible refine ad ?_ ?_ ?_ ?_ ?_ | with_reducible refine ab ?_ ?_ ?_ ?_ | with_reducible refine ae ?_ ?_ ?_ | with_reducible refine ag ?_ ?_ | with_reducible refine ai ?_ ?_ | with_reducible refine aa ?_ _ | (intro _) | with_reducible exact aj _ | exact ah | (dsimp only))
def fj : Option State :=
 some (⟨⟨[([] : List UInt8)],[(⟨([114,111,111,116] : List UInt8),[(⟨10000,10000⟩ : Cap)],10000⟩ : Queue)]⟩,[],[],[],[],[],0,0,0⟩ : State)
theorem kX : Lo (fj) (eK):=by
 unfold fj eK
 repeat' (first | with_reducible refine ad ?_ ?_ ?_ ?_ ?_ | with_reducible refine ab ?_ ?_ ?_ ?_ | with_reducible refine ae ?_ ?_ ?_ | with_reducible refine ag ?_ ?_ | with_reducible refine ai ?_ ?_ | with_reducible refine aa ?_ _ | (intro _) | with_reducible exact aj _ | exact ah | (dsimp only))
def gr : Option Bool :=
 (fj).bind fun x =>
 (kS x).bind fun x1 =>
 (g3 x x1.1).bind fun x2 =>
 bif x2 then
 bif (x1.2.length : Int) == 0 then
  (gH x 0).bind fun x3 =>
  bif (x3.length : Int) == 0 then
  some ((x1.1.Conf.Queues.length : Int) == 1)
  else
  some false
 else
  some false
 else
 some false
theorem pI : Lo (gr) (dY):=by
 unfold gr dY
 repeat' (first | with_reducible exact kX  | with_reducible exact tA _ | with_reducible exact qp _ _ | with_reducible exact oW _ _ | with_reducible refine ad ?_ ?_ ?_ ?_ ?_ | with_reducible refine ab ?_ ?_ ?_ ?_ | with_reducible refine ae ?_ ?_ ?_ | with_reducible refine ag ?_ ?_ | with_reducible refine ai ?_ ?_ | with_reducible refine aa ?_ _ | (intro _) | with_reducible exact aj _ | exact ah | (dsimp only))
def iB (a : Vec) (b : Vec) : Option Vec :=
 some (⟨w64 (a.Mem + b.Mem),w64 (a.Cores + b.Cores)⟩ : Vec)
theorem qs (a : Vec) (b : Vec) : Lo (iB a b) (gq a b):=by
 unfold iB gq
 repeat' (first | with_reducible refine ad ?_ ?_ ?_ ?_ ?_ | with_reducible refine ab ?_ ?_ ?_ ?_ | with_reducible refine ae ?_ ?_ ?_ | with_reducible refine ag ?_ ?_ | with_reducible refine ai ?_ ?_ | with_reducible refine aa ?_ _ | (intro _) | with_reducible exact aj _ | exact ah | (dsimp only))
def fG (s : State) (label : Int) (t : Vec × Int) : Option ((Vec × Int) ⊕ Vec) :=
 bif decide (t.2 < (s.Nodes.length : Int)) then
 (
  (
  (idx s.Nodes t.2).bind fun x =>
  bif x.Up then
   (idx s.Nodes t.2).bind fun x1 =>
   some (x1.Label == label)
  else
   some false).bind fun q =>
  bif q then
  (idx s.Nodes t.2).bind fun x2 =>
  (iB t.1 x2.Cap).bind fun x3 =>
  some x3
  else
  some t.1).bind fun v =>
 some (.inl (v,w64 (t.2 + 1)))
 else
 some (.inr t.1)
theorem nY (s : State) (label : Int) (t : Vec × Int) : Lo (fG s label t) (gO s label t):=by
 unfold fG gO
 repeat' (first | with_reducible exact qs _ _ | with_reducible refine ad ?_ ?_ ?_ ?_ ?_ | with_reducible refine ab ?_ ?_ ?_ ?_ | with_reducible refine ae ?_ ?_ ?_ | with_reducible refine ag ?_ ?_ | with_reducible refine ai ?_ ?_ | with_reducible refine aa ?_ _ | (intro _) | with_reducible exact aj _ | exact ah | (dsimp only))
def gT (s : State) (label : Int) : Option Vec :=
 (itr 4096 (fG s label) ((⟨0,0⟩ : Vec),0)).bind fun v1 =>
 some v1
theorem p_ (s : State) (label : Int) : Lo (gT s label) (b9 s label):=by
 unfold gT b9
 repeat' (first | with_reducible exact nY _ _ _ | with_reducible refine ad ?_ ?_ ?_ ?_ ?_ | with_reducible refine ab ?_ ?_ ?_ ?_ | with_reducible refine ae ?_ ?_ ?_ | with_reducible refine ag ?_ ?_ | with_reducible refine ai ?_ ?_ | with_reducible refine aa ?_ _ | (intro _) | with_reducible exact aj _ | exact ah | (dsimp only))
def gd (c : Conf) (path : List UInt8) (t : Queue × Int) : Option ((Queue × Int) ⊕ ((Queue × Bool) ⊕ Queue)) :=
 bif decide (t.2 < (c.Queues.length : Int)) then
 (idx c.Queues t.2).bind fun x =>
 bif x.Path == path then
  (idx c.Queues t.2).bind fun x1 =>
  (app 16 [] x1.Caps).bind fun l =>
  some (.inr (.inl ((⟨x1.Path,l,x1.User⟩ : Queue),true)))
 else
  some (.inl (t.1,w64 (t.2 + 1)))
 else
 some (.inr (.inr (t.1)))
theorem oT (c : Conf) (path : List UInt8) (t : Queue × Int) : Lo (gd c path t) (hF c path t):=by
 unfold gd hF
 repeat' (first | with_reducible refine ad ?_ ?_ ?_ ?_ ?_ | with_reducible refine ab ?_ ?_ ?_ ?_ | with_reducible refine ae ?_ ?_ ?_ | with_reducible refine ag ?_ ?_ | with_reducible refine ai ?_ ?_ | with_reducible refine aa ?_ _ | (intro _) | with_reducible exact aj _ | exact ah | (dsimp only))
def fm (c : Conf) (path : List UInt8) : Option (Queue × Bool) :=
 (itr 4096 (gd c path) ((⟨[],[],0⟩ : Queue),0)).bind fun q0 =>
 match q0 with
 | .inl q =>
 some (q.1,q.2)
 | .inr q1 =>
 some ((⟨[],[],0⟩ : Queue),false)
theorem qS (c : Conf) (path : List UInt8) : Lo (fm c path) (cz c path):=by
 unfold fm cz
 repeat' (first | with_reducible exact oT _ _ _ | with_reducible refine ad ?_ ?_ ?_ ?_ ?_ | with_reducible refine ab ?_ ?_ ?_ ?_ | with_reducible refine ae ?_ ?_ ?_ | with_reducible refine ag ?_ ?_ | with_reducible refine ai ?_ ?_ | with_reducible refine aa ?_ _ | (intro _) | with_reducible exact aj _ | exact ah | (dsimp only))
def fw (path : List UInt8) (k1 : Int) : Option (Int ⊕ Int) :=
 (
 bif decide (k1 ≥ 0) then
  (idx path k1).bind fun ch =>
  some ((ch.toNat : Int) != 46)
 else
  some false).bind fun q =>
 bif q then
 some (.inl (w64 (k1 - 1)))
 else
 some (.inr k1)
theorem ou (path : List UInt8) (k1 : Int) : Lo (fw path k1) (gz path k1):=by
 unfold fw gz
 repeat' (first | with_reducible refine ad ?_ ?_ ?_ ?_ ?_ | with_reducible refine ab ?_ ?_ ?_ ?_ | with_reducible refine ae ?_ ?_ ?_ | with_reducible refine ag ?_ ?_ | with_reducible refine ai ?_ ?_ | with_reducible refine aa ?_ _ | (intro _) | with_reducible exact aj _ | exact ah | (dsimp only))
def g_ (path : List UInt8) : Option (List UInt8) :=
 let k:=w64 ((path.length : Int) - 1)
 (itr 4096 (fw path) k).bind fun k2 =>
 bif decide (k2 < 0) then
 some ([] : List UInt8)
 else
 (slc path 0 k2).bind fun s =>
 some s
theorem qa (path : List UInt8) : Lo (g_ path) (fT path):=by
 unfold g_ fT
 repeat' (first | with_reducible exact ou _ _ | with_reducible refine ad ?_ ?_ ?_ ?_ ?_ | with_reducible refine ab ?_ ?_ ?_ ?_ | with_reducible refine ae ?_ ?_ ?_ | with_reducible refine ag ?_ ?_ | with_reducible refine ai ?_ ?_ | with_reducible refine aa ?_ _ | (intro _) | with_reducible exact aj _ | exact ah | (dsimp only))
def gX (t : List UInt8 × List (List UInt8)) : Option ((List UInt8 × List (List UInt8)) ⊕ List (List UInt8)) :=
 bif ! (t.1 == ([] : List UInt8)) then
 (app 16 t.2 [t.1]).bind fun l =>
 (g_ t.1).bind fun path1 =>
 some (.inl (path1,l))
 else
 some (.inr t.2)
theorem p9 (t : List UInt8 × List (List UInt8)) : Lo (gX t) (jb t):=by
 unfold gX jb
 repeat' (first | with_reducible exact qa _ | with_reducible refine ad ?_ ?_ ?_ ?_ ?_ | with_reducible refine ab ?_ ?_ ?_ ?_ | with_reducible refine ae ?_ ?_ ?_ | with_reducible refine ag ?_ ?_ | with_reducible refine ai ?_ ?_ | with_reducible refine aa ?_ _ | (intro _) | with_reducible exact aj _ | exact ah | (dsimp only))
def jC (path : List UInt8) : Option (List (List UInt8)) :=
 (itr 4096 gX (path,[])).bind fun l1 =>
 some l1
theorem rT (path : List UInt8) : Lo (jC path) (ez path):=by
 unfold jC ez
 repeat' (first | with_reducible exact p9 _ | with_reducible refine ad ?_ ?_ ?_ ?_ ?_ | with_reducible refine ab ?_ ?_ ?_ ?_ | with_reducible refine ae ?_ ?_ ?_ | with_reducible refine ag ?_ ?_ | with_reducible refine ai ?_ ?_ | with_reducible refine aa ?_ _ | (intro _) | with_reducible exact aj _ | exact ah | (dsimp only))
def lJ (n : Int) : Option Bool :=
 bif decide (n ≥ 0) then
 some (decide (n ≤ 1125899906842624))
 else
 some false
def mE (a : Vec) : Option Bool :=
 (lJ a.Mem).bind fun x =>
 bif x then
 (lJ a.Cores).bind fun x1 =>
 some x1
 else
 some false
def lE (n : Int) (bp : Int) : Option Int :=
 some (w64 ((w64 ((w64 (Int.tdiv n 10000)) * bp)) + (w64 (Int.tdiv (w64 ((Int.tmod n 10000) * bp)) 10000))))
def qJ (a : Vec) (bp : Int) : Option (Vec × Int) :=
 (
 (mE a).bind fun x =>
 bif ! x then
  some true
 else
  bif decide (bp < 0) then
  some true
  else
  some (decide (bp > 1000000))).bind fun q =>
 bif q then
 some ((⟨0,0⟩ : Vec),1)
 else
 (lE a.Mem bp).bind fun x1 =>
 (lE a.Cores bp).bind fun x2 =>
 (mE (⟨x1,x2⟩ : Vec)).bind fun x3 =>
 bif ! x3 then
  some ((⟨0,0⟩ : Vec),11)
 else
  some ((⟨x1,x2⟩ : Vec),0)
def pN (s : State) (label : Int) (least : Bool) (up : List (List UInt8)) (t : Vec × Int) : Option ((Vec × Int) ⊕ Vec) :=
 bif decide (t.2 ≥ 0) then
 (inb t.2 up.length).bind fun i1 =>
 (up[i1]?).bind fun x2 =>
 (fm s.Conf x2).bind fun x3 =>
 (inb label x3.1.Caps.length).bind fun i2 =>
 (x3.1.Caps[i2]?).bind fun x4 =>
 (
  bif least then
  (inb label x3.1.Caps.length).bind fun i3 =>
  (x3.1.Caps[i3]?).bind fun x5 =>
  some x5.Least
  else
  some x4.Most).bind fun bp =>
 (qJ t.1 bp).bind fun x6 =>
 some (.inl (x6.1,w64 (t.2 - 1)))
 else
 some (.inr t.1)
def ro (s : State) (path : List UInt8) (label : Int) (least : Bool) : Option Vec :=
 (fm s.Conf path).bind fun x =>
 (
 bif ! x.2 then
  some true
 else
  bif decide (label < 0) then
  some true
  else
  some (decide (label ≥ (s.Conf.Labels.length : Int)))).bind fun q =>
 bif q then
 some (⟨0,0⟩ : Vec)
 else
 (gT s label).bind fun x1 =>
 (jC path).bind fun up =>
 let i:=w64 ((up.length : Int) - 2)
 (itr 4096 (pN s label least up) (x1,i)).bind fun v =>
 some v
def qO (s : State) (path : List UInt8) (label : Int) : Option Vec :=
 (ro s path label true).bind fun x =>
 some x
def gi (at_ : Int) (n : Int) : Option Int :=
 (nz n).bind fun _ =>
 (
 bif decide ((Int.tmod at_ n) < 0) then
  let k:=w64 ((Int.tmod at_ n) + n)
  some k
 else
  some (Int.tmod at_ n)).bind fun k1 =>
 some k1
def f_ (units : Int) (t : State × Int) : Option ((State × Int) ⊕ State) :=
 bif decide (t.2 < units) then
 (app 72 t.1.Conts [(⟨t.2,1,1,⟨1,1⟩,0,0,t.2 == 1,0⟩ : Cont)]).bind fun l1 =>
 some (.inl ((⟨⟨t.1.Conf.Labels,t.1.Conf.Queues⟩,t.1.Nodes,t.1.Apps,l1,t.1.Slots,t.1.Plans,t.1.Now,t.1.Epoch,t.1.Seq⟩ : State),w64 (t.2 + 1)))
 else
 some (.inr t.1)
theorem oS (units : Int) (t : State × Int) : Lo (f_ units t) (hS units t):=by
 unfold f_ hS
 repeat' (first | with_reducible refine ad ?_ ?_ ?_ ?_ ?_ | with_reducible refine ab ?_ ?_ ?_ ?_ | with_reducible refine ae ?_ ?_ ?_ | with_reducible refine ag ?_ ?_ | with_reducible refine ai ?_ ?_ | with_reducible refine aa ?_ _ | (intro _) | with_reducible exact aj _ | exact ah | (dsimp only))
def ap (units : Int) (wants : Int) (least : Int) : Option State :=
 (fj).bind fun x =>
 (app 48 x.Conf.Queues [(⟨([114,111,111,116,46,97] : List UInt8),[(⟨w64 (10000 - least),10000⟩ : Cap)],1000000⟩ : Queue),(⟨([114,111,111,116,46,98] : List UInt8),[(⟨least,10000⟩ : Cap)],1000000⟩ : Queue)]).bind fun l =>
 (
 bif decide (wants > 0) then
  (inb 1 [(⟨1,2,([114,111,111,116,46,97] : List UInt8),0,0,⟨1,1⟩,[],10,0,[],[],[],[]⟩ : App),(⟨2,2,([114,111,111,116,46,98] : List UInt8),0,0,⟨1,1⟩,[],10,0,[],[],[],[]⟩ : App)].length).bind fun i =>
  ([(⟨1,2,([114,111,111,116,46,97] : List UInt8),0,0,⟨1,1⟩,[],10,0,[],[],[],[]⟩ : App),(⟨2,2,([114,111,111,116,46,98] : List UInt8),0,0,⟨1,1⟩,[],10,0,[],[],[],[]⟩ : App)][i]?).bind fun x1 =>
  some (⟨⟨x.Conf.Labels,l⟩,[(⟨1,0,0,⟨units,units⟩,10,0,true⟩ : Node)],List.set [(⟨1,2,([114,111,111,116,46,97] : List UInt8),0,0,⟨1,1⟩,[],10,0,[],[],[],[]⟩ : App),(⟨2,2,([114,111,111,116,46,98] : List UInt8),0,0,⟨1,1⟩,[],10,0,[],[],[],[]⟩ : App)] i (⟨x1.Id,x1.State,x1.Queue,x1.User,x1.Prio,⟨x1.Master.Mem,x1.Master.Cores⟩,[(⟨1,0,⟨1,1⟩,wants,(-1),(-1),0⟩ : Ask)],x1.Seen,x1.Beat,x1.Grants,x1.Kills,x1.Told,x1.Lost⟩ : App),x.Conts,x.Slots,x.Plans,10,x.Epoch,x.Seq⟩ : State)
 else
  some (⟨⟨x.Conf.Labels,l⟩,[(⟨1,0,0,⟨units,units⟩,10,0,true⟩ : Node)],[(⟨1,2,([114,111,111,116,46,97] : List UInt8),0,0,⟨1,1⟩,[],10,0,[],[],[],[]⟩ : App),(⟨2,2,([114,111,111,116,46,98] : List UInt8),0,0,⟨1,1⟩,[],10,0,[],[],[],[]⟩ : App)],x.Conts,x.Slots,x.Plans,10,x.Epoch,x.Seq⟩ : State)).bind fun s =>
 (itr 4096 (f_ units) (s,1)).bind fun s1 =>
 (app 72 s1.Conts [(⟨units,2,1,⟨1,1⟩,0,0,true,0⟩ : Cont)]).bind fun l2 =>
 some (⟨⟨s1.Conf.Labels,s1.Conf.Queues⟩,s1.Nodes,s1.Apps,l2,s1.Slots,s1.Plans,s1.Now,s1.Epoch,units⟩ : State)
theorem aq (units : Int) (wants : Int) (least : Int) : Lo (ap units wants least) (cw units wants least):=by
 unfold ap cw
 repeat' (first | with_reducible exact kX  | with_reducible exact oS _ _ | with_reducible refine ad ?_ ?_ ?_ ?_ ?_ | with_reducible refine ab ?_ ?_ ?_ ?_ | with_reducible refine ae ?_ ?_ ?_ | with_reducible refine ag ?_ ?_ | with_reducible refine ai ?_ ?_ | with_reducible refine aa ?_ _ | (intro _) | with_reducible exact aj _ | exact ah | (dsimp only))
def bG (x1 : Int) (l : List Int) (i : Int) : Option (Int ⊕ (Bool ⊕ Unit)) :=
 bif decide (i < (l.length : Int)) then
 (inb i l.length).bind fun i1 =>
 (l[i1]?).bind fun x4 =>
 bif x4 != (w64 ((w64 ((w64 (4 + x1)) - 1)) - i)) then
  some (.inr (.inl false))
 else
  some (.inl (w64 (i + 1)))
 else
 some (.inr (.inr ()))
theorem kx (x1 : Int) (l : List Int) (i : Int) : Lo (bG x1 l i) (a9 x1 l i):=by
 unfold bG a9
 repeat' (first | with_reducible refine ad ?_ ?_ ?_ ?_ ?_ | with_reducible refine ab ?_ ?_ ?_ ?_ | with_reducible refine ae ?_ ?_ ?_ | with_reducible refine ag ?_ ?_ | with_reducible refine ai ?_ ?_ | with_reducible refine aa ?_ _ | (intro _) | with_reducible exact aj _ | exact ah | (dsimp only))
def uZ (units : Int) (wants : Int) (least : Int) : Option Bool :=
 (gr).bind fun x =>
 bif ! x then
 some false
 else
 (gi units 16).bind fun x1 =>
 (gi wants 25).bind fun wants1 =>
 (gi least 10001).bind fun least1 =>
 (ap (w64 (4 + x1)) wants1 least1).bind fun x2 =>
 (gH x2 0).bind fun l =>
 (qO x2 ([114,111,111,116,46,98] : List UInt8) 0).bind fun x3 =>
 let need:=imax (imin wants1 (w64 (x3.Mem - 1))) 0
 (
  bif (l.length : Int) != need then
  bif decide (need < (w64 ((w64 (4 + x1)) - 1))) then
   some true
  else
   some (decide ((l.length : Int) > need))
  else
  some (decide ((l.length : Int) > need))).bind fun q =>
 bif q then
  some false
 else
  (itr 4096 (bG x1 l) 0).bind fun q0 =>
  match q0 with
  | .inl q1 =>
  some q1
  | .inr _ =>
  some true
end Go.Fx.D
