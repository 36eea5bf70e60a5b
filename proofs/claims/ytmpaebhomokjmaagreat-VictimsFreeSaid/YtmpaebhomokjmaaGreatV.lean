/-
  The same functions with a bound on the rounds of their loops; that they give what the others give (printed by a program). Conditions: none.
-/
import Derived.Test.YtmpaebhomokjmaaGreatD
import Derived.Test.YtmpaebhomokjmaaGreatFxD
namespace Go.Fx.D
open Go Go.Fx
set_option linter.unusedVariables false
set_option linter.unusedSimpArgs false
set_option maxRecDepth 100000
def dg (k : Looker) (c : Cont) : Option Looker :=
 let e:=mget (fun x => c.Id == x.k) k.noticed (⟨c.Id,0⟩ : Ent4_IntInt)
 let e1:=mget (fun x2 => c.Id == x2.k) k.leaf (⟨c.Id,[]⟩ : Ent2_IntListUInt8)
 let e2:=mget (fun x3 => e1.v == x3.k) k.over (⟨e1.v,0⟩ : Ent0_ListUInt8Int)
 some (⟨⟨⟨k.s.Conf.Labels,k.s.Conf.Queues⟩,k.s.Nodes,k.s.Apps,k.s.Conts,k.s.Slots,k.s.Plans,k.s.Now,k.s.Epoch,k.s.Seq⟩,k.label,mput (fun x4 => e1.v == x4.k) k.over (⟨e1.v,w64 (e2.v - c.Size.Mem)⟩ : Ent0_ListUInt8Int),k.leaf,mput (fun x1 => c.Id == x1.k) k.noticed (⟨c.Id,w64 (e.v + 1)⟩ : Ent4_IntInt),w64 (k.gone + c.Size.Mem)⟩ : Looker)
theorem iJ (k : Looker) (c : Cont) : Lo (dg k c) (cE k c):=by
 unfold dg cE
 repeat' (first | with_reducible refine ad ?_ ?_ ?_ ?_ ?_ | with_reducible refine aa ?_ ?_ ?_ ?_ | with_reducible refine ab ?_ ?_ ?_ | with_reducible refine af ?_ ?_ | with_reducible refine aj ?_ ?_ | with_reducible refine ai ?_ _ | (intro _) | with_reducible exact ah _ | exact ag | (dsimp only))
def dB (v : Vec) : Option Bool :=
 bif decide (v.Mem ≥ 0) then
 bif decide (v.Mem ≤ 1125899906842624) then
  bif decide (v.Cores ≥ 0) then
  some (decide (v.Cores ≤ 1125899906842624))
  else
  some false
 else
  some false
 else
 some false
theorem jG (v : Vec) : Lo (dB v) (dI v):=by
 unfold dB dI
 repeat' (first | with_reducible refine ad ?_ ?_ ?_ ?_ ?_ | with_reducible refine aa ?_ ?_ ?_ ?_ | with_reducible refine ab ?_ ?_ ?_ | with_reducible refine af ?_ ?_ | with_reducible refine aj ?_ ?_ | with_reducible refine ai ?_ _ | (intro _) | with_reducible exact ah _ | exact ag | (dsimp only))
def lH (v : Vec) : Option (Vec × Int) :=
 (dB v).bind fun x =>
 bif ! x then
 some ((⟨0,0⟩ : Vec),11)
 else
 some (v,0)
theorem ro (v : Vec) : Lo (lH v) (l_ v):=by
 unfold lH l_
 repeat' (first | with_reducible exact jG _ | with_reducible refine ad ?_ ?_ ?_ ?_ ?_ | with_reducible refine aa ?_ ?_ ?_ ?_ | with_reducible refine ab ?_ ?_ ?_ | with_reducible refine af ?_ ?_ | with_reducible refine aj ?_ ?_ | with_reducible refine ai ?_ _ | (intro _) | with_reducible exact ah _ | exact ag | (dsimp only))
def kA (a : Vec) (b : Vec) : Option (Vec × Int) :=
 (
 (dB a).bind fun x =>
 bif ! x then
  some true
 else
  (dB b).bind fun x1 =>
  some (! x1)).bind fun q =>
 bif q then
 some ((⟨0,0⟩ : Vec),1)
 else
 (lH (⟨w64 (a.Mem + b.Mem),w64 (a.Cores + b.Cores)⟩ : Vec)).bind fun x2 =>
 some (x2.1,x2.2)
theorem o6 (a : Vec) (b : Vec) : Lo (kA a b) (lu a b):=by
 unfold kA lu
 repeat' (first | with_reducible exact jG _ | with_reducible exact ro _ | with_reducible refine ad ?_ ?_ ?_ ?_ ?_ | with_reducible refine aa ?_ ?_ ?_ ?_ | with_reducible refine ab ?_ ?_ ?_ | with_reducible refine af ?_ ?_ | with_reducible refine aj ?_ ?_ | with_reducible refine ai ?_ _ | (intro _) | with_reducible exact ah _ | exact ag | (dsimp only))
def ll (l : List Vec) (t : Vec × Int) : Option ((Vec × Int) ⊕ Vec) :=
 bif decide (t.2 < (l.length : Int)) then
 (idx l t.2).bind fun x =>
 (kA t.1 x).bind fun x1 =>
 some (.inl (x1.1,w64 (t.2 + 1)))
 else
 some (.inr t.1)
theorem tz (l : List Vec) (t : Vec × Int) : Lo (ll l t) (nL l t):=by
 unfold ll nL
 repeat' (first | with_reducible exact o6 _ _ | with_reducible refine ad ?_ ?_ ?_ ?_ ?_ | with_reducible refine aa ?_ ?_ ?_ ?_ | with_reducible refine ab ?_ ?_ ?_ | with_reducible refine af ?_ ?_ | with_reducible refine aj ?_ ?_ | with_reducible refine ai ?_ _ | (intro _) | with_reducible exact ah _ | exact ag | (dsimp only))
def o8 (l : List Vec) : Option Vec :=
 (itr 4096 (ll l) ((⟨0,0⟩ : Vec),0)).bind fun out =>
 some out
theorem ww (l : List Vec) : Lo (o8 l) (oI l):=by
 unfold o8 oI
 repeat' (first | with_reducible exact tz _ _ | with_reducible refine ad ?_ ?_ ?_ ?_ ?_ | with_reducible refine aa ?_ ?_ ?_ ?_ | with_reducible refine ab ?_ ?_ ?_ | with_reducible refine af ?_ ?_ | with_reducible refine aj ?_ ?_ | with_reducible refine ai ?_ _ | (intro _) | with_reducible exact ah _ | exact ag | (dsimp only))
def jT (s : State) (label : Int) (t : List Vec × Int) : Option ((List Vec × Int) ⊕ List Vec) :=
 bif decide (t.2 < (s.Nodes.length : Int)) then
 (
  (idx s.Nodes t.2).bind fun x =>
  (
  bif x.Up then
   some (x.Label == label)
  else
   some false).bind fun q =>
  bif q then
  (app 16 t.1 [x.Cap]).bind fun l =>
  some l
  else
  some t.1).bind fun l1 =>
 some (.inl (l1,w64 (t.2 + 1)))
 else
 some (.inr t.1)
theorem r9 (s : State) (label : Int) (t : List Vec × Int) : Lo (jT s label t) (lv s label t):=by
 unfold jT lv
 repeat' (first | with_reducible refine ad ?_ ?_ ?_ ?_ ?_ | with_reducible refine aa ?_ ?_ ?_ ?_ | with_reducible refine ab ?_ ?_ ?_ | with_reducible refine af ?_ ?_ | with_reducible refine aj ?_ ?_ | with_reducible refine ai ?_ _ | (intro _) | with_reducible exact ah _ | exact ag | (dsimp only))
def gJ (s : State) (label : Int) : Option Vec :=
 (itr 4096 (jT s label) ([],0)).bind fun l2 =>
 (o8 l2).bind fun x1 =>
 some x1
theorem la (s : State) (label : Int) : Lo (gJ s label) (gU s label):=by
 unfold gJ gU
 repeat' (first | with_reducible exact r9 _ _ _ | with_reducible exact ww _ | with_reducible refine ad ?_ ?_ ?_ ?_ ?_ | with_reducible refine aa ?_ ?_ ?_ ?_ | with_reducible refine ab ?_ ?_ ?_ | with_reducible refine af ?_ ?_ | with_reducible refine aj ?_ ?_ | with_reducible refine ai ?_ _ | (intro _) | with_reducible exact ah _ | exact ag | (dsimp only))
def fU (v : View) (c : Cont) (t : App × Int) : Option ((App × Int) ⊕ ((App × Bool) ⊕ App)) :=
 bif decide (t.2 < (v.s.Apps.length : Int)) then
 (idx v.s.Apps t.2).bind fun x =>
 bif x.Id == c.App then
  some (.inr (.inl (x,true)))
 else
  some (.inl (t.1,w64 (t.2 + 1)))
 else
 some (.inr (.inr (t.1)))
theorem oR (v : View) (c : Cont) (t : App × Int) : Lo (fU v c t) (hS v c t):=by
 unfold fU hS
 repeat' (first | with_reducible refine ad ?_ ?_ ?_ ?_ ?_ | with_reducible refine aa ?_ ?_ ?_ ?_ | with_reducible refine ab ?_ ?_ ?_ | with_reducible refine af ?_ ?_ | with_reducible refine aj ?_ ?_ | with_reducible refine ai ?_ _ | (intro _) | with_reducible exact ah _ | exact ag | (dsimp only))
def iD (v : View) (c : Cont) : Option (App × Bool) :=
 (itr 4096 (fU v c) ((⟨0,0,[],0,0,⟨0,0⟩,[],0,0,[],[],[],[]⟩ : App),0)).bind fun q0 =>
 match q0 with
 | .inl q =>
 some (q.1,q.2)
 | .inr q1 =>
 some ((⟨0,0,[],0,0,⟨0,0⟩,[],0,0,[],[],[],[]⟩ : App),false)
theorem qJ (v : View) (c : Cont) : Lo (iD v c) (gA v c):=by
 unfold iD gA
 repeat' (first | with_reducible exact oR _ _ _ | with_reducible refine ad ?_ ?_ ?_ ?_ ?_ | with_reducible refine aa ?_ ?_ ?_ ?_ | with_reducible refine ab ?_ ?_ ?_ | with_reducible refine af ?_ ?_ | with_reducible refine aj ?_ ?_ | with_reducible refine ai ?_ _ | (intro _) | with_reducible exact ah _ | exact ag | (dsimp only))
def eN (s : List UInt8) (prefix_ : List UInt8) : Option Bool :=
 bif decide ((s.length : Int) ≥ (prefix_.length : Int)) then
 (slc s 0 (prefix_.length : Int)).bind fun s1 =>
 some (s1 == prefix_)
 else
 some false
theorem nJ (s : List UInt8) (prefix_ : List UInt8) : Lo (eN s prefix_) (dD s prefix_):=by
 unfold eN dD
 repeat' (first | with_reducible refine ad ?_ ?_ ?_ ?_ ?_ | with_reducible refine aa ?_ ?_ ?_ ?_ | with_reducible refine ab ?_ ?_ ?_ | with_reducible refine af ?_ ?_ | with_reducible refine aj ?_ ?_ | with_reducible refine ai ?_ _ | (intro _) | with_reducible exact ah _ | exact ag | (dsimp only))
def hH (s : List UInt8) (prefix_ : List UInt8) : Option Bool :=
 (eN s prefix_).bind fun x =>
 some x
theorem qi (s : List UInt8) (prefix_ : List UInt8) : Lo (hH s prefix_) (fH s prefix_):=by
 unfold hH fH
 repeat' (first | with_reducible exact nJ _ _ | with_reducible refine ad ?_ ?_ ?_ ?_ ?_ | with_reducible refine aa ?_ ?_ ?_ ?_ | with_reducible refine ab ?_ ?_ ?_ | with_reducible refine af ?_ ?_ | with_reducible refine aj ?_ ?_ | with_reducible refine ai ?_ _ | (intro _) | with_reducible exact ah _ | exact ag | (dsimp only))
def gH (v : View) (a : App) : Option Bool :=
 (
 bif a.Queue == v.path then
  some true
 else
  (cat v.path ([46] : List UInt8)).bind fun s =>
  (hH a.Queue s).bind fun x =>
  some x).bind fun below =>
 bif below then
 bif v.user == (-1) then
  some true
 else
  some (a.User == v.user)
 else
 some false
theorem mA (v : View) (a : App) : Lo (gH v a) (fJ v a):=by
 unfold gH fJ
 repeat' (first | with_reducible exact qi _ _ | with_reducible refine ad ?_ ?_ ?_ ?_ ?_ | with_reducible refine aa ?_ ?_ ?_ ?_ | with_reducible refine ab ?_ ?_ ?_ | with_reducible refine af ?_ ?_ | with_reducible refine aj ?_ ?_ | with_reducible refine ai ?_ _ | (intro _) | with_reducible exact ah _ | exact ag | (dsimp only))
def go (v : View) (t : Vec × Int) : Option ((Vec × Int) ⊕ Vec) :=
 bif decide (t.2 < (v.s.Conts.length : Int)) then
 (
  (idx v.s.Conts t.2).bind fun x =>
  (iD v x).bind fun x1 =>
  (
  bif x1.2 then
   bif x.Label == v.label then
   (gH v x1.1).bind fun x2 =>
   some x2
   else
   some false
  else
   some false).bind fun q =>
  bif q then
  (kA t.1 x.Size).bind fun x3 =>
  some x3.1
  else
  some t.1).bind fun out =>
 some (.inl (out,w64 (t.2 + 1)))
 else
 some (.inr t.1)
theorem pw (v : View) (t : Vec × Int) : Lo (go v t) (iB v t):=by
 unfold go iB
 repeat' (first | with_reducible exact qJ _ _ | with_reducible exact mA _ _ | with_reducible exact o6 _ _ | with_reducible refine ad ?_ ?_ ?_ ?_ ?_ | with_reducible refine aa ?_ ?_ ?_ ?_ | with_reducible refine ab ?_ ?_ ?_ | with_reducible refine af ?_ ?_ | with_reducible refine aj ?_ ?_ | with_reducible refine ai ?_ _ | (intro _) | with_reducible exact ah _ | exact ag | (dsimp only))
def je (v : View) : Option Vec :=
 (itr 4096 (go v) ((⟨0,0⟩ : Vec),0)).bind fun out1 =>
 some out1
theorem qR (v : View) : Lo (je v) (ie v):=by
 unfold je ie
 repeat' (first | with_reducible exact pw _ _ | with_reducible refine ad ?_ ?_ ?_ ?_ ?_ | with_reducible refine aa ?_ ?_ ?_ ?_ | with_reducible refine ab ?_ ?_ ?_ | with_reducible refine af ?_ ?_ | with_reducible refine aj ?_ ?_ | with_reducible refine ai ?_ _ | (intro _) | with_reducible exact ah _ | exact ag | (dsimp only))
def ea (s : State) (path : List UInt8) (label : Int) : Option Vec :=
 (je (⟨⟨⟨s.Conf.Labels,s.Conf.Queues⟩,s.Nodes,s.Apps,s.Conts,s.Slots,s.Plans,s.Now,s.Epoch,s.Seq⟩,path,label,(-1)⟩ : View)).bind fun x =>
 some x
theorem jA (s : State) (path : List UInt8) (label : Int) : Lo (ea s path label) (gw s path label):=by
 unfold ea gw
 repeat' (first | with_reducible exact qR _ | with_reducible refine ad ?_ ?_ ?_ ?_ ?_ | with_reducible refine aa ?_ ?_ ?_ ?_ | with_reducible refine ab ?_ ?_ ?_ | with_reducible refine af ?_ ?_ | with_reducible refine aj ?_ ?_ | with_reducible refine ai ?_ _ | (intro _) | with_reducible exact ah _ | exact ag | (dsimp only))
def cz (s : List UInt8) (c : Int) (i1 : Int) : Option (Int ⊕ (Int ⊕ Unit)) :=
 bif decide (i1 ≥ 0) then
 (idx s i1).bind fun ch =>
 bif (ch.toNat : Int) == c then
  some (.inr (.inl i1))
 else
  some (.inl (w64 (i1 - 1)))
 else
 some (.inr (.inr ()))
theorem ju (s : List UInt8) (c : Int) (i1 : Int) : Lo (cz s c i1) (cS s c i1):=by
 unfold cz cS
 repeat' (first | with_reducible refine ad ?_ ?_ ?_ ?_ ?_ | with_reducible refine aa ?_ ?_ ?_ ?_ | with_reducible refine ab ?_ ?_ ?_ | with_reducible refine af ?_ ?_ | with_reducible refine aj ?_ ?_ | with_reducible refine ai ?_ _ | (intro _) | with_reducible exact ah _ | exact ag | (dsimp only))
def dd (s : List UInt8) (c : Int) : Option Int :=
 let i:=w64 ((s.length : Int) - 1)
 (itr 4096 (cz s c) i).bind fun q0 =>
 match q0 with
 | .inl q =>
 some q
 | .inr _ =>
 some (-1)
theorem kH (s : List UInt8) (c : Int) : Lo (dd s c) (bZ s c):=by
 unfold dd bZ
 repeat' (first | with_reducible exact ju _ _ _ | with_reducible refine ad ?_ ?_ ?_ ?_ ?_ | with_reducible refine aa ?_ ?_ ?_ ?_ | with_reducible refine ab ?_ ?_ ?_ | with_reducible refine af ?_ ?_ | with_reducible refine aj ?_ ?_ | with_reducible refine ai ?_ _ | (intro _) | with_reducible exact ah _ | exact ag | (dsimp only))
def cO (t1 : Int × Int × Int) : Option ((Int × Int × Int) ⊕ Int) :=
 bif decide (t1.2.2 > 0) then
 (
  bif (andK .i64 t1.2.2 1) != 0 then
  let pow:=IntKind.u32.wrap (t1.1 * t1.2.1)
  some pow
  else
  some t1.1).bind fun pow1 =>
 let sq:=IntKind.u32.wrap (t1.2.1 * t1.2.1)
 some (.inl (pow1,sq,shrK .i64 t1.2.2 1))
 else
 some (.inr t1.1)
theorem jF (t1 : Int × Int × Int) : Lo (cO t1) (db t1):=by
 unfold cO db
 repeat' (first | with_reducible refine ad ?_ ?_ ?_ ?_ ?_ | with_reducible refine aa ?_ ?_ ?_ ?_ | with_reducible refine ab ?_ ?_ ?_ | with_reducible refine af ?_ ?_ | with_reducible refine aj ?_ ?_ | with_reducible refine ai ?_ _ | (intro _) | with_reducible exact ah _ | exact ag | (dsimp only))
def cL (sep : List UInt8) (t : Int × Int) : Option ((Int × Int) ⊕ Int) :=
 bif decide (t.2 ≥ 0) then
 (idx sep t.2).bind fun ch =>
 let hash:=IntKind.u32.wrap ((IntKind.u32.wrap (t.1 * 16777619)) + (IntKind.u32.wrap (ch.toNat : Int)))
 some (.inl (hash,w64 (t.2 - 1)))
 else
 some (.inr t.1)
theorem jS (sep : List UInt8) (t : Int × Int) : Lo (cL sep t) (de sep t):=by
 unfold cL de
 repeat' (first | with_reducible refine ad ?_ ?_ ?_ ?_ ?_ | with_reducible refine aa ?_ ?_ ?_ ?_ | with_reducible refine ab ?_ ?_ ?_ | with_reducible refine af ?_ ?_ | with_reducible refine aj ?_ ?_ | with_reducible refine ai ?_ _ | (intro _) | with_reducible exact ah _ | exact ag | (dsimp only))
def dn (sep : List UInt8) : Option (Int × Int) :=
 let i:=w64 ((sep.length : Int) - 1)
 (itr 4096 (cL sep) (0,i)).bind fun hash1 =>
 (itr 4096 cO (1,16777619,(sep.length : Int))).bind fun pow2 =>
 some (hash1,pow2)
theorem kT (sep : List UInt8) : Lo (dn sep) (cu sep):=by
 unfold dn cu
 repeat' (first | with_reducible exact jS _ _ | with_reducible exact jF _ | with_reducible refine ad ?_ ?_ ?_ ?_ ?_ | with_reducible refine aa ?_ ?_ ?_ ?_ | with_reducible refine ab ?_ ?_ ?_ | with_reducible refine af ?_ ?_ | with_reducible refine aj ?_ ?_ | with_reducible refine ai ?_ _ | (intro _) | with_reducible exact ah _ | exact ag | (dsimp only))
def bf (s : List UInt8) (sep : List UInt8) (x : Int × Int) (t1 : Int × Int) : Option ((Int × Int) ⊕ (Int ⊕ Unit)) :=
 bif decide (t1.2 ≥ 0) then
 (idx s t1.2).bind fun ch1 =>
 let h2:=IntKind.u32.wrap ((IntKind.u32.wrap (t1.1 * 16777619)) + (IntKind.u32.wrap (ch1.toNat : Int)))
 (idx s (w64 (t1.2 + (sep.length : Int)))).bind fun ch2 =>
 let h3:=IntKind.u32.wrap (h2 - (IntKind.u32.wrap (x.2 * (IntKind.u32.wrap (ch2.toNat : Int)))))
 (
  bif h3 == x.1 then
  (slc s t1.2 (w64 (t1.2 + (sep.length : Int)))).bind fun s2 =>
  some (s2 == sep)
  else
  some false).bind fun q1 =>
 bif q1 then
  some (.inr (.inl (t1.2)))
 else
  some (.inl (h3,w64 (t1.2 - 1)))
 else
 some (.inr (.inr ()))
theorem gu (s : List UInt8) (sep : List UInt8) (x : Int × Int) (t1 : Int × Int) : Lo (bf s sep x t1) (bD s sep x t1):=by
 unfold bf bD
 repeat' (first | with_reducible refine ad ?_ ?_ ?_ ?_ ?_ | with_reducible refine aa ?_ ?_ ?_ ?_ | with_reducible refine ab ?_ ?_ ?_ | with_reducible refine af ?_ ?_ | with_reducible refine aj ?_ ?_ | with_reducible refine ai ?_ _ | (intro _) | with_reducible exact ah _ | exact ag | (dsimp only))
def bh (s : List UInt8) (last : Int) (t : Int × Int) : Option ((Int × Int) ⊕ Int) :=
 bif decide (t.2 ≥ last) then
 (idx s t.2).bind fun ch =>
 let h:=IntKind.u32.wrap ((IntKind.u32.wrap (t.1 * 16777619)) + (IntKind.u32.wrap (ch.toNat : Int)))
 some (.inl (h,w64 (t.2 - 1)))
 else
 some (.inr t.1)
theorem gv (s : List UInt8) (last : Int) (t : Int × Int) : Lo (bh s last t) (bB s last t):=by
 unfold bh bB
 repeat' (first | with_reducible refine ad ?_ ?_ ?_ ?_ ?_ | with_reducible refine aa ?_ ?_ ?_ ?_ | with_reducible refine ab ?_ ?_ ?_ | with_reducible refine af ?_ ?_ | with_reducible refine aj ?_ ?_ | with_reducible refine ai ?_ _ | (intro _) | with_reducible exact ah _ | exact ag | (dsimp only))
def bG (s : List UInt8) (sep : List UInt8) : Option Int :=
 (dn sep).bind fun x =>
 let last:=w64 ((s.length : Int) - (sep.length : Int))
 let i:=w64 ((s.length : Int) - 1)
 (itr 4096 (bh s last) (0,i)).bind fun h1 =>
 (
 bif h1 == x.1 then
  (slc s last (s.length : Int)).bind fun s1 =>
  some (s1 == sep)
 else
  some false).bind fun q =>
 bif q then
 some last
 else
 (itr 4096 (bf s sep x) (h1,w64 (last - 1))).bind fun q0 =>
 match q0 with
 | .inl q2 =>
  some q2
 | .inr _ =>
  some (-1)
theorem il (s : List UInt8) (sep : List UInt8) : Lo (bG s sep) (aR s sep):=by
 unfold bG aR
 repeat' (first | with_reducible exact kT _ | with_reducible exact gv _ _ _ | with_reducible exact gu _ _ _ _ | with_reducible refine ad ?_ ?_ ?_ ?_ ?_ | with_reducible refine aa ?_ ?_ ?_ ?_ | with_reducible refine ab ?_ ?_ ?_ | with_reducible refine af ?_ ?_ | with_reducible refine aj ?_ ?_ | with_reducible refine ai ?_ _ | (intro _) | with_reducible exact ah _ | exact ag | (dsimp only))
def gY (s : List UInt8) (substr : List UInt8) : Option Int :=
 bif (substr.length : Int) == 0 then
 some (s.length : Int)
 else
 bif (substr.length : Int) == 1 then
  (idx substr 0).bind fun ch =>
  (dd s (ch.toNat : Int)).bind fun x =>
  some x
 else
  bif (substr.length : Int) == (s.length : Int) then
  bif substr == s then
   some 0
  else
   some (-1)
  else
  bif decide ((substr.length : Int) > (s.length : Int)) then
   some (-1)
  else
   (bG s substr).bind fun x1 =>
   some x1
theorem qh (s : List UInt8) (substr : List UInt8) : Lo (gY s substr) (fD s substr):=by
 unfold gY fD
 repeat' (first | with_reducible exact kH _ _ | with_reducible exact il _ _ | with_reducible refine ad ?_ ?_ ?_ ?_ ?_ | with_reducible refine aa ?_ ?_ ?_ ?_ | with_reducible refine ab ?_ ?_ ?_ | with_reducible refine af ?_ ?_ | with_reducible refine aj ?_ ?_ | with_reducible refine ai ?_ _ | (intro _) | with_reducible exact ah _ | exact ag | (dsimp only))
def km (path : List UInt8) : Option (List UInt8 × Bool) :=
 (gY path ([46] : List UInt8)).bind fun i =>
 bif decide (i < 0) then
 some (([] : List UInt8),false)
 else
 (slc path 0 i).bind fun s =>
 some (s,true)
theorem qE (path : List UInt8) : Lo (km path) (kf path):=by
 unfold km kf
 repeat' (first | with_reducible exact qh _ _ | with_reducible refine ad ?_ ?_ ?_ ?_ ?_ | with_reducible refine aa ?_ ?_ ?_ ?_ | with_reducible refine ab ?_ ?_ ?_ | with_reducible refine af ?_ ?_ | with_reducible refine aj ?_ ?_ | with_reducible refine ai ?_ _ | (intro _) | with_reducible exact ah _ | exact ag | (dsimp only))
def nM (t : List UInt8 × List (List UInt8)) : Option ((List UInt8 × List (List UInt8)) ⊕ List (List UInt8)) :=
 bif ! (t.1 == ([] : List UInt8)) then
 (app 16 t.2 [t.1]).bind fun l =>
 (km t.1).bind fun x =>
 some (.inl (x.1,l))
 else
 some (.inr t.2)
theorem vm (t : List UInt8 × List (List UInt8)) : Lo (nM t) (qg t):=by
 unfold nM qg
 repeat' (first | with_reducible exact qE _ | with_reducible refine ad ?_ ?_ ?_ ?_ ?_ | with_reducible refine aa ?_ ?_ ?_ ?_ | with_reducible refine ab ?_ ?_ ?_ | with_reducible refine af ?_ ?_ | with_reducible refine aj ?_ ?_ | with_reducible refine ai ?_ _ | (intro _) | with_reducible exact ah _ | exact ag | (dsimp only))
def rr (path : List UInt8) : Option (List (List UInt8)) :=
 (itr 4096 nM (path,[])).bind fun out =>
 some out
theorem yp (path : List UInt8) : Lo (rr path) (rY path):=by
 unfold rr rY
 repeat' (first | with_reducible exact vm _ | with_reducible refine ad ?_ ?_ ?_ ?_ ?_ | with_reducible refine aa ?_ ?_ ?_ ?_ | with_reducible refine ab ?_ ?_ ?_ | with_reducible refine af ?_ ?_ | with_reducible refine aj ?_ ?_ | with_reducible refine ai ?_ _ | (intro _) | with_reducible exact ah _ | exact ag | (dsimp only))
def BG (s : List Cap) : Option (List Cap) :=
 bif s.isEmpty then
 none
 else
 (app 16 [] s).bind fun l =>
 some l
def mR (s : List Cap) : Option (List Cap):=app 16 [] s
theorem sy (s : List Cap) : Lo (mR s) (nr s):=by
 unfold mR nr
 repeat' (first | with_reducible refine ad ?_ ?_ ?_ ?_ ?_ | with_reducible refine aa ?_ ?_ ?_ ?_ | with_reducible refine ab ?_ ?_ ?_ | with_reducible refine af ?_ ?_ | with_reducible refine aj ?_ ?_ | with_reducible refine ai ?_ _ | (intro _) | with_reducible exact ah _ | exact ag | (dsimp only))
def ku (s : List Queue) (f : (TupT fam [.st 1] → Option Bool)) (t : Int) : Option (Int ⊕ (Int ⊕ Unit)) :=
 bif decide (t < (s.length : Int)) then
 (idx s t).bind fun x =>
 (f (x,())).bind fun r =>
 bif r then
  some (.inr (.inl t))
 else
  some (.inl (w64 (t + 1)))
 else
 some (.inr (.inr ()))
theorem sD (s : List Queue) (f f_' : (TupT fam [.st 1] → Option Bool)) (h_f : ∀ a,Lo (f a) (f_' a)) (t : Int) : Lo (ku s f t) (my s f_' t):=by
 unfold ku my
 repeat' (first | exact h_f _ | with_reducible refine ad ?_ ?_ ?_ ?_ ?_ | with_reducible refine aa ?_ ?_ ?_ ?_ | with_reducible refine ab ?_ ?_ ?_ | with_reducible refine af ?_ ?_ | with_reducible refine aj ?_ ?_ | with_reducible refine ai ?_ _ | (intro _) | with_reducible exact ah _ | exact ag | (dsimp only))
def nx (s : List Queue) (f : (TupT fam [.st 1] → Option Bool)) : Option Int :=
 (itr 4096 (ku s f) 0).bind fun q0 =>
 match q0 with
 | .inl q =>
 some q
 | .inr _ =>
 some (-1)
theorem vp (s : List Queue) (f f_' : (TupT fam [.st 1] → Option Bool)) (h_f : ∀ a,Lo (f a) (f_' a)) : Lo (nx s f) (mL s f_'):=by
 unfold nx mL
 repeat' (first | with_reducible refine sD _ _ _ ?_ _ | exact h_f _ | with_reducible refine ad ?_ ?_ ?_ ?_ ?_ | with_reducible refine aa ?_ ?_ ?_ ?_ | with_reducible refine ab ?_ ?_ ?_ | with_reducible refine af ?_ ?_ | with_reducible refine aj ?_ ?_ | with_reducible refine ai ?_ _ | (intro _) | with_reducible exact ah _ | exact ag | (dsimp only))
def mr (q : Queue) (p : List UInt8) : Option Bool :=
 some (q.Path == p)
theorem uo (q : Queue) (p : List UInt8) : Lo (mr q p) (lD q p):=by
 unfold mr lD
 repeat' (first | with_reducible refine ad ?_ ?_ ?_ ?_ ?_ | with_reducible refine aa ?_ ?_ ?_ ?_ | with_reducible refine ab ?_ ?_ ?_ | with_reducible refine af ?_ ?_ | with_reducible refine aj ?_ ?_ | with_reducible refine ai ?_ _ | (intro _) | with_reducible exact ah _ | exact ag | (dsimp only))
def lL (c : Conf) (path : List UInt8) : Option (Queue × Bool) :=
 (nx c.Queues (fun a' => mr a'.1 path)).bind fun i =>
 bif decide (i < 0) then
 some ((⟨[],[],0⟩ : Queue),false)
 else
 (idx c.Queues i).bind fun x =>
 (mR x.Caps).bind fun x1 =>
 some ((⟨x.Path,x1,x.User⟩ : Queue),true)
theorem rK (c : Conf) (path : List UInt8) : Lo (lL c path) (lR c path):=by
 unfold lL lR
 repeat' (first | with_reducible refine vp _ _ _ ?_ | with_reducible exact uo _ _ | with_reducible exact sy _ | with_reducible refine ad ?_ ?_ ?_ ?_ ?_ | with_reducible refine aa ?_ ?_ ?_ ?_ | with_reducible refine ab ?_ ?_ ?_ | with_reducible refine af ?_ ?_ | with_reducible refine aj ?_ ?_ | with_reducible refine ai ?_ _ | (intro _) | with_reducible exact ah _ | exact ag | (dsimp only))
def n6 (x : Int) (y : Int) : Option (Int × Int) :=
 let w0:=IntKind.u64.wrap ((andK .u64 x 4294967295) * (andK .u64 y 4294967295))
 let t:=IntKind.u64.wrap ((IntKind.u64.wrap ((shrK .u64 x 32) * (andK .u64 y 4294967295))) + (shrK .u64 w0 32))
 let w1:=IntKind.u64.wrap ((andK .u64 t 4294967295) + (IntKind.u64.wrap ((andK .u64 x 4294967295) * (shrK .u64 y 32))))
 let hi:=IntKind.u64.wrap ((IntKind.u64.wrap ((IntKind.u64.wrap ((shrK .u64 x 32) * (shrK .u64 y 32))) + (shrK .u64 t 32))) + (shrK .u64 w1 32))
 some (hi,IntKind.u64.wrap (x * y))
theorem vw (x : Int) (y : Int) : Lo (n6 x y) (mM x y):=by
 unfold n6 mM
 repeat' (first | with_reducible refine ad ?_ ?_ ?_ ?_ ?_ | with_reducible refine aa ?_ ?_ ?_ ?_ | with_reducible refine ab ?_ ?_ ?_ | with_reducible refine af ?_ ?_ | with_reducible refine aj ?_ ?_ | with_reducible refine ai ?_ _ | (intro _) | with_reducible exact ah _ | exact ag | (dsimp only))
def kj (x : Int) : Option Int :=
 (
 bif decide (x ≥ 4294967296) then
  some (shrK .u64 x 32,32)
 else
  some (x,0)).bind fun q =>
 (
 bif decide (q.1 ≥ 65536) then
  some (shrK .u64 q.1 16,w64 (q.2 + 16))
 else
  some (q.1,q.2)).bind fun q1 =>
 (
 bif decide (q1.1 ≥ 256) then
  some (shrK .u64 q1.1 8,w64 (q1.2 + 8))
 else
  some (q1.1,q1.2)).bind fun q2 =>
 (idx ([0,1,2,2,3,3,3,3,4,4,4,4,4,4,4,4,5,5,5,5,5,5,5,5,5,5,5,5,5,5,5,5,6,6,6,6,6,6,6,6,6,6,6,6,6,6,6,6,6,6,6,6,6,6,6,6,6,6,6,6,6,6,6,6,7,7,7,7,7,7,7,7,7,7,7,7,7,7,7,7,7,7,7,7,7,7,7,7,7,7,7,7,7,7,7,7,7,7,7,7,7,7,7,7,7,7,7,7,7,7,7,7,7,7,7,7,7,7,7,7,7,7,7,7,7,7,7,7,8,8,8,8,8,8,8,8,8,8,8,8,8,8,8,8,8,8,8,8,8,8,8,8,8,8,8,8,8,8,8,8,8,8,8,8,8,8,8,8,8,8,8,8,8,8,8,8,8,8,8,8,8,8,8,8,8,8,8,8,8,8,8,8,8,8,8,8,8,8,8,8,8,8,8,8,8,8,8,8,8,8,8,8,8,8,8,8,8,8,8,8,8,8,8,8,8,8,8,8,8,8,8,8,8,8,8,8,8,8,8,8,8,8,8,8,8,8,8,8,8,8,8,8,8,8,8,8] : List UInt8) (IntKind.u8.wrap q2.1)).bind fun ch =>
 let n:=w64 (q2.2 + (w64 (ch.toNat : Int)))
 some n
theorem qC (x : Int) : Lo (kj x) (kR x):=by
 unfold kj kR
 repeat' (first | with_reducible refine ad ?_ ?_ ?_ ?_ ?_ | with_reducible refine aa ?_ ?_ ?_ ?_ | with_reducible refine ab ?_ ?_ ?_ | with_reducible refine af ?_ ?_ | with_reducible refine aj ?_ ?_ | with_reducible refine ai ?_ _ | (intro _) | with_reducible exact ah _ | exact ag | (dsimp only))
def fW (x : Int) : Option Int :=
 (kj x).bind fun x1 =>
 some (w64 (64 - x1))
theorem pd (x : Int) : Lo (fW x) (en x):=by
 unfold fW en
 repeat' (first | with_reducible exact qC _ | with_reducible refine ad ?_ ?_ ?_ ?_ ?_ | with_reducible refine aa ?_ ?_ ?_ ?_ | with_reducible refine ab ?_ ?_ ?_ | with_reducible refine af ?_ ?_ | with_reducible refine aj ?_ ?_ | with_reducible refine ai ?_ _ | (intro _) | with_reducible exact ah _ | exact ag | (dsimp only))
def kJ (yn1 : Int) (yn0 : Int) (un0 : Int) (t1 : Int × Int) : Option ((Int × Int) ⊕ Int) :=
 (
 bif decide (t1.2 ≥ 4294967296) then
  some true
 else
  some (decide ((IntKind.u64.wrap (t1.2 * yn0)) > (IntKind.u64.wrap ((IntKind.u64.wrap (4294967296 * t1.1)) + un0))))).bind fun q2 =>
 bif q2 then
 bif decide ((IntKind.u64.wrap (t1.1 + yn1)) ≥ 4294967296) then
  some (.inr (IntKind.u64.wrap (t1.2 - 1)))
 else
  some (.inl (IntKind.u64.wrap (t1.1 + yn1),IntKind.u64.wrap (t1.2 - 1)))
 else
 some (.inr t1.2)
theorem sE (yn1 : Int) (yn0 : Int) (un0 : Int) (t1 : Int × Int) : Lo (kJ yn1 yn0 un0 t1) (mj yn1 yn0 un0 t1):=by
 unfold kJ mj
 repeat' (first | with_reducible refine ad ?_ ?_ ?_ ?_ ?_ | with_reducible refine aa ?_ ?_ ?_ ?_ | with_reducible refine ab ?_ ?_ ?_ | with_reducible refine af ?_ ?_ | with_reducible refine aj ?_ ?_ | with_reducible refine ai ?_ _ | (intro _) | with_reducible exact ah _ | exact ag | (dsimp only))
def kC (yn1 : Int) (yn0 : Int) (un1 : Int) (t : Int × Int) : Option ((Int × Int) ⊕ Int) :=
 (
 bif decide (t.1 ≥ 4294967296) then
  some true
 else
  some (decide ((IntKind.u64.wrap (t.1 * yn0)) > (IntKind.u64.wrap ((IntKind.u64.wrap (4294967296 * t.2)) + un1))))).bind fun q =>
 bif q then
 bif decide ((IntKind.u64.wrap (t.2 + yn1)) ≥ 4294967296) then
  some (.inr (IntKind.u64.wrap (t.1 - 1)))
 else
  some (.inl (IntKind.u64.wrap (t.1 - 1),IntKind.u64.wrap (t.2 + yn1)))
 else
 some (.inr t.1)
theorem tc (yn1 : Int) (yn0 : Int) (un1 : Int) (t : Int × Int) : Lo (kC yn1 yn0 un1 t) (ms yn1 yn0 un1 t):=by
 unfold kC ms
 repeat' (first | with_reducible refine ad ?_ ?_ ?_ ?_ ?_ | with_reducible refine aa ?_ ?_ ?_ ?_ | with_reducible refine ab ?_ ?_ ?_ | with_reducible refine af ?_ ?_ | with_reducible refine aj ?_ ?_ | with_reducible refine ai ?_ _ | (intro _) | with_reducible exact ah _ | exact ag | (dsimp only))
def nk (hi : Int) (lo : Int) (y : Int) : Option (Int × Int) :=
 bif y == 0 then
 none
 else
 bif decide (y ≤ hi) then
  none
 else
  bif hi == 0 then
  (nz y).bind fun _ =>
  (nz y).bind fun _ =>
  some (IntKind.u64.wrap (Int.tdiv lo y),Int.tmod lo y)
  else
  (fW y).bind fun x =>
  (nn (IntKind.u64.wrap x)).bind fun _ =>
  let yn1:=shrK .u64 (shlK .u64 y (IntKind.u64.wrap x)) 32
  let yn0:=andK .u64 (shlK .u64 y (IntKind.u64.wrap x)) 4294967295
  (nn (IntKind.u64.wrap x)).bind fun _ =>
  (nn (IntKind.u64.wrap (64 - (IntKind.u64.wrap x)))).bind fun _ =>
  let un32:=orK .u64 (shlK .u64 hi (IntKind.u64.wrap x)) (shrK .u64 lo (IntKind.u64.wrap (64 - (IntKind.u64.wrap x))))
  (nn (IntKind.u64.wrap x)).bind fun _ =>
  let un1:=shrK .u64 (shlK .u64 lo (IntKind.u64.wrap x)) 32
  let un0:=andK .u64 (shlK .u64 lo (IntKind.u64.wrap x)) 4294967295
  (nz yn1).bind fun _ =>
  let rhat:=IntKind.u64.wrap (un32 - (IntKind.u64.wrap ((IntKind.u64.wrap (Int.tdiv un32 yn1)) * yn1)))
  (itr 4096 (kC yn1 yn0 un1) (IntKind.u64.wrap (Int.tdiv un32 yn1),rhat)).bind fun q1 =>
  let un21:=IntKind.u64.wrap ((IntKind.u64.wrap ((IntKind.u64.wrap (un32 * 4294967296)) + un1)) - (IntKind.u64.wrap (q1 * (shlK .u64 y (IntKind.u64.wrap x)))))
  (nz yn1).bind fun _ =>
  let rhat1:=IntKind.u64.wrap (un21 - (IntKind.u64.wrap ((IntKind.u64.wrap (Int.tdiv un21 yn1)) * yn1)))
  (itr 4096 (kJ yn1 yn0 un0) (rhat1,IntKind.u64.wrap (Int.tdiv un21 yn1))).bind fun q0 =>
  (nn (IntKind.u64.wrap x)).bind fun _ =>
  let quo:=IntKind.u64.wrap ((IntKind.u64.wrap (q1 * 4294967296)) + q0)
  let rem:=shrK .u64 (IntKind.u64.wrap ((IntKind.u64.wrap ((IntKind.u64.wrap (un21 * 4294967296)) + un0)) - (IntKind.u64.wrap (q0 * (shlK .u64 y (IntKind.u64.wrap x)))))) (IntKind.u64.wrap x)
  some (quo,rem)
theorem vn (hi : Int) (lo : Int) (y : Int) : Lo (nk hi lo y) (mI hi lo y):=by
 unfold nk mI
 repeat' (first | with_reducible exact pd _ | with_reducible exact tc _ _ _ _ | with_reducible exact sE _ _ _ _ | with_reducible refine ad ?_ ?_ ?_ ?_ ?_ | with_reducible refine aa ?_ ?_ ?_ ?_ | with_reducible refine ab ?_ ?_ ?_ | with_reducible refine af ?_ ?_ | with_reducible refine aj ?_ ?_ | with_reducible refine ai ?_ _ | (intro _) | with_reducible exact ah _ | exact ag | (dsimp only))
def lP (n : Int) (bp : Int) : Option Int :=
 (n6 (IntKind.u64.wrap n) (IntKind.u64.wrap bp)).bind fun x =>
 (nk x.1 x.2 10000).bind fun x1 =>
 some (w64 x1.1)
theorem wN (n : Int) (bp : Int) : Lo (lP n bp) (l8 n bp):=by
 unfold lP l8
 repeat' (first | with_reducible exact vw _ _ | with_reducible exact vn _ _ _ | with_reducible refine ad ?_ ?_ ?_ ?_ ?_ | with_reducible refine aa ?_ ?_ ?_ ?_ | with_reducible refine ab ?_ ?_ ?_ | with_reducible refine af ?_ ?_ | with_reducible refine aj ?_ ?_ | with_reducible refine ai ?_ _ | (intro _) | with_reducible exact ah _ | exact ag | (dsimp only))
def nB (a : Vec) (bp : Int) : Option (Vec × Int) :=
 (
 (dB a).bind fun x =>
 bif ! x then
  some true
 else
  bif decide (bp < 0) then
  some true
  else
  some (decide (bp > 1000000))).bind fun q =>
 bif q then
 some ((⟨0,0⟩ : Vec),1)
 else
 (lP a.Mem bp).bind fun x1 =>
 (lP a.Cores bp).bind fun x2 =>
 (lH (⟨x1,x2⟩ : Vec)).bind fun x3 =>
 some (x3.1,x3.2)
theorem vt (a : Vec) (bp : Int) : Lo (nB a bp) (mJ a bp):=by
 unfold nB mJ
 repeat' (first | with_reducible exact jG _ | with_reducible exact wN _ _ | with_reducible exact ro _ | with_reducible refine ad ?_ ?_ ?_ ?_ ?_ | with_reducible refine aa ?_ ?_ ?_ ?_ | with_reducible refine ab ?_ ?_ ?_ | with_reducible refine af ?_ ?_ | with_reducible refine aj ?_ ?_ | with_reducible refine ai ?_ _ | (intro _) | with_reducible exact ah _ | exact ag | (dsimp only))
def ko (s : State) (label : Int) (part : (TupT fam [.st 0] → Option Int)) (up : List (List UInt8)) (t : Vec × Vec × Int) : Option ((Vec × Vec × Int) ⊕ (Vec ⊕ (Vec × Vec))) :=
 bif decide (t.2.2 ≥ 0) then
 (inb t.2.2 up.length).bind fun i1 =>
 (up[i1]?).bind fun x2 =>
 (lL s.Conf x2).bind fun x3 =>
 (
  bif ! x3.2 then
  some true
  else
  bif decide (label < 0) then
   some true
  else
   some (decide (label ≥ (x3.1.Caps.length : Int)))).bind fun q =>
 bif q then
  some (.inr (.inl (⟨0,0⟩ : Vec)))
 else
  (inb label x3.1.Caps.length).bind fun i2 =>
  (x3.1.Caps[i2]?).bind fun x4 =>
  (part (x4,())).bind fun r =>
  (nB t.2.1 r).bind fun x5 =>
  some (.inl (t.1,x5.1,w64 (t.2.2 - 1)))
 else
 some (.inr (.inr (t.1,t.2.1)))
theorem sP (s : State) (label : Int) (part part_' : (TupT fam [.st 0] → Option Int)) (h_part : ∀ a,Lo (part a) (part_' a)) (up : List (List UInt8)) (t : Vec × Vec × Int) : Lo (ko s label part up t) (mc s label part_' up t):=by
 unfold ko mc
 repeat' (first | with_reducible exact rK _ _ | with_reducible exact vt _ _ | exact h_part _ | with_reducible refine ad ?_ ?_ ?_ ?_ ?_ | with_reducible refine aa ?_ ?_ ?_ ?_ | with_reducible refine ab ?_ ?_ ?_ | with_reducible refine af ?_ ?_ | with_reducible refine aj ?_ ?_ | with_reducible refine ai ?_ _ | (intro _) | with_reducible exact ah _ | exact ag | (dsimp only))
def kO (s : State) (path : List UInt8) (label : Int) (part : (TupT fam [.st 0] → Option Int)) : Option Vec :=
 (rr path).bind fun up =>
 (lL s.Conf path).bind fun x =>
 bif ! x.2 then
 some (⟨0,0⟩ : Vec)
 else
 (gJ s label).bind fun x1 =>
 let i:=w64 ((up.length : Int) - 2)
 (itr 4096 (ko s label part up) ((⟨0,0⟩ : Vec),x1,i)).bind fun q0 =>
 match q0 with
 | .inl q1 =>
  some q1
 | .inr q2 =>
  some q2.2
theorem qD (s : State) (path : List UInt8) (label : Int) (part part_' : (TupT fam [.st 0] → Option Int)) (h_part : ∀ a,Lo (part a) (part_' a)) : Lo (kO s path label part) (ke s path label part_'):=by
 unfold kO ke
 repeat' (first | with_reducible exact yp _ | with_reducible exact rK _ _ | with_reducible exact la _ _ | with_reducible refine sP _ _ _ _ ?_ _ _ | exact h_part _ | with_reducible refine ad ?_ ?_ ?_ ?_ ?_ | with_reducible refine aa ?_ ?_ ?_ ?_ | with_reducible refine ab ?_ ?_ ?_ | with_reducible refine af ?_ ?_ | with_reducible refine aj ?_ ?_ | with_reducible refine ai ?_ _ | (intro _) | with_reducible exact ah _ | exact ag | (dsimp only))
def fr (c : Cap) : Option Int :=
 some c.Least
theorem n_ (c : Cap) : Lo (fr c) (dX c):=by
 unfold fr dX
 repeat' (first | with_reducible refine ad ?_ ?_ ?_ ?_ ?_ | with_reducible refine aa ?_ ?_ ?_ ?_ | with_reducible refine ab ?_ ?_ ?_ | with_reducible refine af ?_ ?_ | with_reducible refine aj ?_ ?_ | with_reducible refine ai ?_ _ | (intro _) | with_reducible exact ah _ | exact ag | (dsimp only))
def jD (s : State) (path : List UInt8) (label : Int) : Option Vec :=
 (kO s path label (fun a' => fr a'.1)).bind fun x =>
 some x
theorem pm (s : State) (path : List UInt8) (label : Int) : Lo (jD s path label) (jw s path label):=by
 unfold jD jw
 repeat' (first | with_reducible refine qD _ _ _ _ _ ?_ | with_reducible exact n_ _ | with_reducible refine ad ?_ ?_ ?_ ?_ ?_ | with_reducible refine aa ?_ ?_ ?_ ?_ | with_reducible refine ab ?_ ?_ ?_ | with_reducible refine af ?_ ?_ | with_reducible refine aj ?_ ?_ | with_reducible refine ai ?_ _ | (intro _) | with_reducible exact ah _ | exact ag | (dsimp only))
def lN (a : App) : Option Bool :=
 bif a.State == 1 then
 some true
 else
 some (a.State == 2)
theorem rP (a : App) : Lo (lN a) (l7 a):=by
 unfold lN l7
 repeat' (first | with_reducible refine ad ?_ ?_ ?_ ?_ ?_ | with_reducible refine aa ?_ ?_ ?_ ?_ | with_reducible refine ab ?_ ?_ ?_ | with_reducible refine af ?_ ?_ | with_reducible refine aj ?_ ?_ | with_reducible refine ai ?_ _ | (intro _) | with_reducible exact ah _ | exact ag | (dsimp only))
def cB (s : List Int) (f : (TupT fam [.int .i64] → Option Bool)) (t : Int) : Option (Int ⊕ (Int ⊕ Unit)) :=
 bif decide (t < (s.length : Int)) then
 (idx s t).bind fun x =>
 (f (x,())).bind fun r =>
 bif r then
  some (.inr (.inl t))
 else
  some (.inl (w64 (t + 1)))
 else
 some (.inr (.inr ()))
theorem jo (s : List Int) (f f_' : (TupT fam [.int .i64] → Option Bool)) (h_f : ∀ a,Lo (f a) (f_' a)) (t : Int) : Lo (cB s f t) (cW s f_' t):=by
 unfold cB cW
 repeat' (first | exact h_f _ | with_reducible refine ad ?_ ?_ ?_ ?_ ?_ | with_reducible refine aa ?_ ?_ ?_ ?_ | with_reducible refine ab ?_ ?_ ?_ | with_reducible refine af ?_ ?_ | with_reducible refine aj ?_ ?_ | with_reducible refine ai ?_ _ | (intro _) | with_reducible exact ah _ | exact ag | (dsimp only))
def dc (s : List Int) (f : (TupT fam [.int .i64] → Option Bool)) : Option Int :=
 (itr 4096 (cB s f) 0).bind fun q0 =>
 match q0 with
 | .inl q =>
 some q
 | .inr _ =>
 some (-1)
theorem kL (s : List Int) (f f_' : (TupT fam [.int .i64] → Option Bool)) (h_f : ∀ a,Lo (f a) (f_' a)) : Lo (dc s f) (b7 s f_'):=by
 unfold dc b7
 repeat' (first | with_reducible refine jo _ _ _ ?_ _ | exact h_f _ | with_reducible refine ad ?_ ?_ ?_ ?_ ?_ | with_reducible refine aa ?_ ?_ ?_ ?_ | with_reducible refine ab ?_ ?_ ?_ | with_reducible refine af ?_ ?_ | with_reducible refine aj ?_ ?_ | with_reducible refine ai ?_ _ | (intro _) | with_reducible exact ah _ | exact ag | (dsimp only))
def cC (s : List Int) (f : (TupT fam [.int .i64] → Option Bool)) : Option Bool :=
 (dc s f).bind fun x =>
 some (decide (x ≥ 0))
theorem jt (s : List Int) (f f_' : (TupT fam [.int .i64] → Option Bool)) (h_f : ∀ a,Lo (f a) (f_' a)) : Lo (cC s f) (bu s f_'):=by
 unfold cC bu
 repeat' (first | with_reducible refine kL _ _ _ ?_ | exact h_f _ | with_reducible refine ad ?_ ?_ ?_ ?_ ?_ | with_reducible refine aa ?_ ?_ ?_ ?_ | with_reducible refine ab ?_ ?_ ?_ | with_reducible refine af ?_ ?_ | with_reducible refine aj ?_ ?_ | with_reducible refine ai ?_ _ | (intro _) | with_reducible exact ah _ | exact ag | (dsimp only))
def nh (n : Int) (p : Int) (p1 : Int) : Option Bool :=
 bif decide (n < p) then
 some true
 else
 some (decide (n > p1))
theorem vo (n : Int) (p : Int) (p1 : Int) : Lo (nh n p p1) (mC n p p1):=by
 unfold nh mC
 repeat' (first | with_reducible refine ad ?_ ?_ ?_ ?_ ?_ | with_reducible refine aa ?_ ?_ ?_ ?_ | with_reducible refine ab ?_ ?_ ?_ | with_reducible refine af ?_ ?_ | with_reducible refine aj ?_ ?_ | with_reducible refine ai ?_ _ | (intro _) | with_reducible exact ah _ | exact ag | (dsimp only))
def mD (least : Int) (most : Int) (l : List Int) : Option Bool :=
 (cC l (fun a' => nh a'.1 least most)).bind fun x =>
 some (! x)
theorem wZ (least : Int) (most : Int) (l : List Int) : Lo (mD least most l) (nK least most l):=by
 unfold mD nK
 repeat' (first | with_reducible refine jt _ _ _ ?_ | with_reducible exact vo _ _ _ | with_reducible refine ad ?_ ?_ ?_ ?_ ?_ | with_reducible refine aa ?_ ?_ ?_ ?_ | with_reducible refine ab ?_ ?_ ?_ | with_reducible refine af ?_ ?_ | with_reducible refine aj ?_ ?_ | with_reducible refine ai ?_ _ | (intro _) | with_reducible exact ah _ | exact ag | (dsimp only))
def ji (l : List Ask) (label : Int) (t : Vec × Int) : Option ((Vec × Int) ⊕ Vec) :=
 bif decide (t.2 < (l.length : Int)) then
 (
  (idx l t.2).bind fun x =>
  (
  bif x.Label == label then
   (mD 0 1125899906842624 [x.Size.Mem,x.Size.Cores]).bind fun x1 =>
   bif x1 then
   (mD 0 50 [x.Count]).bind fun x2 =>
   some x2
   else
   some false
  else
   some false).bind fun q =>
  bif q then
  some (⟨w64 (t.1.Mem + (w64 (x.Size.Mem * x.Count))),w64 (t.1.Cores + (w64 (x.Size.Cores * x.Count)))⟩ : Vec)
  else
  some t.1).bind fun out =>
 some (.inl (out,w64 (t.2 + 1)))
 else
 some (.inr t.1)
theorem rQ (l : List Ask) (label : Int) (t : Vec × Int) : Lo (ji l label t) (ka l label t):=by
 unfold ji ka
 repeat' (first | with_reducible exact wZ _ _ _ | with_reducible refine ad ?_ ?_ ?_ ?_ ?_ | with_reducible refine aa ?_ ?_ ?_ ?_ | with_reducible refine ab ?_ ?_ ?_ | with_reducible refine af ?_ ?_ | with_reducible refine aj ?_ ?_ | with_reducible refine ai ?_ _ | (intro _) | with_reducible exact ah _ | exact ag | (dsimp only))
def k_ (l : List Ask) (label : Int) : Option Vec :=
 (itr 4096 (ji l label) ((⟨0,0⟩ : Vec),0)).bind fun out1 =>
 some out1
theorem tQ (l : List Ask) (label : Int) : Lo (k_ l label) (kF l label):=by
 unfold k_ kF
 repeat' (first | with_reducible exact rQ _ _ _ | with_reducible refine ad ?_ ?_ ?_ ?_ ?_ | with_reducible refine aa ?_ ?_ ?_ ?_ | with_reducible refine ab ?_ ?_ ?_ | with_reducible refine af ?_ ?_ | with_reducible refine aj ?_ ?_ | with_reducible refine ai ?_ _ | (intro _) | with_reducible exact ah _ | exact ag | (dsimp only))
def eL (v : View) (t : Vec × Int) : Option ((Vec × Int) ⊕ Vec) :=
 bif decide (t.2 < (v.s.Apps.length : Int)) then
 (
  (idx v.s.Apps t.2).bind fun x =>
  (
  (lN x).bind fun x1 =>
  bif x1 then
   (gH v x).bind fun x2 =>
   some x2
  else
   some false).bind fun q =>
  bif q then
  (k_ x.Asks v.label).bind fun x3 =>
  (kA t.1 x3).bind fun x4 =>
  some x4.1
  else
  some t.1).bind fun out =>
 some (.inl (out,w64 (t.2 + 1)))
 else
 some (.inr t.1)
theorem nj (v : View) (t : Vec × Int) : Lo (eL v t) (fS v t):=by
 unfold eL fS
 repeat' (first | with_reducible exact rP _ | with_reducible exact mA _ _ | with_reducible exact tQ _ _ | with_reducible exact o6 _ _ | with_reducible refine ad ?_ ?_ ?_ ?_ ?_ | with_reducible refine aa ?_ ?_ ?_ ?_ | with_reducible refine ab ?_ ?_ ?_ | with_reducible refine af ?_ ?_ | with_reducible refine aj ?_ ?_ | with_reducible refine ai ?_ _ | (intro _) | with_reducible exact ah _ | exact ag | (dsimp only))
def gp (v : View) : Option Vec :=
 (itr 4096 (eL v) ((⟨0,0⟩ : Vec),0)).bind fun out1 =>
 some out1
theorem pn (v : View) : Lo (gp v) (eZ v):=by
 unfold gp eZ
 repeat' (first | with_reducible exact nj _ _ | with_reducible refine ad ?_ ?_ ?_ ?_ ?_ | with_reducible refine aa ?_ ?_ ?_ ?_ | with_reducible refine ab ?_ ?_ ?_ | with_reducible refine af ?_ ?_ | with_reducible refine aj ?_ ?_ | with_reducible refine ai ?_ _ | (intro _) | with_reducible exact ah _ | exact ag | (dsimp only))
def ig (s : State) (path : List UInt8) (label : Int) : Option Vec :=
 (gp (⟨⟨⟨s.Conf.Labels,s.Conf.Queues⟩,s.Nodes,s.Apps,s.Conts,s.Slots,s.Plans,s.Now,s.Epoch,s.Seq⟩,path,label,(-1)⟩ : View)).bind fun x =>
 some x
theorem nA (s : State) (path : List UInt8) (label : Int) : Lo (ig s path label) (gK s path label):=by
 unfold ig gK
 repeat' (first | with_reducible exact pn _ | with_reducible refine ad ?_ ?_ ?_ ?_ ?_ | with_reducible refine aa ?_ ?_ ?_ ?_ | with_reducible refine ab ?_ ?_ ?_ | with_reducible refine af ?_ ?_ | with_reducible refine aj ?_ ?_ | with_reducible refine ai ?_ _ | (intro _) | with_reducible exact ah _ | exact ag | (dsimp only))
def lj (c : Conf) (path : List UInt8) (t : List (List UInt8) × Int) : Option ((List (List UInt8) × Int) ⊕ List (List UInt8)) :=
 bif decide (t.2 < (c.Queues.length : Int)) then
 (
  (idx c.Queues t.2).bind fun x =>
  (km x.Path).bind fun x1 =>
  (
  bif x1.2 then
   some (x1.1 == path)
  else
   some false).bind fun q =>
  bif q then
  (app 16 t.1 [x.Path]).bind fun l =>
  some l
  else
  some t.1).bind fun out =>
 some (.inl (out,w64 (t.2 + 1)))
 else
 some (.inr t.1)
theorem th (c : Conf) (path : List UInt8) (t : List (List UInt8) × Int) : Lo (lj c path t) (nW c path t):=by
 unfold lj nW
 repeat' (first | with_reducible exact qE _ | with_reducible refine ad ?_ ?_ ?_ ?_ ?_ | with_reducible refine aa ?_ ?_ ?_ ?_ | with_reducible refine ab ?_ ?_ ?_ | with_reducible refine af ?_ ?_ | with_reducible refine aj ?_ ?_ | with_reducible refine ai ?_ _ | (intro _) | with_reducible exact ah _ | exact ag | (dsimp only))
def pe (c : Conf) (path : List UInt8) : Option (List (List UInt8)) :=
 (itr 4096 (lj c path) ([],0)).bind fun out1 =>
 some out1
theorem wG (c : Conf) (path : List UInt8) : Lo (pe c path) (oP c path):=by
 unfold pe oP
 repeat' (first | with_reducible exact th _ _ _ | with_reducible refine ad ?_ ?_ ?_ ?_ ?_ | with_reducible refine aa ?_ ?_ ?_ ?_ | with_reducible refine ab ?_ ?_ ?_ | with_reducible refine af ?_ ?_ | with_reducible refine aj ?_ ?_ | with_reducible refine ai ?_ _ | (intro _) | with_reducible exact ah _ | exact ag | (dsimp only))
def fP (c : Cap) : Option Int :=
 some c.Most
theorem o7 (c : Cap) : Lo (fP c) (em c):=by
 unfold fP em
 repeat' (first | with_reducible refine ad ?_ ?_ ?_ ?_ ?_ | with_reducible refine aa ?_ ?_ ?_ ?_ | with_reducible refine ab ?_ ?_ ?_ | with_reducible refine af ?_ ?_ | with_reducible refine aj ?_ ?_ | with_reducible refine ai ?_ _ | (intro _) | with_reducible exact ah _ | exact ag | (dsimp only))
def nS (s : State) (path : List UInt8) (label : Int) : Option Vec :=
 (kO s path label (fun a' => fP a'.1)).bind fun x =>
 some x
theorem vl (s : State) (path : List UInt8) (label : Int) : Lo (nS s path label) (mN s path label):=by
 unfold nS mN
 repeat' (first | with_reducible refine qD _ _ _ _ _ ?_ | with_reducible exact o7 _ | with_reducible refine ad ?_ ?_ ?_ ?_ ?_ | with_reducible refine aa ?_ ?_ ?_ ?_ | with_reducible refine ab ?_ ?_ ?_ | with_reducible refine af ?_ ?_ | with_reducible refine aj ?_ ?_ | with_reducible refine ai ?_ _ | (intro _) | with_reducible exact ah _ | exact ag | (dsimp only))
def jc (l : List Int) (t : Int × Int) : Option ((Int × Int) ⊕ Int) :=
 bif decide (t.2 < (l.length : Int)) then
 (idx l t.2).bind fun x =>
 some (.inl (imin t.1 x,w64 (t.2 + 1)))
 else
 some (.inr t.1)
theorem qZ (l : List Int) (t : Int × Int) : Lo (jc l t) (kQ l t):=by
 unfold jc kQ
 repeat' (first | with_reducible refine ad ?_ ?_ ?_ ?_ ?_ | with_reducible refine aa ?_ ?_ ?_ ?_ | with_reducible refine ab ?_ ?_ ?_ | with_reducible refine af ?_ ?_ | with_reducible refine aj ?_ ?_ | with_reducible refine ai ?_ _ | (intro _) | with_reducible exact ah _ | exact ag | (dsimp only))
def d8 (first : Int) (l : List Int) : Option Int :=
 (itr 4096 (jc l) (first,0)).bind fun first1 =>
 some first1
theorem kq (first : Int) (l : List Int) : Lo (d8 first l) (eb first l):=by
 unfold d8 eb
 repeat' (first | with_reducible exact qZ _ _ | with_reducible refine ad ?_ ?_ ?_ ?_ ?_ | with_reducible refine aa ?_ ?_ ?_ ?_ | with_reducible refine ab ?_ ?_ ?_ | with_reducible refine af ?_ ?_ | with_reducible refine aj ?_ ?_ | with_reducible refine ai ?_ _ | (intro _) | with_reducible exact ah _ | exact ag | (dsimp only))
def dw (n : Int) : Option Int :=
 (
 bif decide (n < 0) then
  some true
 else
  some (decide (n > 1125899906842624))).bind fun q =>
 bif q then
 some 0
 else
 some n
theorem mn (n : Int) : Lo (dw n) (dU n):=by
 unfold dw dU
 repeat' (first | with_reducible refine ad ?_ ?_ ?_ ?_ ?_ | with_reducible refine aa ?_ ?_ ?_ ?_ | with_reducible refine ab ?_ ?_ ?_ | with_reducible refine af ?_ ?_ | with_reducible refine aj ?_ ?_ | with_reducible refine ai ?_ _ | (intro _) | with_reducible exact ah _ | exact ag | (dsimp only))
def jP (want : List Int) (most : List Int) (n : Int) (t1 : List Int × Int × Int) : Option ((List Int × Int × Int) ⊕ List Int) :=
 bif decide (t1.2.2 < n) then
 (idx want t1.2.2).bind fun x9 =>
 (dw x9).bind fun x10 =>
 (idx most t1.2.2).bind fun x11 =>
 (dw x11).bind fun x12 =>
 (d8 x10 [x12]).bind fun x13 =>
 (inb t1.2.2 t1.1.length).bind fun i2 =>
 (t1.1[i2]?).bind fun x14 =>
 (d8 (imax (w64 (x13 - x14)) 0) [t1.2.1]).bind fun more =>
 (inb t1.2.2 t1.1.length).bind fun i3 =>
 (t1.1[i3]?).bind fun x15 =>
 (inb t1.2.2 t1.1.length).bind fun i4 =>
 (t1.1[i4]?).bind fun x16 =>
 some (.inl (List.set t1.1 i4 (w64 (x15 + more)),w64 (t1.2.1 - more),w64 (t1.2.2 + 1)))
 else
 some (.inr t1.1)
theorem sc (want : List Int) (most : List Int) (n : Int) (t1 : List Int × Int × Int) : Lo (jP want most n t1) (kW want most n t1):=by
 unfold jP kW
 repeat' (first | with_reducible exact mn _ | with_reducible exact kq _ _ | with_reducible refine ad ?_ ?_ ?_ ?_ ?_ | with_reducible refine aa ?_ ?_ ?_ ?_ | with_reducible refine ab ?_ ?_ ?_ | with_reducible refine af ?_ ?_ | with_reducible refine aj ?_ ?_ | with_reducible refine ai ?_ _ | (intro _) | with_reducible exact ah _ | exact ag | (dsimp only))
def jJ (least : List Int) (want : List Int) (most : List Int) (n : Int) (t : List Int × Int × Int) : Option ((List Int × Int × Int) ⊕ ((List Int × Int))) :=
 bif decide (t.2.2 < n) then
 (idx least t.2.2).bind fun x =>
 (dw x).bind fun x1 =>
 (idx want t.2.2).bind fun x2 =>
 (dw x2).bind fun x3 =>
 (idx most t.2.2).bind fun x4 =>
 (dw x4).bind fun x5 =>
 (d8 x1 [x3,x5,t.2.1]).bind fun x6 =>
 (inb t.2.2 t.1.length).bind fun i =>
 (t.1[i]?).bind fun x7 =>
 (inb t.2.2 (List.set t.1 i x6).length).bind fun i1 =>
 ((List.set t.1 i x6)[i1]?).bind fun x8 =>
 some (.inl (List.set t.1 i x6,w64 (t.2.1 - x8),w64 (t.2.2 + 1)))
 else
 some (.inr (t.1,t.2.1))
theorem sg (least : List Int) (want : List Int) (most : List Int) (n : Int) (t : List Int × Int × Int) : Lo (jJ least want most n t) (kY least want most n t):=by
 unfold jJ kY
 repeat' (first | with_reducible exact mn _ | with_reducible exact kq _ _ | with_reducible refine ad ?_ ?_ ?_ ?_ ?_ | with_reducible refine aa ?_ ?_ ?_ ?_ | with_reducible refine ab ?_ ?_ ?_ | with_reducible refine af ?_ ?_ | with_reducible refine aj ?_ ?_ | with_reducible refine ai ?_ _ | (intro _) | with_reducible exact ah _ | exact ag | (dsimp only))
def mf (total : Int) (least : List Int) (want : List Int) (most : List Int) : Option (List Int) :=
 (d8 (least.length : Int) [(want.length : Int),(most.length : Int)]).bind fun n =>
 (mkl 8 n n 0).bind fun l =>
 (dw total).bind fun left =>
 (itr 4096 (jJ least want most n) (l,left,0)).bind fun q =>
 (itr 4096 (jP want most n) (q.1,q.2,0)).bind fun out =>
 some out
theorem uK (total : Int) (least : List Int) (want : List Int) (most : List Int) : Lo (mf total least want most) (lM total least want most):=by
 unfold mf lM
 repeat' (first | with_reducible exact kq _ _ | with_reducible exact mn _ | with_reducible exact sg _ _ _ _ _ | with_reducible exact sc _ _ _ _ | with_reducible refine ad ?_ ?_ ?_ ?_ ?_ | with_reducible refine aa ?_ ?_ ?_ ?_ | with_reducible refine ab ?_ ?_ ?_ | with_reducible refine af ?_ ?_ | with_reducible refine aj ?_ ?_ | with_reducible refine ai ?_ _ | (intro _) | with_reducible exact ah _ | exact ag | (dsimp only))
def iE (s : State) (label : Int) (deep : Int) (self : State → (List UInt8) → Int → Int → Int → Option (List Share)) (kids : List (List UInt8)) (x5 : List Int) (t1 : List Share × Int) : Option ((List Share × Int) ⊕ List Share) :=
 bif decide (t1.2 < (x5.length : Int)) then
 (inb t1.2 x5.length).bind fun i1 =>
 (x5[i1]?).bind fun x6 =>
 (inb t1.2 kids.length).bind fun i2 =>
 (kids[i2]?).bind fun x7 =>
 (self s x7 label x6 (w64 (deep + 1))).bind fun x8 =>
 (app 24 t1.1 x8).bind fun l3 =>
 some (.inl (l3,w64 (t1.2 + 1)))
 else
 some (.inr t1.1)
theorem qM (s : State) (label : Int) (deep : Int) (self self_' : State → (List UInt8) → Int → Int → Int → Option (List Share)) (h_self : ∀ (a0 : State) (a1 : (List UInt8)) (a2 : Int) (a3 : Int) (a4 : Int),Lo (self a0 a1 a2 a3 a4) (self_' a0 a1 a2 a3 a4)) (kids : List (List UInt8)) (x5 : List Int) (t1 : List Share × Int) : Lo (iE s label deep self kids x5 t1) (jM s label deep self_' kids x5 t1):=by
 unfold iE jM
 repeat' (first | with_reducible refine h_self _ _ _ _ _ | with_reducible refine ad ?_ ?_ ?_ ?_ ?_ | with_reducible refine aa ?_ ?_ ?_ ?_ | with_reducible refine ab ?_ ?_ ?_ | with_reducible refine af ?_ ?_ | with_reducible refine aj ?_ ?_ | with_reducible refine ai ?_ _ | (intro _) | with_reducible exact ah _ | exact ag | (dsimp only))
def iI (s : State) (label : Int) (kids : List (List UInt8)) (t : Rows3_ListInt × Int) : Option ((Rows3_ListInt × Int) ⊕ Rows3_ListInt) :=
 bif decide (t.2 < (kids.length : Int)) then
 (inb t.2 kids.length).bind fun i =>
 (kids[i]?).bind fun x =>
 (jD s x label).bind fun x1 =>
 (ea s x label).bind fun x2 =>
 (ig s x label).bind fun x3 =>
 (nS s x label).bind fun x4 =>
 (inS t.2 (t.1.r0.length : Int) t.1.r0.length).bind fun p =>
 (inS 0 1 [x1.Mem,w64 (x2.Mem + x3.Mem),x4.Mem].length).bind fun p1 =>
 (inS t.2 (t.1.r1.length : Int) t.1.r1.length).bind fun p2 =>
 (inS 1 2 [x1.Mem,w64 (x2.Mem + x3.Mem),x4.Mem].length).bind fun p3 =>
 (inS t.2 (t.1.r2.length : Int) t.1.r2.length).bind fun p4 =>
 (inS 2 3 [x1.Mem,w64 (x2.Mem + x3.Mem),x4.Mem].length).bind fun p5 =>
 some (.inl ((⟨cpy t.1.r0 p.1 p.2 (sub [x1.Mem,w64 (x2.Mem + x3.Mem),x4.Mem] p1.1 p1.2),cpy t.1.r1 p2.1 p2.2 (sub [x1.Mem,w64 (x2.Mem + x3.Mem),x4.Mem] p3.1 p3.2),cpy t.1.r2 p4.1 p4.2 (sub [x1.Mem,w64 (x2.Mem + x3.Mem),x4.Mem] p5.1 p5.2)⟩ : Rows3_ListInt),w64 (t.2 + 1)))
 else
 some (.inr t.1)
theorem qK (s : State) (label : Int) (kids : List (List UInt8)) (t : Rows3_ListInt × Int) : Lo (iI s label kids t) (jU s label kids t):=by
 unfold iI jU
 repeat' (first | with_reducible exact pm _ _ _ | with_reducible exact jA _ _ _ | with_reducible exact nA _ _ _ | with_reducible exact vl _ _ _ | with_reducible refine ad ?_ ?_ ?_ ?_ ?_ | with_reducible refine aa ?_ ?_ ?_ ?_ | with_reducible refine ab ?_ ?_ ?_ | with_reducible refine af ?_ ?_ | with_reducible refine aj ?_ ?_ | with_reducible refine ai ?_ _ | (intro _) | with_reducible exact ah _ | exact ag | (dsimp only))
def kb (self : State → (List UInt8) → Int → Int → Int → Option (List Share)) (s : State) (path : List UInt8) (label : Int) (mem : Int) (deep : Int) : Option (List Share) :=
 (pe s.Conf path).bind fun kids =>
 (
 bif (kids.length : Int) == 0 then
  some true
 else
  some (decide (deep > 4))).bind fun q =>
 bif q then
 some [(⟨path,mem⟩ : Share)]
 else
 (mkl 8 (kids.length : Int) (kids.length : Int) 0).bind fun l =>
 (mkl 8 (kids.length : Int) (kids.length : Int) 0).bind fun l1 =>
 (mkl 8 (kids.length : Int) (kids.length : Int) 0).bind fun l2 =>
 (itr 4096 (iI s label kids) ((⟨l,l1,l2⟩ : Rows3_ListInt),0)).bind fun rows =>
 (mf mem rows.r0 rows.r1 rows.r2).bind fun x5 =>
 (itr 4096 (iE s label deep self kids x5) ([],0)).bind fun out =>
 some out
theorem sJ (self self_' : State → (List UInt8) → Int → Int → Int → Option (List Share)) (h_self : ∀ (a0 : State) (a1 : (List UInt8)) (a2 : Int) (a3 : Int) (a4 : Int),Lo (self a0 a1 a2 a3 a4) (self_' a0 a1 a2 a3 a4)) (s : State) (path : List UInt8) (label : Int) (mem : Int) (deep : Int) : Lo (kb self s path label mem deep) (mv self_' s path label mem deep):=by
 unfold kb mv
 repeat' (first | with_reducible exact wG _ _ | with_reducible exact qK _ _ _ _ | with_reducible exact uK _ _ _ _ | with_reducible refine qM _ _ _ _ _ ?_ _ _ _ | with_reducible refine h_self _ _ _ _ _ | with_reducible refine ad ?_ ?_ ?_ ?_ ?_ | with_reducible refine aa ?_ ?_ ?_ ?_ | with_reducible refine ab ?_ ?_ ?_ | with_reducible refine af ?_ ?_ | with_reducible refine aj ?_ ?_ | with_reducible refine ai ?_ _ | (intro _) | with_reducible exact ah _ | exact ag | (dsimp only))
def hU : Nat → State → (List UInt8) → Int → Int → Int → Option (List Share)
 | 0 => fun _ _ _ _ _ => none
 | n + 1 => kb (hU n)
theorem nf : ∀ (n : Nat),∀ (a0 : State) (a1 : List UInt8) (a2 : Int) (a3 : Int) (a4 : Int),Lo (hU n a0 a1 a2 a3 a4) (gL n a0 a1 a2 a3 a4)
 | 0 => fun _ _ _ _ _ => ag
 | n + 1 => fun a0 a1 a2 a3 a4 => sJ (hU n) (gL n) (nf n) a0 a1 a2 a3 a4
def mh (a0 : State) (a1 : List UInt8) (a2 : Int) (a3 : Int) (a4 : Int) : Option (List Share):=hU 64 a0 a1 a2 a3 a4
theorem uG (a0 : State) (a1 : List UInt8) (a2 : Int) (a3 : Int) (a4 : Int) : Lo (mh a0 a1 a2 a3 a4) (lJ a0 a1 a2 a3 a4):=by
 unfold mh lJ
 repeat' (first | with_reducible refine nf _ _ _ _ _ _ | with_reducible refine ad ?_ ?_ ?_ ?_ ?_ | with_reducible refine aa ?_ ?_ ?_ ?_ | with_reducible refine ab ?_ ?_ ?_ | with_reducible refine af ?_ ?_ | with_reducible refine aj ?_ ?_ | with_reducible refine ai ?_ _ | (intro _) | with_reducible exact ah _ | exact ag | (dsimp only))
def fK (s : State) (label : Int) : Option (List Share) :=
 (gJ s label).bind fun x =>
 (mh s ([114,111,111,116] : List UInt8) label x.Mem 1).bind fun x1 =>
 some x1
theorem oH (s : State) (label : Int) : Lo (fK s label) (iv s label):=by
 unfold fK iv
 repeat' (first | with_reducible exact la _ _ | with_reducible exact uG _ _ _ _ _ | with_reducible refine ad ?_ ?_ ?_ ?_ ?_ | with_reducible refine aa ?_ ?_ ?_ ?_ | with_reducible refine ab ?_ ?_ ?_ | with_reducible refine af ?_ ?_ | with_reducible refine aj ?_ ?_ | with_reducible refine ai ?_ _ | (intro _) | with_reducible exact ah _ | exact ag | (dsimp only))
def mu (s : List App) (f : (TupT fam [.st 6] → Option Bool)) (t : Int) : Option (Int ⊕ (Int ⊕ Unit)) :=
 bif decide (t < (s.length : Int)) then
 (idx s t).bind fun x =>
 (f (x,())).bind fun r =>
 bif r then
  some (.inr (.inl t))
 else
  some (.inl (w64 (t + 1)))
 else
 some (.inr (.inr ()))
theorem uc (s : List App) (f f_' : (TupT fam [.st 6] → Option Bool)) (h_f : ∀ a,Lo (f a) (f_' a)) (t : Int) : Lo (mu s f t) (pc s f_' t):=by
 unfold mu pc
 repeat' (first | exact h_f _ | with_reducible refine ad ?_ ?_ ?_ ?_ ?_ | with_reducible refine aa ?_ ?_ ?_ ?_ | with_reducible refine ab ?_ ?_ ?_ | with_reducible refine af ?_ ?_ | with_reducible refine aj ?_ ?_ | with_reducible refine ai ?_ _ | (intro _) | with_reducible exact ah _ | exact ag | (dsimp only))
def qp (s : List App) (f : (TupT fam [.st 6] → Option Bool)) : Option Int :=
 (itr 4096 (mu s f) 0).bind fun q0 =>
 match q0 with
 | .inl q =>
 some q
 | .inr _ =>
 some (-1)
theorem xa (s : List App) (f f_' : (TupT fam [.st 6] → Option Bool)) (h_f : ∀ a,Lo (f a) (f_' a)) : Lo (qp s f) (p_ s f_'):=by
 unfold qp p_
 repeat' (first | with_reducible refine uc _ _ _ ?_ _ | exact h_f _ | with_reducible refine ad ?_ ?_ ?_ ?_ ?_ | with_reducible refine aa ?_ ?_ ?_ ?_ | with_reducible refine ab ?_ ?_ ?_ | with_reducible refine af ?_ ?_ | with_reducible refine aj ?_ ?_ | with_reducible refine ai ?_ _ | (intro _) | with_reducible exact ah _ | exact ag | (dsimp only))
def ph (a : App) (p : Int) : Option Bool :=
 some (a.Id == p)
theorem wr (a : App) (p : Int) : Lo (ph a p) (oO a p):=by
 unfold ph oO
 repeat' (first | with_reducible refine ad ?_ ?_ ?_ ?_ ?_ | with_reducible refine aa ?_ ?_ ?_ ?_ | with_reducible refine ab ?_ ?_ ?_ | with_reducible refine af ?_ ?_ | with_reducible refine aj ?_ ?_ | with_reducible refine ai ?_ _ | (intro _) | with_reducible exact ah _ | exact ag | (dsimp only))
def oz (s : State) (id_ : Int) : Option Int :=
 (qp s.Apps (fun a' => ph a'.1 id_)).bind fun x =>
 some x
theorem tv (s : State) (id_ : Int) : Lo (oz s id_) (pk s id_):=by
 unfold oz pk
 repeat' (first | with_reducible refine xa _ _ _ ?_ | with_reducible exact wr _ _ | with_reducible refine ad ?_ ?_ ?_ ?_ ?_ | with_reducible refine aa ?_ ?_ ?_ ?_ | with_reducible refine ab ?_ ?_ ?_ | with_reducible refine af ?_ ?_ | with_reducible refine aj ?_ ?_ | with_reducible refine ai ?_ _ | (intro _) | with_reducible exact ah _ | exact ag | (dsimp only))
def BH (s : List Ask) : Option (List Ask) :=
 bif s.isEmpty then
 none
 else
 (app 64 [] s).bind fun l =>
 some l
def qq (s : List Ask) : Option (List Ask):=app 64 [] s
theorem xi (s : List Ask) : Lo (qq s) (pW s):=by
 unfold qq pW
 repeat' (first | with_reducible refine ad ?_ ?_ ?_ ?_ ?_ | with_reducible refine aa ?_ ?_ ?_ ?_ | with_reducible refine ab ?_ ?_ ?_ | with_reducible refine af ?_ ?_ | with_reducible refine aj ?_ ?_ | with_reducible refine ai ?_ _ | (intro _) | with_reducible exact ah _ | exact ag | (dsimp only))
def gW (l : List Int) : Option (List Int) :=
 (mkl 8 (l.length : Int) (l.length : Int) 0).bind fun l1 =>
 some (cpy l1 0 l1.length l)
theorem wj (l : List Int) : Lo (gW l) (iy l):=by
 unfold gW iy
 repeat' (first | with_reducible refine ad ?_ ?_ ?_ ?_ ?_ | with_reducible refine aa ?_ ?_ ?_ ?_ | with_reducible refine ab ?_ ?_ ?_ | with_reducible refine af ?_ ?_ | with_reducible refine aj ?_ ?_ | with_reducible refine ai ?_ _ | (intro _) | with_reducible exact ah _ | exact ag | (dsimp only))
def mQ (a : App) : Option App :=
 (qq a.Asks).bind fun x =>
 (gW a.Grants).bind fun x1 =>
 (gW a.Kills).bind fun x2 =>
 (gW a.Told).bind fun x3 =>
 (gW a.Lost).bind fun x4 =>
 some (⟨a.Id,a.State,a.Queue,a.User,a.Prio,⟨a.Master.Mem,a.Master.Cores⟩,x,a.Seen,a.Beat,x1,x2,x3,x4⟩ : App)
theorem sm (a : App) : Lo (mQ a) (ng a):=by
 unfold mQ ng
 repeat' (first | with_reducible exact xi _ | with_reducible exact wj _ | with_reducible refine ad ?_ ?_ ?_ ?_ ?_ | with_reducible refine aa ?_ ?_ ?_ ?_ | with_reducible refine ab ?_ ?_ ?_ | with_reducible refine af ?_ ?_ | with_reducible refine aj ?_ ?_ | with_reducible refine ai ?_ _ | (intro _) | with_reducible exact ah _ | exact ag | (dsimp only))
def lG (s : State) (id_ : Int) : Option (App × Bool) :=
 (oz s id_).bind fun i =>
 bif decide (i < 0) then
 some ((⟨0,0,[],0,0,⟨0,0⟩,[],0,0,[],[],[],[]⟩ : App),false)
 else
 (idx s.Apps i).bind fun x =>
 (mQ x).bind fun x1 =>
 some (x1,true)
theorem vJ (s : State) (id_ : Int) : Lo (lG s id_) (oA s id_):=by
 unfold lG oA
 repeat' (first | with_reducible exact tv _ _ | with_reducible exact sm _ | with_reducible refine ad ?_ ?_ ?_ ?_ ?_ | with_reducible refine aa ?_ ?_ ?_ ?_ | with_reducible refine ab ?_ ?_ ?_ | with_reducible refine af ?_ ?_ | with_reducible refine aj ?_ ?_ | with_reducible refine ai ?_ _ | (intro _) | with_reducible exact ah _ | exact ag | (dsimp only))
def jg (s : State) (label : Int) (t1 : Looker × Int) : Option ((Looker × Int) ⊕ Looker) :=
 bif decide (t1.2 < (s.Conts.length : Int)) then
 (
  (idx s.Conts t1.2).bind fun x4 =>
  bif x4.Label != label then
  some t1.1
  else
  (lG s x4.App).bind fun x5 =>
  bif x4.Notice != 0 then
   (dg (⟨⟨⟨t1.1.s.Conf.Labels,t1.1.s.Conf.Queues⟩,t1.1.s.Nodes,t1.1.s.Apps,t1.1.s.Conts,t1.1.s.Slots,t1.1.s.Plans,t1.1.s.Now,t1.1.s.Epoch,t1.1.s.Seq⟩,t1.1.label,t1.1.over,mput (fun x6 => x4.Id == x6.k) t1.1.leaf (⟨x4.Id,x5.1.Queue⟩ : Ent2_IntListUInt8),t1.1.noticed,t1.1.gone⟩ : Looker) x4).bind fun x7 =>
   some x7
  else
   some (⟨⟨⟨t1.1.s.Conf.Labels,t1.1.s.Conf.Queues⟩,t1.1.s.Nodes,t1.1.s.Apps,t1.1.s.Conts,t1.1.s.Slots,t1.1.s.Plans,t1.1.s.Now,t1.1.s.Epoch,t1.1.s.Seq⟩,t1.1.label,t1.1.over,mput (fun x6 => x4.Id == x6.k) t1.1.leaf (⟨x4.Id,x5.1.Queue⟩ : Ent2_IntListUInt8),t1.1.noticed,t1.1.gone⟩ : Looker)).bind fun k1 =>
 some (.inl (k1,w64 (t1.2 + 1)))
 else
 some (.inr t1.1)
theorem q_ (s : State) (label : Int) (t1 : Looker × Int) : Lo (jg s label t1) (kP s label t1):=by
 unfold jg kP
 repeat' (first | with_reducible exact vJ _ _ | with_reducible exact iJ _ _ | with_reducible refine ad ?_ ?_ ?_ ?_ ?_ | with_reducible refine aa ?_ ?_ ?_ ?_ | with_reducible refine ab ?_ ?_ ?_ | with_reducible refine af ?_ ?_ | with_reducible refine aj ?_ ?_ | with_reducible refine ai ?_ _ | (intro _) | with_reducible exact ah _ | exact ag | (dsimp only))
def jl (s : State) (label : Int) (x : List Share) (t : Looker × Int) : Option ((Looker × Int) ⊕ Looker) :=
 bif decide (t.2 < (x.length : Int)) then
 (inb t.2 x.length).bind fun i =>
 (x[i]?).bind fun x1 =>
 (ea s x1.Path label).bind fun x2 =>
 some (.inl ((⟨⟨⟨t.1.s.Conf.Labels,t.1.s.Conf.Queues⟩,t.1.s.Nodes,t.1.s.Apps,t.1.s.Conts,t.1.s.Slots,t.1.s.Plans,t.1.s.Now,t.1.s.Epoch,t.1.s.Seq⟩,t.1.label,mput (fun x3 => x1.Path == x3.k) t.1.over (⟨x1.Path,w64 (x2.Mem - x1.Mem)⟩ : Ent0_ListUInt8Int),t.1.leaf,t.1.noticed,t.1.gone⟩ : Looker),w64 (t.2 + 1)))
 else
 some (.inr t.1)
theorem rS (s : State) (label : Int) (x : List Share) (t : Looker × Int) : Lo (jl s label x t) (kK s label x t):=by
 unfold jl kK
 repeat' (first | with_reducible exact jA _ _ _ | with_reducible refine ad ?_ ?_ ?_ ?_ ?_ | with_reducible refine aa ?_ ?_ ?_ ?_ | with_reducible refine ab ?_ ?_ ?_ | with_reducible refine af ?_ ?_ | with_reducible refine aj ?_ ?_ | with_reducible refine ai ?_ _ | (intro _) | with_reducible exact ah _ | exact ag | (dsimp only))
def lp (s : State) (label : Int) : Option Looker :=
 (fK s label).bind fun x =>
 (itr 4096 (jl s label x) ((⟨⟨⟨s.Conf.Labels,s.Conf.Queues⟩,s.Nodes,s.Apps,s.Conts,s.Slots,s.Plans,s.Now,s.Epoch,s.Seq⟩,label,[],[],[],0⟩ : Looker),0)).bind fun k =>
 (itr 4096 (jg s label) (k,0)).bind fun k2 =>
 some k2
theorem tR (s : State) (label : Int) : Lo (lp s label) (j_ s label):=by
 unfold lp j_
 repeat' (first | with_reducible exact oH _ _ | with_reducible exact rS _ _ _ _ | with_reducible exact q_ _ _ _ | with_reducible refine ad ?_ ?_ ?_ ?_ ?_ | with_reducible refine aa ?_ ?_ ?_ ?_ | with_reducible refine ab ?_ ?_ ?_ | with_reducible refine af ?_ ?_ | with_reducible refine aj ?_ ?_ | with_reducible refine ai ?_ _ | (intro _) | with_reducible exact ah _ | exact ag | (dsimp only))
def dY (k : Looker) (path : List UInt8) (x : Vec) (x1 : Vec) (x2 : App) (t1 : Int) : Option (Int ⊕ (Int ⊕ Unit)) :=
 bif decide (t1 < (x2.Asks.length : Int)) then
 (idx x2.Asks t1).bind fun x4 =>
 (
  bif x4.Label == k.label then
  some (decide ((w64 (x.Mem + x4.Size.Mem)) ≤ x1.Mem))
  else
  some false).bind fun q1 =>
 bif q1 then
  (ig k.s path k.label).bind fun x5 =>
  some (.inr (.inl (imin x5.Mem (w64 (x1.Mem - x.Mem)))))
 else
  some (.inl (w64 (t1 + 1)))
 else
 some (.inr (.inr ()))
theorem mo (k : Looker) (path : List UInt8) (x : Vec) (x1 : Vec) (x2 : App) (t1 : Int) : Lo (dY k path x x1 x2 t1) (eH k path x x1 x2 t1):=by
 unfold dY eH
 repeat' (first | with_reducible exact nA _ _ _ | with_reducible refine ad ?_ ?_ ?_ ?_ ?_ | with_reducible refine aa ?_ ?_ ?_ ?_ | with_reducible refine ab ?_ ?_ ?_ | with_reducible refine af ?_ ?_ | with_reducible refine aj ?_ ?_ | with_reducible refine ai ?_ _ | (intro _) | with_reducible exact ah _ | exact ag | (dsimp only))
def dS (k : Looker) (path : List UInt8) (x : Vec) (x1 : Vec) (t : Int) : Option (Int ⊕ (Int ⊕ Unit)) :=
 bif decide (t < (k.s.Apps.length : Int)) then
 (
  (idx k.s.Apps t).bind fun x2 =>
  (
  (lN x2).bind fun x3 =>
  bif ! x3 then
   some true
  else
   some (! (x2.Queue == path))).bind fun q =>
  bif q then
  some (.inl ())
  else
  (itr 4096 (dY k path x x1 x2) 0).bind fun q0 =>
  match q0 with
  | .inl q2 =>
   some (.inr q2)
  | .inr _ =>
   some (.inl ()) : Option (Unit ⊕ Int)).bind fun q0 =>
 match q0 with
 | .inl _ =>
  some (.inl (w64 (t + 1)))
 | .inr q3 =>
  some (.inr (.inl q3))
 else
 some (.inr (.inr ()))
theorem mb (k : Looker) (path : List UInt8) (x : Vec) (x1 : Vec) (t : Int) : Lo (dS k path x x1 t) (eF k path x x1 t):=by
 unfold dS eF
 repeat' (first | with_reducible exact rP _ | with_reducible exact mo _ _ _ _ _ _ | with_reducible refine ad ?_ ?_ ?_ ?_ ?_ | with_reducible refine aa ?_ ?_ ?_ ?_ | with_reducible refine ab ?_ ?_ ?_ | with_reducible refine af ?_ ?_ | with_reducible refine aj ?_ ?_ | with_reducible refine ai ?_ _ | (intro _) | with_reducible exact ah _ | exact ag | (dsimp only))
def fx (k : Looker) (path : List UInt8) : Option (Int × Looker) :=
 (ea k.s path k.label).bind fun x =>
 (jD k.s path k.label).bind fun x1 =>
 (itr 4096 (dS k path x x1) 0).bind fun q0 =>
 match q0 with
 | .inl q4 =>
 some (q4,k)
 | .inr _ =>
 some (0,k)
theorem n7 (k : Looker) (path : List UInt8) : Lo (fx k path) (dW k path):=by
 unfold fx dW
 repeat' (first | with_reducible exact jA _ _ _ | with_reducible exact pm _ _ _ | with_reducible exact mb _ _ _ _ _ | with_reducible refine ad ?_ ?_ ?_ ?_ ?_ | with_reducible refine aa ?_ ?_ ?_ ?_ | with_reducible refine ab ?_ ?_ ?_ | with_reducible refine af ?_ ?_ | with_reducible refine aj ?_ ?_ | with_reducible refine ai ?_ _ | (intro _) | with_reducible exact ah _ | exact ag | (dsimp only))
def d9 (x : List Share) (t : Looker × Int × Int) : Option ((Looker × Int × Int) ⊕ ((Looker × Int))) :=
 bif decide (t.2.2 < (x.length : Int)) then
 (inb t.2.2 x.length).bind fun i =>
 (x[i]?).bind fun x1 =>
 (fx t.1 x1.Path).bind fun x2 =>
 let sum:=w64 (t.2.1 + x2.1)
 some (.inl (x2.2,sum,w64 (t.2.2 + 1)))
 else
 some (.inr (t.1,t.2.1))
theorem mP (x : List Share) (t : Looker × Int × Int) : Lo (d9 x t) (fm x t):=by
 unfold d9 fm
 repeat' (first | with_reducible exact n7 _ _ | with_reducible refine ad ?_ ?_ ?_ ?_ ?_ | with_reducible refine aa ?_ ?_ ?_ ?_ | with_reducible refine ab ?_ ?_ ?_ | with_reducible refine af ?_ ?_ | with_reducible refine aj ?_ ?_ | with_reducible refine ai ?_ _ | (intro _) | with_reducible exact ah _ | exact ag | (dsimp only))
def gb (k : Looker) : Option (Int × Looker) :=
 (fK k.s k.label).bind fun x =>
 (itr 4096 (d9 x) (k,0,0)).bind fun q =>
 (gJ q.1.s q.1.label).bind fun x3 =>
 (ea q.1.s ([114,111,111,116] : List UInt8) q.1.label).bind fun x4 =>
 some (w64 (q.2 - (imax (w64 (x3.Mem - x4.Mem)) 0)),q.1)
theorem oQ (k : Looker) : Lo (gb k) (ew k):=by
 unfold gb ew
 repeat' (first | with_reducible exact oH _ _ | with_reducible exact mP _ _ | with_reducible exact la _ _ | with_reducible exact jA _ _ _ | with_reducible refine ad ?_ ?_ ?_ ?_ ?_ | with_reducible refine aa ?_ ?_ ?_ ?_ | with_reducible refine ab ?_ ?_ ?_ | with_reducible refine af ?_ ?_ | with_reducible refine aj ?_ ?_ | with_reducible refine ai ?_ _ | (intro _) | with_reducible exact ah _ | exact ag | (dsimp only))
def jO (vals : List Int) (t : Int) : Option (Int ⊕ (Int ⊕ Unit)) :=
 bif decide (t < (vals.length : Int)) then
 (idx vals t).bind fun x =>
 bif x != 0 then
  some (.inr (.inl x))
 else
  some (.inl (w64 (t + 1)))
 else
 some (.inr (.inr ()))
theorem sj (vals : List Int) (t : Int) : Lo (jO vals t) (lr vals t):=by
 unfold jO lr
 repeat' (first | with_reducible refine ad ?_ ?_ ?_ ?_ ?_ | with_reducible refine aa ?_ ?_ ?_ ?_ | with_reducible refine ab ?_ ?_ ?_ | with_reducible refine af ?_ ?_ | with_reducible refine aj ?_ ?_ | with_reducible refine ai ?_ _ | (intro _) | with_reducible exact ah _ | exact ag | (dsimp only))
def mi (vals : List Int) : Option Int :=
 (itr 4096 (jO vals) 0).bind fun q0 =>
 match q0 with
 | .inl q =>
 some q
 | .inr _ =>
 some 0
theorem uM (vals : List Int) : Lo (mi vals) (lO vals):=by
 unfold mi lO
 repeat' (first | with_reducible exact sj _ _ | with_reducible refine ad ?_ ?_ ?_ ?_ ?_ | with_reducible refine aa ?_ ?_ ?_ ?_ | with_reducible refine ab ?_ ?_ ?_ | with_reducible refine af ?_ ?_ | with_reducible refine aj ?_ ?_ | with_reducible refine ai ?_ _ | (intro _) | with_reducible exact ah _ | exact ag | (dsimp only))
def dq (x : Int) : Option Bool :=
 some (x != x)
theorem mB (x : Int) : Lo (dq x) (dl x):=by
 unfold dq dl
 repeat' (first | with_reducible refine ad ?_ ?_ ?_ ?_ ?_ | with_reducible refine aa ?_ ?_ ?_ ?_ | with_reducible refine ab ?_ ?_ ?_ | with_reducible refine af ?_ ?_ | with_reducible refine aj ?_ ?_ | with_reducible refine ai ?_ _ | (intro _) | with_reducible exact ah _ | exact ag | (dsimp only))
def iF (x : Int) (y : Int) : Option Int :=
 (dq x).bind fun xNaN =>
 (dq y).bind fun yNaN =>
 bif xNaN then
 bif yNaN then
  some 0
 else
  some (-1)
 else
 bif yNaN then
  some 1
 else
  bif decide (x < y) then
  some (-1)
  else
  bif decide (x > y) then
   some 1
  else
   some 0
theorem qG (x : Int) (y : Int) : Lo (iF x y) (gD x y):=by
 unfold iF gD
 repeat' (first | with_reducible exact mB _ | with_reducible refine ad ?_ ?_ ?_ ?_ ?_ | with_reducible refine aa ?_ ?_ ?_ ?_ | with_reducible refine ab ?_ ?_ ?_ | with_reducible refine af ?_ ?_ | with_reducible refine aj ?_ ?_ | with_reducible refine ai ?_ _ | (intro _) | with_reducible exact ah _ | exact ag | (dsimp only))
def eu (x : List UInt8) : Option Bool :=
 some (! (x == x))
theorem pX (x : List UInt8) : Lo (eu x) (dN x):=by
 unfold eu dN
 repeat' (first | with_reducible refine ad ?_ ?_ ?_ ?_ ?_ | with_reducible refine aa ?_ ?_ ?_ ?_ | with_reducible refine ab ?_ ?_ ?_ | with_reducible refine af ?_ ?_ | with_reducible refine aj ?_ ?_ | with_reducible refine ai ?_ _ | (intro _) | with_reducible exact ah _ | exact ag | (dsimp only))
def fN (x : List UInt8) (y : List UInt8) : Option Int :=
 (eu x).bind fun xNaN =>
 (eu y).bind fun yNaN =>
 bif xNaN then
 bif yNaN then
  some 0
 else
  some (-1)
 else
 bif yNaN then
  some 1
 else
  bif Op.bytesLess x y then
  some (-1)
  else
  bif ! (strLe x y) then
   some 1
  else
   some 0
theorem pa (x : List UInt8) (y : List UInt8) : Lo (fN x y) (ez x y):=by
 unfold fN ez
 repeat' (first | with_reducible exact pX _ | with_reducible refine ad ?_ ?_ ?_ ?_ ?_ | with_reducible refine aa ?_ ?_ ?_ ?_ | with_reducible refine ab ?_ ?_ ?_ | with_reducible refine af ?_ ?_ | with_reducible refine aj ?_ ?_ | with_reducible refine ai ?_ _ | (intro _) | with_reducible exact ah _ | exact ag | (dsimp only))
def d_ (k : Looker) (_ob : Obj) (found : List UInt8) (e4 : Ent1_ListUInt8Cont) : Option (List UInt8) :=
 (
 bif found == ([] : List UInt8) then
  some true
 else
  let e5:=mget (fun x6 => found == x6.k) k.over (⟨found,0⟩ : Ent0_ListUInt8Int)
  let e6:=mget (fun x7 => e4.k == x7.k) k.over (⟨e4.k,0⟩ : Ent0_ListUInt8Int)
  (iF e5.v e6.v).bind fun x8 =>
  (fN e4.k found).bind fun x9 =>
  (mi [x8,x9]).bind fun x10 =>
  some (decide (x10 < 0))).bind fun q2 =>
 bif q2 then
 some e4.k
 else
 some found
theorem mE (k : Looker) (_ob : Obj) (found : List UInt8) (e4 : Ent1_ListUInt8Cont) : Lo (d_ k _ob found e4) (fj k _ob found e4):=by
 unfold d_ fj
 repeat' (first | with_reducible exact qG _ _ | with_reducible exact pa _ _ | with_reducible exact uM _ | with_reducible refine ad ?_ ?_ ?_ ?_ ?_ | with_reducible refine aa ?_ ?_ ?_ ?_ | with_reducible refine ab ?_ ?_ ?_ | with_reducible refine af ?_ ?_ | with_reducible refine aj ?_ ?_ | with_reducible refine ai ?_ _ | (intro _) | with_reducible exact ah _ | exact ag | (dsimp only))
def ej (k : Looker) (t : List Ent1_ListUInt8Cont × Int) : Option ((List Ent1_ListUInt8Cont × Int) ⊕ List Ent1_ListUInt8Cont) :=
 bif decide (t.2 < (k.s.Conts.length : Int)) then
 (
  (idx k.s.Conts t.2).bind fun x =>
  let e:=mget (fun x1 => x.Id == x1.k) k.leaf (⟨x.Id,[]⟩ : Ent2_IntListUInt8)
  let is:=mhas (fun x1 => x.Id == x1.k) k.leaf
  (
  bif ! is then
   some true
  else
   let e1:=mget (fun x2 => x.Id == x2.k) k.noticed (⟨x.Id,0⟩ : Ent4_IntInt)
   bif decide (e1.v > 0) then
   some true
   else
   let e2:=mget (fun x3 => e.v == x3.k) k.over (⟨e.v,0⟩ : Ent0_ListUInt8Int)
   some (decide (e2.v ≤ 0))).bind fun q =>
  bif q then
  some t.1
  else
  let e3:=mget (fun x4 => e.v == x4.k) t.1 (⟨e.v,⟨0,0,0,⟨0,0⟩,0,0,false,0⟩⟩ : Ent1_ListUInt8Cont)
  let has:=mhas (fun x4 => e.v == x4.k) t.1
  (
   bif ! has then
   some true
   else
   bif e3.v.Master then
    bif ! x.Master then
    some true
    else
    bif e3.v.Master == x.Master then
     some (decide (x.Id > e3.v.Id))
    else
     some false
   else
    bif e3.v.Master == x.Master then
    some (decide (x.Id > e3.v.Id))
    else
    some false).bind fun q1 =>
  bif q1 then
   some (mput (fun x5 => e.v == x5.k) t.1 (⟨e.v,⟨x.Id,x.App,x.Node,⟨x.Size.Mem,x.Size.Cores⟩,x.Prio,x.Label,x.Master,x.Notice⟩⟩ : Ent1_ListUInt8Cont))
  else
   some t.1).bind fun best =>
 some (.inl (best,w64 (t.2 + 1)))
 else
 some (.inr t.1)
theorem mS (k : Looker) (t : List Ent1_ListUInt8Cont × Int) : Lo (ej k t) (fw k t):=by
 unfold ej fw
 repeat' (first | with_reducible refine ad ?_ ?_ ?_ ?_ ?_ | with_reducible refine aa ?_ ?_ ?_ ?_ | with_reducible refine ab ?_ ?_ ?_ | with_reducible refine af ?_ ?_ | with_reducible refine aj ?_ ?_ | with_reducible refine ai ?_ _ | (intro _) | with_reducible exact ah _ | exact ag | (dsimp only))
def fQ (k : Looker) : Option (Cont × Bool × Looker) :=
 (itr 4096 (ej k) ([],0)).bind fun best1 =>
 (rngc (ω:=Obj) (Obj.deferred none) (fun _ => some ([] : List UInt8)) (d_ k) best1).bind fun found1 =>
 let e7:=mget (fun x11 => found1 == x11.k) best1 (⟨found1,⟨0,0,0,⟨0,0⟩,0,0,false,0⟩⟩ : Ent1_ListUInt8Cont)
 let is1:=mhas (fun x11 => found1 == x11.k) best1
 some (e7.v,is1,k)
theorem oU (k : Looker) : Lo (fQ k) (ep k):=by
 unfold fQ ep
 repeat' (first | with_reducible exact mS _ _ | with_reducible exact mE _ _ _ _ | with_reducible refine BV ?_ (fun _ _ _ _ => rfl) (fun _ _ => rfl) _ | with_reducible refine ad ?_ ?_ ?_ ?_ ?_ | with_reducible refine aa ?_ ?_ ?_ ?_ | with_reducible refine ab ?_ ?_ ?_ | with_reducible refine af ?_ ?_ | with_reducible refine aj ?_ ?_ | with_reducible refine ai ?_ _ | (intro _) | with_reducible exact ah _ | exact ag | (dsimp only))
def iZ (need : Int × Looker) (t : Looker × List Int) : Option ((Looker × List Int) ⊕ List Int) :=
 bif decide (t.1.gone < need.1) then
 (fQ t.1).bind fun x =>
 bif ! x.2.1 then
  some (.inr t.2)
 else
  (dg x.2.2 x.1).bind fun x1 =>
  (app 8 t.2 [x.1.Id]).bind fun l =>
  some (.inl (x1,l))
 else
 some (.inr t.2)
theorem q9 (need : Int × Looker) (t : Looker × List Int) : Lo (iZ need t) (kh need t):=by
 unfold iZ kh
 repeat' (first | with_reducible exact oU _ | with_reducible exact iJ _ _ | with_reducible refine ad ?_ ?_ ?_ ?_ ?_ | with_reducible refine aa ?_ ?_ ?_ ?_ | with_reducible refine ab ?_ ?_ ?_ | with_reducible refine af ?_ ?_ | with_reducible refine aj ?_ ?_ | with_reducible refine ai ?_ _ | (intro _) | with_reducible exact ah _ | exact ag | (dsimp only))
def fZ (s : State) (label : Int) : Option (List Int) :=
 (lp s label).bind fun k =>
 (gb k).bind fun need =>
 (itr 4096 (iZ need) (need.2,[])).bind fun out =>
 some out
theorem kG (s : State) (label : Int) : Lo (fZ s label) (gc s label):=by
 unfold fZ gc
 repeat' (first | with_reducible exact tR _ _ | with_reducible exact oQ _ | with_reducible exact q9 _ _ | with_reducible refine ad ?_ ?_ ?_ ?_ ?_ | with_reducible refine aa ?_ ?_ ?_ ?_ | with_reducible refine ab ?_ ?_ ?_ | with_reducible refine af ?_ ?_ | with_reducible refine aj ?_ ?_ | with_reducible refine ai ?_ _ | (intro _) | with_reducible exact ah _ | exact ag | (dsimp only))
def lA (s : List Cont) (f : (TupT fam [.st 7] → Option Bool)) (t : Int) : Option (Int ⊕ (Int ⊕ Unit)) :=
 bif decide (t < (s.length : Int)) then
 (idx s t).bind fun x =>
 (f (x,())).bind fun r =>
 bif r then
  some (.inr (.inl t))
 else
  some (.inl (w64 (t + 1)))
 else
 some (.inr (.inr ()))
theorem t_ (s : List Cont) (f f_' : (TupT fam [.st 7] → Option Bool)) (h_f : ∀ a,Lo (f a) (f_' a)) (t : Int) : Lo (lA s f t) (nQ s f_' t):=by
 unfold lA nQ
 repeat' (first | exact h_f _ | with_reducible refine ad ?_ ?_ ?_ ?_ ?_ | with_reducible refine aa ?_ ?_ ?_ ?_ | with_reducible refine ab ?_ ?_ ?_ | with_reducible refine af ?_ ?_ | with_reducible refine aj ?_ ?_ | with_reducible refine ai ?_ _ | (intro _) | with_reducible exact ah _ | exact ag | (dsimp only))
def gX (s : List Cont) (f : (TupT fam [.st 7] → Option Bool)) : Option Int :=
 (itr 4096 (lA s f) 0).bind fun q0 =>
 match q0 with
 | .inl q =>
 some q
 | .inr _ =>
 some (-1)
theorem nN (s : List Cont) (f f_' : (TupT fam [.st 7] → Option Bool)) (h_f : ∀ a,Lo (f a) (f_' a)) : Lo (gX s f) (iA s f_'):=by
 unfold gX iA
 repeat' (first | with_reducible refine t_ _ _ _ ?_ _ | exact h_f _ | with_reducible refine ad ?_ ?_ ?_ ?_ ?_ | with_reducible refine aa ?_ ?_ ?_ ?_ | with_reducible refine ab ?_ ?_ ?_ | with_reducible refine af ?_ ?_ | with_reducible refine aj ?_ ?_ | with_reducible refine ai ?_ _ | (intro _) | with_reducible exact ah _ | exact ag | (dsimp only))
def zp (s : List Cont) : Option (List Cont) :=
 bif s.isEmpty then
 none
 else
 (app 72 [] s).bind fun l =>
 some l
def ii (s : List Cont) : Option (List Cont):=app 72 [] s
theorem np (s : List Cont) : Lo (ii s) (gP s):=by
 unfold ii gP
 repeat' (first | with_reducible refine ad ?_ ?_ ?_ ?_ ?_ | with_reducible refine aa ?_ ?_ ?_ ?_ | with_reducible refine ab ?_ ?_ ?_ | with_reducible refine af ?_ ?_ | with_reducible refine aj ?_ ?_ | with_reducible refine ai ?_ _ | (intro _) | with_reducible exact ah _ | exact ag | (dsimp only))
def sd (s : List (List UInt8)) : Option (List (List UInt8)) :=
 bif s.isEmpty then
 none
 else
 (app 16 [] s).bind fun l =>
 some l
def cP (s : List (List UInt8)) : Option (List (List UInt8)):=app 16 [] s
theorem jL (s : List (List UInt8)) : Lo (cP s) (bF s):=by
 unfold cP bF
 repeat' (first | with_reducible refine ad ?_ ?_ ?_ ?_ ?_ | with_reducible refine aa ?_ ?_ ?_ ?_ | with_reducible refine ab ?_ ?_ ?_ | with_reducible refine af ?_ ?_ | with_reducible refine aj ?_ ?_ | with_reducible refine ai ?_ _ | (intro _) | with_reducible exact ah _ | exact ag | (dsimp only))
def yu (s : List Queue) : Option (List Queue) :=
 bif s.isEmpty then
 none
 else
 (app 48 [] s).bind fun l =>
 some l
def jH (s : List Queue) : Option (List Queue):=app 48 [] s
theorem r_ (s : List Queue) : Lo (jH s) (iS s):=by
 unfold jH iS
 repeat' (first | with_reducible refine ad ?_ ?_ ?_ ?_ ?_ | with_reducible refine aa ?_ ?_ ?_ ?_ | with_reducible refine ab ?_ ?_ ?_ | with_reducible refine af ?_ ?_ | with_reducible refine aj ?_ ?_ | with_reducible refine ai ?_ _ | (intro _) | with_reducible exact ah _ | exact ag | (dsimp only))
def Bj (s : List Node) : Option (List Node) :=
 bif s.isEmpty then
 none
 else
 (app 64 [] s).bind fun l =>
 some l
def oW (s : List Node) : Option (List Node):=app 64 [] s
theorem wq (s : List Node) : Lo (oW s) (oC s):=by
 unfold oW oC
 repeat' (first | with_reducible refine ad ?_ ?_ ?_ ?_ ?_ | with_reducible refine aa ?_ ?_ ?_ ?_ | with_reducible refine ab ?_ ?_ ?_ | with_reducible refine af ?_ ?_ | with_reducible refine aj ?_ ?_ | with_reducible refine ai ?_ _ | (intro _) | with_reducible exact ah _ | exact ag | (dsimp only))
def A3 (s : List Slot) : Option (List Slot) :=
 bif s.isEmpty then
 none
 else
 (app 24 [] s).bind fun l =>
 some l
def oY (s : List Slot) : Option (List Slot):=app 24 [] s
theorem vE (s : List Slot) : Lo (oY s) (oL s):=by
 unfold oY oL
 repeat' (first | with_reducible refine ad ?_ ?_ ?_ ?_ ?_ | with_reducible refine aa ?_ ?_ ?_ ?_ | with_reducible refine ab ?_ ?_ ?_ | with_reducible refine af ?_ ?_ | with_reducible refine aj ?_ ?_ | with_reducible refine ai ?_ _ | (intro _) | with_reducible exact ah _ | exact ag | (dsimp only))
def A5 (s : List Plan) : Option (List Plan) :=
 bif s.isEmpty then
 none
 else
 (app 48 [] s).bind fun l =>
 some l
def o5 (s : List Plan) : Option (List Plan):=app 48 [] s
theorem wL (s : List Plan) : Lo (o5 s) (oN s):=by
 unfold o5 oN
 repeat' (first | with_reducible refine ad ?_ ?_ ?_ ?_ ?_ | with_reducible refine aa ?_ ?_ ?_ ?_ | with_reducible refine ab ?_ ?_ ?_ | with_reducible refine af ?_ ?_ | with_reducible refine aj ?_ ?_ | with_reducible refine ai ?_ _ | (intro _) | with_reducible exact ah _ | exact ag | (dsimp only))
def zr (s : List App) : Option (List App) :=
 bif s.isEmpty then
 none
 else
 (app 200 [] s).bind fun l =>
 some l
def lB (s : List App) : Option (List App):=app 200 [] s
theorem tq (s : List App) : Lo (lB s) (kt s):=by
 unfold lB kt
 repeat' (first | with_reducible refine ad ?_ ?_ ?_ ?_ ?_ | with_reducible refine aa ?_ ?_ ?_ ?_ | with_reducible refine ab ?_ ?_ ?_ | with_reducible refine af ?_ ?_ | with_reducible refine aj ?_ ?_ | with_reducible refine ai ?_ _ | (intro _) | with_reducible exact ah _ | exact ag | (dsimp only))
def mg (x9 : List App) (t1 : List App × Int) : Option ((List App × Int) ⊕ List App) :=
 bif decide (t1.2 < (x9.length : Int)) then
 (inb t1.2 t1.1.length).bind fun i2 =>
 (t1.1[i2]?).bind fun x10 =>
 (mQ x10).bind fun x11 =>
 (inb t1.2 t1.1.length).bind fun i3 =>
 (t1.1[i3]?).bind fun x12 =>
 some (.inl (List.set t1.1 i3 x11,w64 (t1.2 + 1)))
 else
 some (.inr t1.1)
theorem uI (x9 : List App) (t1 : List App × Int) : Lo (mg x9 t1) (oT x9 t1):=by
 unfold mg oT
 repeat' (first | with_reducible exact sm _ | with_reducible refine ad ?_ ?_ ?_ ?_ ?_ | with_reducible refine aa ?_ ?_ ?_ ?_ | with_reducible refine ab ?_ ?_ ?_ | with_reducible refine af ?_ ?_ | with_reducible refine aj ?_ ?_ | with_reducible refine ai ?_ _ | (intro _) | with_reducible exact ah _ | exact ag | (dsimp only))
def mz (x1 : List Queue) (t : List Queue × Int) : Option ((List Queue × Int) ⊕ List Queue) :=
 bif decide (t.2 < (x1.length : Int)) then
 (inb t.2 t.1.length).bind fun i =>
 (t.1[i]?).bind fun x2 =>
 (mR x2.Caps).bind fun x3 =>
 (inb t.2 t.1.length).bind fun i1 =>
 (t.1[i1]?).bind fun x4 =>
 some (.inl (List.set t.1 i1 (⟨x4.Path,x3,x4.User⟩ : Queue),w64 (t.2 + 1)))
 else
 some (.inr t.1)
theorem ui (x1 : List Queue) (t : List Queue × Int) : Lo (mz x1 t) (oZ x1 t):=by
 unfold mz oZ
 repeat' (first | with_reducible exact sy _ | with_reducible refine ad ?_ ?_ ?_ ?_ ?_ | with_reducible refine aa ?_ ?_ ?_ ?_ | with_reducible refine ab ?_ ?_ ?_ | with_reducible refine af ?_ ?_ | with_reducible refine aj ?_ ?_ | with_reducible refine ai ?_ _ | (intro _) | with_reducible exact ah _ | exact ag | (dsimp only))
def mT (s : State) : Option State :=
 (cP s.Conf.Labels).bind fun x =>
 (jH s.Conf.Queues).bind fun x1 =>
 (itr 4096 (mz x1) (x1,0)).bind fun q =>
 (oW s.Nodes).bind fun x5 =>
 (ii s.Conts).bind fun x6 =>
 (oY s.Slots).bind fun x7 =>
 (o5 s.Plans).bind fun x8 =>
 (lB s.Apps).bind fun x9 =>
 (itr 4096 (mg x9) (x9,0)).bind fun q1 =>
 some (⟨⟨x,q⟩,x5,q1,x6,x7,x8,s.Now,s.Epoch,s.Seq⟩ : State)
theorem wV (s : State) : Lo (mT s) (nV s):=by
 unfold mT nV
 repeat' (first | with_reducible exact jL _ | with_reducible exact r_ _ | with_reducible exact ui _ _ | with_reducible exact wq _ | with_reducible exact np _ | with_reducible exact vE _ | with_reducible exact wL _ | with_reducible exact tq _ | with_reducible exact uI _ _ | with_reducible refine ad ?_ ?_ ?_ ?_ ?_ | with_reducible refine aa ?_ ?_ ?_ ?_ | with_reducible refine ab ?_ ?_ ?_ | with_reducible refine af ?_ ?_ | with_reducible refine aj ?_ ?_ | with_reducible refine ai ?_ _ | (intro _) | with_reducible exact ah _ | exact ag | (dsimp only))
def mq (c : Cont) (p : Int) : Option Bool :=
 some (c.Id == p)
theorem ut (c : Cont) (p : Int) : Lo (mq c p) (lK c p):=by
 unfold mq lK
 repeat' (first | with_reducible refine ad ?_ ?_ ?_ ?_ ?_ | with_reducible refine aa ?_ ?_ ?_ ?_ | with_reducible refine ab ?_ ?_ ?_ | with_reducible refine af ?_ ?_ | with_reducible refine aj ?_ ?_ | with_reducible refine ai ?_ _ | (intro _) | with_reducible exact ah _ | exact ag | (dsimp only))
def jm (s : List Ask) (f : (TupT fam [.st 5] → Option Bool)) (t : Int) : Option (Int ⊕ (Int ⊕ Unit)) :=
 bif decide (t < (s.length : Int)) then
 (idx s t).bind fun x =>
 (f (x,())).bind fun r =>
 bif r then
  some (.inr (.inl t))
 else
  some (.inl (w64 (t + 1)))
 else
 some (.inr (.inr ()))
theorem rF (s : List Ask) (f f_' : (TupT fam [.st 5] → Option Bool)) (h_f : ∀ a,Lo (f a) (f_' a)) (t : Int) : Lo (jm s f t) (kE s f_' t):=by
 unfold jm kE
 repeat' (first | exact h_f _ | with_reducible refine ad ?_ ?_ ?_ ?_ ?_ | with_reducible refine aa ?_ ?_ ?_ ?_ | with_reducible refine ab ?_ ?_ ?_ | with_reducible refine af ?_ ?_ | with_reducible refine aj ?_ ?_ | with_reducible refine ai ?_ _ | (intro _) | with_reducible exact ah _ | exact ag | (dsimp only))
def lw (s : List Ask) (f : (TupT fam [.st 5] → Option Bool)) : Option Int :=
 (itr 4096 (jm s f) 0).bind fun q0 =>
 match q0 with
 | .inl q =>
 some q
 | .inr _ =>
 some (-1)
theorem tX (s : List Ask) (f f_' : (TupT fam [.st 5] → Option Bool)) (h_f : ∀ a,Lo (f a) (f_' a)) : Lo (lw s f) (kx s f_'):=by
 unfold lw kx
 repeat' (first | with_reducible refine rF _ _ _ ?_ _ | exact h_f _ | with_reducible refine ad ?_ ?_ ?_ ?_ ?_ | with_reducible refine aa ?_ ?_ ?_ ?_ | with_reducible refine ab ?_ ?_ ?_ | with_reducible refine af ?_ ?_ | with_reducible refine aj ?_ ?_ | with_reducible refine ai ?_ _ | (intro _) | with_reducible exact ah _ | exact ag | (dsimp only))
def jf (del : (TupT fam [.st 5] → Option Bool)) (t : List Ask × Int × Int) : Option ((List Ask × Int × Int) ⊕ ((List Ask × Int))) :=
 bif decide (t.2.2 < (t.1.length : Int)) then
 (
  (inb t.2.2 t.1.length).bind fun i1 =>
  (t.1[i1]?).bind fun x =>
  (del (x,())).bind fun r =>
  bif ! r then
  (inb t.2.1 t.1.length).bind fun i2 =>
  (t.1[i2]?).bind fun x1 =>
  some (List.set t.1 i2 x,w64 (t.2.1 + 1))
  else
  some (t.1,t.2.1)).bind fun q =>
 some (.inl (q.1,q.2,w64 (t.2.2 + 1)))
 else
 some (.inr (t.1,t.2.1))
theorem rq (del del_' : (TupT fam [.st 5] → Option Bool)) (h_del : ∀ a,Lo (del a) (del_' a)) (t : List Ask × Int × Int) : Lo (jf del t) (kn del_' t):=by
 unfold jf kn
 repeat' (first | exact h_del _ | with_reducible refine ad ?_ ?_ ?_ ?_ ?_ | with_reducible refine aa ?_ ?_ ?_ ?_ | with_reducible refine ab ?_ ?_ ?_ | with_reducible refine af ?_ ?_ | with_reducible refine aj ?_ ?_ | with_reducible refine ai ?_ _ | (intro _) | with_reducible exact ah _ | exact ag | (dsimp only))
def ls (s : List Ask) (del : (TupT fam [.st 5] → Option Bool)) : Option (List Ask) :=
 (lw s del).bind fun i =>
 bif i == (-1) then
 some s
 else
 (itr 4096 (jf del) (s,i,w64 (i + 1))).bind fun q1 =>
 (inS q1.2 (q1.1.length : Int) q1.1.length).bind fun p =>
 none
theorem tB (s : List Ask) (del del_' : (TupT fam [.st 5] → Option Bool)) (h_del : ∀ a,Lo (del a) (del_' a)) : Lo (ls s del) (kD s del_'):=by
 unfold ls kD
 repeat' (first | with_reducible refine tX _ _ _ ?_ | with_reducible refine rq _ _ ?_ _ | exact h_del _ | with_reducible refine ad ?_ ?_ ?_ ?_ ?_ | with_reducible refine aa ?_ ?_ ?_ ?_ | with_reducible refine ab ?_ ?_ ?_ | with_reducible refine af ?_ ?_ | with_reducible refine aj ?_ ?_ | with_reducible refine ai ?_ _ | (intro _) | with_reducible exact ah _ | exact ag | (dsimp only))
def qw (l : List Ask) : Option (List Ask) :=
 (mkl 64 (l.length : Int) (l.length : Int) (⟨0,0,⟨0,0⟩,0,0,0,0⟩ : Ask)).bind fun l1 =>
 some (cpy l1 0 l1.length l)
theorem xb (l : List Ask) : Lo (qw l) (qm l):=by
 unfold qw qm
 repeat' (first | with_reducible refine ad ?_ ?_ ?_ ?_ ?_ | with_reducible refine aa ?_ ?_ ?_ ?_ | with_reducible refine ab ?_ ?_ ?_ | with_reducible refine af ?_ ?_ | with_reducible refine aj ?_ ?_ | with_reducible refine ai ?_ _ | (intro _) | with_reducible exact ah _ | exact ag | (dsimp only))
def nH (x : Ask) (p : Ask) : Option Bool :=
 some (x.Prio == p.Prio)
theorem vC (x : Ask) (p : Ask) : Lo (nH x p) (mV x p):=by
 unfold nH mV
 repeat' (first | with_reducible refine ad ?_ ?_ ?_ ?_ ?_ | with_reducible refine aa ?_ ?_ ?_ ?_ | with_reducible refine ab ?_ ?_ ?_ | with_reducible refine af ?_ ?_ | with_reducible refine aj ?_ ?_ | with_reducible refine ai ?_ _ | (intro _) | with_reducible exact ah _ | exact ag | (dsimp only))
def sf (t : List Ask × Int × Int) : Option ((List Ask × Int × Int) ⊕ List Ask) :=
 bif decide (t.2.1 < t.2.2) then
 (inb t.2.2 t.1.length).bind fun i =>
 (t.1[i]?).bind fun x =>
 (inb t.2.1 t.1.length).bind fun i1 =>
 (t.1[i1]?).bind fun x1 =>
 (inb t.2.1 t.1.length).bind fun i2 =>
 (t.1[i2]?).bind fun x2 =>
 (inb t.2.2 (List.set t.1 i2 x).length).bind fun i3 =>
 ((List.set t.1 i2 x)[i3]?).bind fun x3 =>
 some (.inl (List.set (List.set t.1 i2 x) i3 x1,w64 (t.2.1 + 1),w64 (t.2.2 - 1)))
 else
 some (.inr t.1)
def AS (s : List Ask) : Option (List Ask) :=
 let j:=w64 ((s.length : Int) - 1)
 (itr 4096 sf (s,0,j)).bind fun s1 =>
 some s1
def uJ (s : List Ask) (r : Int) : Option Unit :=
 (slc s 0 r).bind fun l =>
 none
def Bd (s : List Ask) (r : Int) : Option Unit :=
 (uJ s (w64 ((s.length : Int) - r))).bind fun _ =>
 some ()
def lb (s : List Ask) (i : Int) (v : List Ask) : Option (List Ask) :=
 (inS i (s.length : Int) s.length).bind fun p =>
 bif (v.length : Int) == 0 then
 some s
 else
 bif i == (s.length : Int) then
  (app 64 s v).bind fun l =>
  some l
 else
  none
theorem tu (s : List Ask) (i : Int) (v : List Ask) : Lo (lb s i v) (kS s i v):=by
 unfold lb kS
 repeat' (first | with_reducible refine ad ?_ ?_ ?_ ?_ ?_ | with_reducible refine aa ?_ ?_ ?_ ?_ | with_reducible refine ab ?_ ?_ ?_ | with_reducible refine af ?_ ?_ | with_reducible refine aj ?_ ?_ | with_reducible refine ai ?_ _ | (intro _) | with_reducible exact ah _ | exact ag | (dsimp only))
def me (a : Ask) (out : List Ask) (k : Int) : Option (Int ⊕ Int) :=
 (
 bif decide (k < (out.length : Int)) then
  (inb k out.length).bind fun i =>
  (out[i]?).bind fun x1 =>
  some (decide (x1.Prio < a.Prio))
 else
  some false).bind fun q =>
 bif q then
 some (.inl (w64 (k + 1)))
 else
 some (.inr k)
theorem uv (a : Ask) (out : List Ask) (k : Int) : Lo (me a out k) (oV a out k):=by
 unfold me oV
 repeat' (first | with_reducible refine ad ?_ ?_ ?_ ?_ ?_ | with_reducible refine aa ?_ ?_ ?_ ?_ | with_reducible refine ab ?_ ?_ ?_ | with_reducible refine af ?_ ?_ | with_reducible refine aj ?_ ?_ | with_reducible refine ai ?_ _ | (intro _) | with_reducible exact ah _ | exact ag | (dsimp only))
def qx (l : List Ask) (a : Ask) : Option (List Ask × Int) :=
 (qw l).bind fun x =>
 (ls x (fun a' => nH a'.1 a)).bind fun out =>
 bif a.Count == 0 then
 some (out,0)
 else
 bif decide ((out.length : Int) ≥ 8) then
  some ([],4)
 else
  (itr 4096 (me a out) 0).bind fun k1 =>
  (lb out k1 [(⟨a.Prio,a.Label,⟨a.Size.Mem,a.Size.Cores⟩,a.Count,a.Node,a.Rack,0⟩ : Ask)]).bind fun x2 =>
  some (x2,0)
theorem xc (l : List Ask) (a : Ask) : Lo (qx l a) (qo l a):=by
 unfold qx qo
 repeat' (first | with_reducible exact xb _ | with_reducible refine tB _ _ _ ?_ | with_reducible exact vC _ _ | with_reducible exact uv _ _ _ | with_reducible exact tu _ _ _ | with_reducible refine ad ?_ ?_ ?_ ?_ ?_ | with_reducible refine aa ?_ ?_ ?_ ?_ | with_reducible refine ab ?_ ?_ ?_ | with_reducible refine af ?_ ?_ | with_reducible refine aj ?_ ?_ | with_reducible refine ai ?_ _ | (intro _) | with_reducible exact ah _ | exact ag | (dsimp only))
def nT (a : App) : Option (List Ask) :=
 (qx [] (⟨0,0,⟨a.Master.Mem,a.Master.Cores⟩,1,(-1),(-1),0⟩ : Ask)).bind fun x =>
 some x.1
theorem vv (a : App) : Lo (nT a) (mU a):=by
 unfold nT mU
 repeat' (first | with_reducible exact xc _ _ | with_reducible refine ad ?_ ?_ ?_ ?_ ?_ | with_reducible refine aa ?_ ?_ ?_ ?_ | with_reducible refine ab ?_ ?_ ?_ | with_reducible refine af ?_ ?_ | with_reducible refine aj ?_ ?_ | with_reducible refine ai ?_ _ | (intro _) | with_reducible exact ah _ | exact ag | (dsimp only))
def rD (del : (TupT fam [.st 7] → Option Bool)) (t : List Cont × Int × Int) : Option ((List Cont × Int × Int) ⊕ ((List Cont × Int))) :=
 bif decide (t.2.2 < (t.1.length : Int)) then
 (
  (inb t.2.2 t.1.length).bind fun i1 =>
  (t.1[i1]?).bind fun x =>
  (del (x,())).bind fun r =>
  bif ! r then
  (inb t.2.1 t.1.length).bind fun i2 =>
  (t.1[i2]?).bind fun x1 =>
  some (List.set t.1 i2 x,w64 (t.2.1 + 1))
  else
  some (t.1,t.2.1)).bind fun q =>
 some (.inl (q.1,q.2,w64 (t.2.2 + 1)))
 else
 some (.inr (t.1,t.2.1))
def AE (s : List Cont) (del : (TupT fam [.st 7] → Option Bool)) : Option (List Cont) :=
 (gX s del).bind fun i =>
 bif i == (-1) then
 some s
 else
 (itr 4096 (rD del) (s,i,w64 (i + 1))).bind fun q1 =>
 (inS q1.2 (q1.1.length : Int) q1.1.length).bind fun p =>
 none
def Bh (c : Cont) (p : Int) (p1 : List Int) : Option (Bool × List Int) :=
 (
 bif c.App == p then
  (app 8 p1 [c.Id]).bind fun l =>
  some l
 else
  some p1).bind fun q =>
 some (c.App == p,q)
def ra (s : List Slot) (f : (TupT fam [.st 8] → Option Bool)) (t : Int) : Option (Int ⊕ (Int ⊕ Unit)) :=
 bif decide (t < (s.length : Int)) then
 (idx s t).bind fun x =>
 (f (x,())).bind fun r =>
 bif r then
  some (.inr (.inl t))
 else
  some (.inl (w64 (t + 1)))
 else
 some (.inr (.inr ()))
def tx (s : List Slot) (f : (TupT fam [.st 8] → Option Bool)) : Option Int :=
 (itr 4096 (ra s f) 0).bind fun q0 =>
 match q0 with
 | .inl q =>
 some q
 | .inr _ =>
 some (-1)
def rN (del : (TupT fam [.st 8] → Option Bool)) (t : List Slot × Int × Int) : Option ((List Slot × Int × Int) ⊕ ((List Slot × Int))) :=
 bif decide (t.2.2 < (t.1.length : Int)) then
 (
  (inb t.2.2 t.1.length).bind fun i1 =>
  (t.1[i1]?).bind fun x =>
  (del (x,())).bind fun r =>
  bif ! r then
  (inb t.2.1 t.1.length).bind fun i2 =>
  (t.1[i2]?).bind fun x1 =>
  some (List.set t.1 i2 x,w64 (t.2.1 + 1))
  else
  some (t.1,t.2.1)).bind fun q =>
 some (.inl (q.1,q.2,w64 (t.2.2 + 1)))
 else
 some (.inr (t.1,t.2.1))
def AG (s : List Slot) (del : (TupT fam [.st 8] → Option Bool)) : Option (List Slot) :=
 (tx s del).bind fun i =>
 bif i == (-1) then
 some s
 else
 (itr 4096 (rN del) (s,i,w64 (i + 1))).bind fun q1 =>
 (inS q1.2 (q1.1.length : Int) q1.1.length).bind fun p =>
 none
def Be (x : Slot) (p : Int) : Option Bool :=
 some (x.App == p)
def nD (s : State) (id_ : Int) : Option (State × List Int) :=
 none
theorem vq (s : State) (id_ : Int) : Lo (nD s id_) (mG s id_):=by
 unfold nD mG
 repeat' (first | with_reducible refine ad ?_ ?_ ?_ ?_ ?_ | with_reducible refine aa ?_ ?_ ?_ ?_ | with_reducible refine ab ?_ ?_ ?_ | with_reducible refine af ?_ ?_ | with_reducible refine aj ?_ ?_ | with_reducible refine ai ?_ _ | (intro _) | with_reducible exact ah _ | exact ag | (dsimp only))
def ml (s : State) (i : Int) : Option State :=
 (inb i s.Apps.length).bind fun i1 =>
 (s.Apps[i1]?).bind fun x =>
 (nT x).bind fun x1 =>
 (inb i s.Apps.length).bind fun i2 =>
 (s.Apps[i2]?).bind fun x2 =>
 (nD (⟨⟨s.Conf.Labels,s.Conf.Queues⟩,s.Nodes,List.set s.Apps i2 (⟨x.Id,1,x.Queue,x.User,x.Prio,⟨x.Master.Mem,x.Master.Cores⟩,x1,s.Now,0,[],[],[],[]⟩ : App),s.Conts,s.Slots,s.Plans,s.Now,s.Epoch,s.Seq⟩ : State) x.Id).bind fun x3 =>
 some x3.1
theorem uA (s : State) (i : Int) : Lo (ml s i) (lF s i):=by
 unfold ml lF
 repeat' (first | with_reducible exact vv _ | with_reducible exact vq _ _ | with_reducible refine ad ?_ ?_ ?_ ?_ ?_ | with_reducible refine aa ?_ ?_ ?_ ?_ | with_reducible refine ab ?_ ?_ ?_ | with_reducible refine af ?_ ?_ | with_reducible refine aj ?_ ?_ | with_reducible refine ai ?_ _ | (intro _) | with_reducible exact ah _ | exact ag | (dsimp only))
def ki (s : List Cont) (i : Int) (j : Int) : Option (List Cont):=del s i j
theorem sY (s : List Cont) (i : Int) (j : Int) : Lo (ki s i j) (jE s i j):=by
 unfold ki jE
 repeat' (first | with_reducible refine ad ?_ ?_ ?_ ?_ ?_ | with_reducible refine aa ?_ ?_ ?_ ?_ | with_reducible refine ab ?_ ?_ ?_ | with_reducible refine af ?_ ?_ | with_reducible refine aj ?_ ?_ | with_reducible refine ai ?_ _ | (intro _) | with_reducible exact ah _ | exact ag | (dsimp only))
def dt (s : List Int) (v : Int) (t : Int) : Option (Int ⊕ (Int ⊕ Unit)) :=
 bif decide (t < (s.length : Int)) then
 (idx s t).bind fun x =>
 bif v == x then
  some (.inr (.inl t))
 else
  some (.inl (w64 (t + 1)))
 else
 some (.inr (.inr ()))
theorem kU (s : List Int) (v : Int) (t : Int) : Lo (dt s v t) (dH s v t):=by
 unfold dt dH
 repeat' (first | with_reducible refine ad ?_ ?_ ?_ ?_ ?_ | with_reducible refine aa ?_ ?_ ?_ ?_ | with_reducible refine ab ?_ ?_ ?_ | with_reducible refine af ?_ ?_ | with_reducible refine aj ?_ ?_ | with_reducible refine ai ?_ _ | (intro _) | with_reducible exact ah _ | exact ag | (dsimp only))
def dR (s : List Int) (v : Int) : Option Int :=
 (itr 4096 (dt s v) 0).bind fun q0 =>
 match q0 with
 | .inl q =>
 some q
 | .inr _ =>
 some (-1)
theorem md (s : List Int) (v : Int) : Lo (dR s v) (df s v):=by
 unfold dR df
 repeat' (first | with_reducible exact kU _ _ _ | with_reducible refine ad ?_ ?_ ?_ ?_ ?_ | with_reducible refine aa ?_ ?_ ?_ ?_ | with_reducible refine ab ?_ ?_ ?_ | with_reducible refine af ?_ ?_ | with_reducible refine aj ?_ ?_ | with_reducible refine ai ?_ _ | (intro _) | with_reducible exact ah _ | exact ag | (dsimp only))
def dJ (s : List Int) (i : Int) (j : Int) : Option (List Int) :=
 none
theorem lQ (s : List Int) (i : Int) (j : Int) : Lo (dJ s i j) (cX s i j):=by
 unfold dJ cX
 repeat' (first | with_reducible refine ad ?_ ?_ ?_ ?_ ?_ | with_reducible refine aa ?_ ?_ ?_ ?_ | with_reducible refine ab ?_ ?_ ?_ | with_reducible refine af ?_ ?_ | with_reducible refine aj ?_ ?_ | with_reducible refine ai ?_ _ | (intro _) | with_reducible exact ah _ | exact ag | (dsimp only))
def lz (ids : List Int) (t : State × Int) : Option ((State × Int) ⊕ State) :=
 bif decide (t.2 < (ids.length : Int)) then
 (
  (idx ids t.2).bind fun x1 =>
  (gX t.1.Conts (fun a' => mq a'.1 x1)).bind fun k =>
  bif decide (k < 0) then
  some t.1
  else
  (inb k t.1.Conts.length).bind fun i =>
  (t.1.Conts[i]?).bind fun x2 =>
  (oz t.1 x2.App).bind fun i1 =>
  (
   bif decide (i1 ≥ 0) then
   some x2.Master
   else
   some false).bind fun q =>
  bif q then
   (ml t.1 i1).bind fun x3 =>
   some x3
  else
   (ki t.1.Conts k (w64 (k + 1))).bind fun x4 =>
   bif decide (i1 < 0) then
   some (⟨⟨t.1.Conf.Labels,t.1.Conf.Queues⟩,t.1.Nodes,t.1.Apps,x4,t.1.Slots,t.1.Plans,t.1.Now,t.1.Epoch,t.1.Seq⟩ : State)
   else
   (inb i1 t.1.Apps.length).bind fun i2 =>
   (t.1.Apps[i2]?).bind fun x5 =>
   (dR x5.Grants x1).bind fun j =>
   bif decide (j ≥ 0) then
    (dJ x5.Grants j (w64 (j + 1))).bind fun x6 =>
    (inb i1 t.1.Apps.length).bind fun i3 =>
    (t.1.Apps[i3]?).bind fun x7 =>
    some (⟨⟨t.1.Conf.Labels,t.1.Conf.Queues⟩,t.1.Nodes,List.set t.1.Apps i3 (⟨x5.Id,x5.State,x5.Queue,x5.User,x5.Prio,⟨x5.Master.Mem,x5.Master.Cores⟩,x5.Asks,x5.Seen,x5.Beat,x6,x5.Kills,x5.Told,x5.Lost⟩ : App),x4,t.1.Slots,t.1.Plans,t.1.Now,t.1.Epoch,t.1.Seq⟩ : State)
   else
    none).bind fun s1 =>
 some (.inl (s1,w64 (t.2 + 1)))
 else
 some (.inr t.1)
theorem tK (ids : List Int) (t : State × Int) : Lo (lz ids t) (nF ids t):=by
 unfold lz nF
 repeat' (first | with_reducible refine nN _ _ _ ?_ | with_reducible exact ut _ _ | with_reducible exact tv _ _ | with_reducible exact uA _ _ | with_reducible exact sY _ _ _ | with_reducible exact md _ _ | with_reducible exact lQ _ _ _ | with_reducible refine ad ?_ ?_ ?_ ?_ ?_ | with_reducible refine aa ?_ ?_ ?_ ?_ | with_reducible refine ab ?_ ?_ ?_ | with_reducible refine af ?_ ?_ | with_reducible refine aj ?_ ?_ | with_reducible refine ai ?_ _ | (intro _) | with_reducible exact ah _ | exact ag | (dsimp only))
def o0 (s : State) (ids : List Int) : Option State :=
 (mT s).bind fun x =>
 (itr 4096 (lz ids) (x,0)).bind fun s2 =>
 (mT s2).bind fun x8 =>
 some x8
theorem wE (s : State) (ids : List Int) : Lo (o0 s ids) (oM s ids):=by
 unfold o0 oM
 repeat' (first | with_reducible exact wV _ | with_reducible exact tK _ _ | with_reducible refine ad ?_ ?_ ?_ ?_ ?_ | with_reducible refine aa ?_ ?_ ?_ ?_ | with_reducible refine ab ?_ ?_ ?_ | with_reducible refine af ?_ ?_ | with_reducible refine aj ?_ ?_ | with_reducible refine ai ?_ _ | (intro _) | with_reducible exact ah _ | exact ag | (dsimp only))
def sF (yield : (TupT fam [.int .i64,.st 7] → Option Bool)) (p : List Cont) (i1 : Int) : Option (Int ⊕ (Unit ⊕ Unit)) :=
 bif decide (i1 ≥ 0) then
 (idx p i1).bind fun x =>
 (yield (i1,x,())).bind fun r =>
 bif ! r then
  some (.inr (.inl ()))
 else
  some (.inl (w64 (i1 - 1)))
 else
 some (.inr (.inr ()))
def BI (yield : (TupT fam [.int .i64,.st 7] → Option Bool)) (p : List Cont) : Option Unit :=
 let i:=w64 ((p.length : Int) - 1)
 (itr 4096 (sF yield p) i).bind fun q0 =>
 match q0 with
 | .inl _ =>
 some ()
 | .inr _ =>
 some ()
def zS (x : Cont) (p : Cont) : Option Bool :=
 some (x.Id == p.Id)
def Bq (c : Cont) (label : Int) (now : Int) : Option Bool :=
 bif c.Label == label then
 bif c.Notice != 0 then
  some (decide ((w64 (now - c.Notice)) ≥ 3))
 else
  some false
 else
 some false
def sa (s : List Share) (f : (TupT fam [.st 13] → Option Bool)) (t : Int) : Option (Int ⊕ (Int ⊕ Unit)) :=
 bif decide (t < (s.length : Int)) then
 (idx s t).bind fun x =>
 (f (x,())).bind fun r =>
 bif r then
  some (.inr (.inl t))
 else
  some (.inl (w64 (t + 1)))
 else
 some (.inr (.inr ()))
def uN (s : List Share) (f : (TupT fam [.st 13] → Option Bool)) : Option Int :=
 (itr 4096 (sa s f) 0).bind fun q0 =>
 match q0 with
 | .inl q =>
 some q
 | .inr _ =>
 some (-1)
def se (x : Share) (p : App) : Option Bool :=
 some (x.Path == p.Queue)
def rt (s : State) (c : Cont) (t : Int × Int) : Option ((Int × Int) ⊕ Int) :=
 bif decide (t.2 < (s.Conts.length : Int)) then
 (
  (idx s.Conts t.2).bind fun x2 =>
  (
  bif c.Master then
   bif x2.App == c.App then
   bif x2.Id != c.Id then
    some (x2.Label == c.Label)
   else
    some false
   else
   some false
  else
   some false).bind fun q =>
  bif q then
  let used:=w64 (t.1 - x2.Size.Mem)
  some used
  else
  some t.1).bind fun used1 =>
 some (.inl (used1,w64 (t.2 + 1)))
 else
 some (.inr t.1)
def AH (s : State) (c : Cont) : Option Bool :=
 (lG s c.App).bind fun x =>
 (ea s x.1.Queue c.Label).bind fun x1 =>
 (itr 4096 (rt s c) (x1.Mem,0)).bind fun used2 =>
 (fK s c.Label).bind fun l =>
 (uN l (fun a' => se a'.1 x.1)).bind fun i =>
 bif decide (i ≥ 0) then
 (inb i l.length).bind fun i1 =>
 (l[i1]?).bind fun x3 =>
 some (decide (used2 > x3.Mem))
 else
 some false
def lm (s : State) (label : Int) : Option State :=
 (ii s.Conts).bind fun x =>
 bif x.isEmpty then
 some s
 else
 none
theorem tW (s : State) (label : Int) : Lo (lm s label) (j9 s label):=by
 unfold lm j9
 repeat' (first | with_reducible exact np _ | with_reducible refine ad ?_ ?_ ?_ ?_ ?_ | with_reducible refine aa ?_ ?_ ?_ ?_ | with_reducible refine ab ?_ ?_ ?_ | with_reducible refine af ?_ ?_ | with_reducible refine aj ?_ ?_ | with_reducible refine ai ?_ _ | (intro _) | with_reducible exact ah _ | exact ag | (dsimp only))
def jn (x : Cont) (p : Int) : Option Bool :=
 some (x.Id == p)
theorem ru (x : Cont) (p : Int) : Lo (jn x p) (ia x p):=by
 unfold jn ia
 repeat' (first | with_reducible refine ad ?_ ?_ ?_ ?_ ?_ | with_reducible refine aa ?_ ?_ ?_ ?_ | with_reducible refine ab ?_ ?_ ?_ | with_reducible refine af ?_ ?_ | with_reducible refine aj ?_ ?_ | with_reducible refine ai ?_ _ | (intro _) | with_reducible exact ah _ | exact ag | (dsimp only))
def lg (s : List Cont) (f : (TupT fam [.st 7] → Option Bool)) : Option Bool :=
 (gX s f).bind fun x =>
 some (decide (x ≥ 0))
theorem tn (s : List Cont) (f f_' : (TupT fam [.st 7] → Option Bool)) (h_f : ∀ a,Lo (f a) (f_' a)) : Lo (lg s f) (kw s f_'):=by
 unfold lg kw
 repeat' (first | with_reducible refine nN _ _ _ ?_ | exact h_f _ | with_reducible refine ad ?_ ?_ ?_ ?_ ?_ | with_reducible refine aa ?_ ?_ ?_ ?_ | with_reducible refine ab ?_ ?_ ?_ | with_reducible refine af ?_ ?_ | with_reducible refine aj ?_ ?_ | with_reducible refine ai ?_ _ | (intro _) | with_reducible exact ah _ | exact ag | (dsimp only))
def iX (x : Cont) (p : Cont) : Option Bool :=
 some (x.Id == p.Id)
theorem rz (x : Cont) (p : Cont) : Lo (iX x p) (ic x p):=by
 unfold iX ic
 repeat' (first | with_reducible refine ad ?_ ?_ ?_ ?_ ?_ | with_reducible refine aa ?_ ?_ ?_ ?_ | with_reducible refine ab ?_ ?_ ?_ | with_reducible refine af ?_ ?_ | with_reducible refine aj ?_ ?_ | with_reducible refine ai ?_ _ | (intro _) | with_reducible exact ah _ | exact ag | (dsimp only))
def ay (x : Int) (y : Int) : Option Bool :=
 (dq x).bind fun x1 =>
 bif x1 then
 (dq y).bind fun x2 =>
 bif ! x2 then
  some true
 else
  some (decide (x < y))
 else
 some (decide (x < y))
theorem aD (x : Int) (y : Int) : Lo (ay x y) (az x y):=by
 unfold ay az
 repeat' (first | with_reducible exact mB _ | with_reducible refine ad ?_ ?_ ?_ ?_ ?_ | with_reducible refine aa ?_ ?_ ?_ ?_ | with_reducible refine ab ?_ ?_ ?_ | with_reducible refine af ?_ ?_ | with_reducible refine aj ?_ ?_ | with_reducible refine ai ?_ _ | (intro _) | with_reducible exact ah _ | exact ag | (dsimp only))
def bz (a : Int) (t1 : List Int × Int) : Option ((List Int × Int) ⊕ List Int) :=
 (
 bif decide (t1.2 > a) then
  (inb t1.2 t1.1.length).bind fun i =>
  (t1.1[i]?).bind fun x =>
  (inb (w64 (t1.2 - 1)) t1.1.length).bind fun i1 =>
  (t1.1[i1]?).bind fun x1 =>
  (ay x x1).bind fun x2 =>
  some x2
 else
  some false).bind fun q =>
 bif q then
 (inb (w64 (t1.2 - 1)) t1.1.length).bind fun i2 =>
 (t1.1[i2]?).bind fun x3 =>
 (inb t1.2 t1.1.length).bind fun i3 =>
 (t1.1[i3]?).bind fun x4 =>
 (inb t1.2 t1.1.length).bind fun i4 =>
 (t1.1[i4]?).bind fun x5 =>
 (inb (w64 (t1.2 - 1)) (List.set t1.1 i4 x3).length).bind fun i5 =>
 ((List.set t1.1 i4 x3)[i5]?).bind fun x6 =>
 some (.inl (List.set (List.set t1.1 i4 x3) i5 x4,w64 (t1.2 - 1)))
 else
 some (.inr t1.1)
theorem hP (a : Int) (t1 : List Int × Int) : Lo (bz a t1) (bQ a t1):=by
 unfold bz bQ
 repeat' (first | with_reducible exact aD _ _ | with_reducible refine ad ?_ ?_ ?_ ?_ ?_ | with_reducible refine aa ?_ ?_ ?_ ?_ | with_reducible refine ab ?_ ?_ ?_ | with_reducible refine af ?_ ?_ | with_reducible refine aj ?_ ?_ | with_reducible refine ai ?_ _ | (intro _) | with_reducible exact ah _ | exact ag | (dsimp only))
def bA (a : Int) (b : Int) (t : List Int × Int) : Option ((List Int × Int) ⊕ List Int) :=
 bif decide (t.2 < b) then
 (itr 4096 (bz a) (t.1,t.2)).bind fun data1 =>
 some (.inl (data1,w64 (t.2 + 1)))
 else
 some (.inr t.1)
theorem g3 (a : Int) (b : Int) (t : List Int × Int) : Lo (bA a b t) (bR a b t):=by
 unfold bA bR
 repeat' (first | with_reducible exact hP _ _ | with_reducible refine ad ?_ ?_ ?_ ?_ ?_ | with_reducible refine aa ?_ ?_ ?_ ?_ | with_reducible refine ab ?_ ?_ ?_ | with_reducible refine af ?_ ?_ | with_reducible refine aj ?_ ?_ | with_reducible refine ai ?_ _ | (intro _) | with_reducible exact ah _ | exact ag | (dsimp only))
def bV (data : List Int) (a : Int) (b : Int) : Option (List Int) :=
 (itr 4096 (bA a b) (data,w64 (a + 1))).bind fun data2 =>
 some data2
theorem iM (data : List Int) (a : Int) (b : Int) : Lo (bV data a b) (bd data a b):=by
 unfold bV bd
 repeat' (first | with_reducible exact g3 _ _ _ | with_reducible refine ad ?_ ?_ ?_ ?_ ?_ | with_reducible refine aa ?_ ?_ ?_ ?_ | with_reducible refine ab ?_ ?_ ?_ | with_reducible refine af ?_ ?_ | with_reducible refine aj ?_ ?_ | with_reducible refine ai ?_ _ | (intro _) | with_reducible exact ah _ | exact ag | (dsimp only))
def cA (hi : Int) (first : Int) (t : List Int × Int) : Option ((List Int × Int) ⊕ (List Int ⊕ List Int)) :=
 let child:=w64 ((w64 (2 * t.2)) + 1)
 bif decide (child ≥ hi) then
 some (.inr (.inr (t.1)))
 else
 (
  (
  bif decide ((w64 (child + 1)) < hi) then
   (inb (w64 (first + child)) t.1.length).bind fun i =>
   (t.1[i]?).bind fun x =>
   (inb (w64 ((w64 (first + child)) + 1)) t.1.length).bind fun i1 =>
   (t.1[i1]?).bind fun x1 =>
   (ay x x1).bind fun x2 =>
   some x2
  else
   some false).bind fun q =>
  bif q then
  some (w64 (child + 1))
  else
  some child).bind fun child1 =>
 (inb (w64 (first + t.2)) t.1.length).bind fun i2 =>
 (t.1[i2]?).bind fun x3 =>
 (inb (w64 (first + child1)) t.1.length).bind fun i3 =>
 (t.1[i3]?).bind fun x4 =>
 (ay x3 x4).bind fun x5 =>
 bif ! x5 then
  some (.inr (.inl (t.1)))
 else
  (inb (w64 (first + child1)) t.1.length).bind fun i4 =>
  (t.1[i4]?).bind fun x6 =>
  (inb (w64 (first + t.2)) t.1.length).bind fun i5 =>
  (t.1[i5]?).bind fun x7 =>
  (inb (w64 (first + t.2)) t.1.length).bind fun i6 =>
  (t.1[i6]?).bind fun x8 =>
  (inb (w64 (first + child1)) (List.set t.1 i6 x6).length).bind fun i7 =>
  ((List.set t.1 i6 x6)[i7]?).bind fun x9 =>
  some (.inl (List.set (List.set t.1 i6 x6) i7 x7,child1))
theorem jr (hi : Int) (first : Int) (t : List Int × Int) : Lo (cA hi first t) (c9 hi first t):=by
 unfold cA c9
 repeat' (first | with_reducible exact aD _ _ | with_reducible refine ad ?_ ?_ ?_ ?_ ?_ | with_reducible refine aa ?_ ?_ ?_ ?_ | with_reducible refine ab ?_ ?_ ?_ | with_reducible refine af ?_ ?_ | with_reducible refine aj ?_ ?_ | with_reducible refine ai ?_ _ | (intro _) | with_reducible exact ah _ | exact ag | (dsimp only))
def bE (data : List Int) (lo : Int) (hi : Int) (first : Int) : Option (List Int) :=
 (itr 4096 (cA hi first) (data,lo)).bind fun q0 =>
 match q0 with
 | .inl data1 =>
 some data1
 | .inr data2 =>
 some data2
theorem ff (data : List Int) (lo : Int) (hi : Int) (first : Int) : Lo (bE data lo hi first) (ba data lo hi first):=by
 unfold bE ba
 repeat' (first | with_reducible exact jr _ _ _ | with_reducible refine ad ?_ ?_ ?_ ?_ ?_ | with_reducible refine aa ?_ ?_ ?_ ?_ | with_reducible refine ab ?_ ?_ ?_ | with_reducible refine af ?_ ?_ | with_reducible refine aj ?_ ?_ | with_reducible refine ai ?_ _ | (intro _) | with_reducible exact ah _ | exact ag | (dsimp only))
def cw (a : Int) (t1 : List Int × Int) : Option ((List Int × Int) ⊕ List Int) :=
 bif decide (t1.2 ≥ 0) then
 (inb (w64 (a + t1.2)) t1.1.length).bind fun i2 =>
 (t1.1[i2]?).bind fun x1 =>
 (inb a t1.1.length).bind fun i3 =>
 (t1.1[i3]?).bind fun x2 =>
 (inb a t1.1.length).bind fun i4 =>
 (t1.1[i4]?).bind fun x3 =>
 (inb (w64 (a + t1.2)) (List.set t1.1 i4 x1).length).bind fun i5 =>
 ((List.set t1.1 i4 x1)[i5]?).bind fun x4 =>
 (bE (List.set (List.set t1.1 i4 x1) i5 x2) 0 t1.2 a).bind fun x5 =>
 some (.inl (x5,w64 (t1.2 - 1)))
 else
 some (.inr t1.1)
theorem jx (a : Int) (t1 : List Int × Int) : Lo (cw a t1) (cY a t1):=by
 unfold cw cY
 repeat' (first | with_reducible exact ff _ _ _ _ | with_reducible refine ad ?_ ?_ ?_ ?_ ?_ | with_reducible refine aa ?_ ?_ ?_ ?_ | with_reducible refine ab ?_ ?_ ?_ | with_reducible refine af ?_ ?_ | with_reducible refine aj ?_ ?_ | with_reducible refine ai ?_ _ | (intro _) | with_reducible exact ah _ | exact ag | (dsimp only))
def cv (a : Int) (b : Int) (t : List Int × Int) : Option ((List Int × Int) ⊕ List Int) :=
 bif decide (t.2 ≥ 0) then
 (bE t.1 t.2 (w64 (b - a)) a).bind fun x =>
 some (.inl (x,w64 (t.2 - 1)))
 else
 some (.inr t.1)
theorem jp (a : Int) (b : Int) (t : List Int × Int) : Lo (cv a b t) (cU a b t):=by
 unfold cv cU
 repeat' (first | with_reducible exact ff _ _ _ _ | with_reducible refine ad ?_ ?_ ?_ ?_ ?_ | with_reducible refine aa ?_ ?_ ?_ ?_ | with_reducible refine ab ?_ ?_ ?_ | with_reducible refine af ?_ ?_ | with_reducible refine aj ?_ ?_ | with_reducible refine ai ?_ _ | (intro _) | with_reducible exact ah _ | exact ag | (dsimp only))
def da (data : List Int) (a : Int) (b : Int) : Option (List Int) :=
 let i:=w64 (Int.tdiv (w64 ((w64 (b - a)) - 1)) 2)
 (itr 4096 (cv a b) (data,i)).bind fun data1 =>
 let i1:=w64 ((w64 (b - a)) - 1)
 (itr 4096 (cw a) (data1,i1)).bind fun data2 =>
 some data2
theorem j8 (data : List Int) (a : Int) (b : Int) : Lo (da data a b) (bY data a b):=by
 unfold da bY
 repeat' (first | with_reducible exact jp _ _ _ | with_reducible exact jx _ _ | with_reducible refine ad ?_ ?_ ?_ ?_ ?_ | with_reducible refine aa ?_ ?_ ?_ ?_ | with_reducible refine ab ?_ ?_ ?_ | with_reducible refine af ?_ ?_ | with_reducible refine aj ?_ ?_ | with_reducible refine ai ?_ _ | (intro _) | with_reducible exact ah _ | exact ag | (dsimp only))
def BS (x : Int) : Option Int :=
 (
 bif decide (x ≥ 65536) then
  some (shrK .u32 x 16,16)
 else
  some (x,0)).bind fun q =>
 (
 bif decide (q.1 ≥ 256) then
  some (shrK .u32 q.1 8,w64 (q.2 + 8))
 else
  some (q.1,q.2)).bind fun q1 =>
 (idx ([0,1,2,2,3,3,3,3,4,4,4,4,4,4,4,4,5,5,5,5,5,5,5,5,5,5,5,5,5,5,5,5,6,6,6,6,6,6,6,6,6,6,6,6,6,6,6,6,6,6,6,6,6,6,6,6,6,6,6,6,6,6,6,6,7,7,7,7,7,7,7,7,7,7,7,7,7,7,7,7,7,7,7,7,7,7,7,7,7,7,7,7,7,7,7,7,7,7,7,7,7,7,7,7,7,7,7,7,7,7,7,7,7,7,7,7,7,7,7,7,7,7,7,7,7,7,7,7,8,8,8,8,8,8,8,8,8,8,8,8,8,8,8,8,8,8,8,8,8,8,8,8,8,8,8,8,8,8,8,8,8,8,8,8,8,8,8,8,8,8,8,8,8,8,8,8,8,8,8,8,8,8,8,8,8,8,8,8,8,8,8,8,8,8,8,8,8,8,8,8,8,8,8,8,8,8,8,8,8,8,8,8,8,8,8,8,8,8,8,8,8,8,8,8,8,8,8,8,8,8,8,8,8,8,8,8,8,8,8,8,8,8,8,8,8,8,8,8,8,8,8,8,8,8,8,8] : List UInt8) (IntKind.u8.wrap q1.1)).bind fun ch =>
 let n:=w64 (q1.2 + (w64 (ch.toNat : Int)))
 some n
def mH (x : Int) : Option Int :=
 (kj x).bind fun x1 =>
 some x1
theorem so (x : Int) : Lo (mH x) (nP x):=by
 unfold mH nP
 repeat' (first | with_reducible exact qC _ | with_reducible refine ad ?_ ?_ ?_ ?_ ?_ | with_reducible refine aa ?_ ?_ ?_ ?_ | with_reducible refine ab ?_ ?_ ?_ | with_reducible refine af ?_ ?_ | with_reducible refine aj ?_ ?_ | with_reducible refine ai ?_ _ | (intro _) | with_reducible exact ah _ | exact ag | (dsimp only))
def eO (length : Int) : Option Int :=
 (mH (IntKind.u64.wrap length)).bind fun x =>
 (nn x).bind fun _ =>
 some (shlK .u64 1 x)
theorem nI (length : Int) : Lo (eO length) (dC length):=by
 unfold eO dC
 repeat' (first | with_reducible exact so _ | with_reducible refine ad ?_ ?_ ?_ ?_ ?_ | with_reducible refine aa ?_ ?_ ?_ ?_ | with_reducible refine ab ?_ ?_ ?_ | with_reducible refine af ?_ ?_ | with_reducible refine aj ?_ ?_ | with_reducible refine ai ?_ _ | (intro _) | with_reducible exact ah _ | exact ag | (dsimp only))
def fq (r : Int) : Option (Int × Int) :=
 some (xorK .u64 (xorK .u64 (xorK .u64 r (shlK .u64 r 13)) (shrK .u64 (xorK .u64 r (shlK .u64 r 13)) 7)) (shlK .u64 (xorK .u64 (xorK .u64 r (shlK .u64 r 13)) (shrK .u64 (xorK .u64 r (shlK .u64 r 13)) 7)) 17),xorK .u64 (xorK .u64 (xorK .u64 r (shlK .u64 r 13)) (shrK .u64 (xorK .u64 r (shlK .u64 r 13)) 7)) (shlK .u64 (xorK .u64 (xorK .u64 r (shlK .u64 r 13)) (shrK .u64 (xorK .u64 r (shlK .u64 r 13)) 7)) 17))
theorem n8 (r : Int) : Lo (fq r) (d4 r):=by
 unfold fq d4
 repeat' (first | with_reducible refine ad ?_ ?_ ?_ ?_ ?_ | with_reducible refine aa ?_ ?_ ?_ ?_ | with_reducible refine ab ?_ ?_ ?_ | with_reducible refine af ?_ ?_ | with_reducible refine aj ?_ ?_ | with_reducible refine ai ?_ _ | (intro _) | with_reducible exact ah _ | exact ag | (dsimp only))
def bC (a : Int) (b : Int) (modulus : Int) (t : List Int × Int × Int) : Option ((List Int × Int × Int) ⊕ List Int) :=
 bif decide (t.2.2 ≤ (w64 ((w64 (a + (w64 ((w64 (Int.tdiv (w64 (b - a)) 4)) * 2)))) + 1))) then
 (fq t.2.1).bind fun x =>
 let other:=w64 (andK .u64 x.1 (IntKind.u64.wrap (modulus - 1)))
 (
  bif decide (other ≥ (w64 (b - a))) then
  let other1:=w64 (other - (w64 (b - a)))
  some other1
  else
  some other).bind fun other2 =>
 (inb (w64 (a + other2)) t.1.length).bind fun i =>
 (t.1[i]?).bind fun x1 =>
 (inb t.2.2 t.1.length).bind fun i1 =>
 (t.1[i1]?).bind fun x2 =>
 (inb t.2.2 t.1.length).bind fun i2 =>
 (t.1[i2]?).bind fun x3 =>
 (inb (w64 (a + other2)) (List.set t.1 i2 x1).length).bind fun i3 =>
 ((List.set t.1 i2 x1)[i3]?).bind fun x4 =>
 some (.inl (List.set (List.set t.1 i2 x1) i3 x2,x.2,w64 (t.2.2 + 1)))
 else
 some (.inr t.1)
theorem hG (a : Int) (b : Int) (modulus : Int) (t : List Int × Int × Int) : Lo (bC a b modulus t) (bP a b modulus t):=by
 unfold bC bP
 repeat' (first | with_reducible exact n8 _ | with_reducible refine ad ?_ ?_ ?_ ?_ ?_ | with_reducible refine aa ?_ ?_ ?_ ?_ | with_reducible refine ab ?_ ?_ ?_ | with_reducible refine af ?_ ?_ | with_reducible refine aj ?_ ?_ | with_reducible refine ai ?_ _ | (intro _) | with_reducible exact ah _ | exact ag | (dsimp only))
def bU (data : List Int) (a : Int) (b : Int) : Option (List Int) :=
 bif decide ((w64 (b - a)) ≥ 8) then
 (eO (w64 (b - a))).bind fun modulus =>
 let idx_:=w64 ((w64 (a + (w64 ((w64 (Int.tdiv (w64 (b - a)) 4)) * 2)))) - 1)
 (itr 4096 (bC a b modulus) (data,IntKind.u64.wrap (w64 (b - a)),idx_)).bind fun data1 =>
 some data1
 else
 some data
theorem iL (data : List Int) (a : Int) (b : Int) : Lo (bU data a b) (be data a b):=by
 unfold bU be
 repeat' (first | with_reducible exact nI _ | with_reducible exact hG _ _ _ _ | with_reducible refine ad ?_ ?_ ?_ ?_ ?_ | with_reducible refine aa ?_ ?_ ?_ ?_ | with_reducible refine ab ?_ ?_ ?_ | with_reducible refine af ?_ ?_ | with_reducible refine aj ?_ ?_ | with_reducible refine ai ?_ _ | (intro _) | with_reducible exact ah _ | exact ag | (dsimp only))
def a_ (data : List Int) (a : Int) (b : Int) (swaps : Int) : Option (Int × Int × Int) :=
 (idx data b).bind fun x =>
 (idx data a).bind fun x1 =>
 (ay x x1).bind fun x2 =>
 bif x2 then
 some (b,a,w64 (swaps + 1))
 else
 some (a,b,swaps)
theorem k8 (data : List Int) (a : Int) (b : Int) (swaps : Int) : Lo (a_ data a b swaps) (aQ data a b swaps):=by
 unfold a_ aQ
 repeat' (first | with_reducible exact aD _ _ | with_reducible refine ad ?_ ?_ ?_ ?_ ?_ | with_reducible refine aa ?_ ?_ ?_ ?_ | with_reducible refine ab ?_ ?_ ?_ | with_reducible refine af ?_ ?_ | with_reducible refine aj ?_ ?_ | with_reducible refine ai ?_ _ | (intro _) | with_reducible exact ah _ | exact ag | (dsimp only))
def b8 (data : List Int) (a : Int) (b : Int) (c : Int) (swaps : Int) : Option (Int × Int) :=
 (a_ data a b swaps).bind fun x =>
 (a_ data x.2.1 c x.2.2).bind fun x1 =>
 (a_ data x.1 x1.1 x1.2.2).bind fun x2 =>
 some (x2.2.1,x2.2.2)
theorem f_ (data : List Int) (a : Int) (b : Int) (c : Int) (swaps : Int) : Lo (b8 data a b c swaps) (bv data a b c swaps):=by
 unfold b8 bv
 repeat' (first | with_reducible exact k8 _ _ _ _ | with_reducible refine ad ?_ ?_ ?_ ?_ ?_ | with_reducible refine aa ?_ ?_ ?_ ?_ | with_reducible refine ab ?_ ?_ ?_ | with_reducible refine af ?_ ?_ | with_reducible refine aj ?_ ?_ | with_reducible refine ai ?_ _ | (intro _) | with_reducible exact ah _ | exact ag | (dsimp only))
def aI (data : List Int) (a : Int) (swaps : Int) : Option (Int × Int) :=
 (b8 data (w64 (a - 1)) a (w64 (a + 1)) swaps).bind fun x =>
 some (x.1,x.2)
theorem iC (data : List Int) (a : Int) (swaps : Int) : Lo (aI data a swaps) (aA data a swaps):=by
 unfold aI aA
 repeat' (first | with_reducible exact f_ _ _ _ _ _ | with_reducible refine ad ?_ ?_ ?_ ?_ ?_ | with_reducible refine aa ?_ ?_ ?_ ?_ | with_reducible refine ab ?_ ?_ ?_ | with_reducible refine af ?_ ?_ | with_reducible refine aj ?_ ?_ | with_reducible refine ai ?_ _ | (intro _) | with_reducible exact ah _ | exact ag | (dsimp only))
def cD (data : List Int) (a : Int) (b : Int) : Option (Int × Int) :=
 let i:=w64 (a + (w64 ((w64 (Int.tdiv (w64 (b - a)) 4)) * 1)))
 let j:=w64 (a + (w64 ((w64 (Int.tdiv (w64 (b - a)) 4)) * 2)))
 let k:=w64 (a + (w64 ((w64 (Int.tdiv (w64 (b - a)) 4)) * 3)))
 (
 bif decide ((w64 (b - a)) ≥ 8) then
  (
  bif decide ((w64 (b - a)) ≥ 50) then
   (aI data i 0).bind fun i1 =>
   (aI data j i1.2).bind fun j1 =>
   (aI data k j1.2).bind fun k1 =>
   some (k1.2,i1.1,j1.1,k1.1)
  else
   some (0,i,j,k)).bind fun q =>
  (b8 data q.2.1 q.2.2.1 q.2.2.2 q.1).bind fun j2 =>
  some (j2.2,j2.1)
 else
  some (0,j)).bind fun q1 =>
 bif q1.1 == 0 then
 some (q1.2,1)
 else
 bif q1.1 == 12 then
  some (q1.2,2)
 else
  some (q1.2,0)
theorem jy (data : List Int) (a : Int) (b : Int) : Lo (cD data a b) (bw data a b):=by
 unfold cD bw
 repeat' (first | with_reducible exact iC _ _ _ | with_reducible exact f_ _ _ _ _ _ | with_reducible refine ad ?_ ?_ ?_ ?_ ?_ | with_reducible refine aa ?_ ?_ ?_ ?_ | with_reducible refine ab ?_ ?_ ?_ | with_reducible refine af ?_ ?_ | with_reducible refine aj ?_ ?_ | with_reducible refine ai ?_ _ | (intro _) | with_reducible exact ah _ | exact ag | (dsimp only))
def bM (t : List Int × Int × Int) : Option ((List Int × Int × Int) ⊕ List Int) :=
 bif decide (t.2.1 < t.2.2) then
 (inb t.2.2 t.1.length).bind fun i =>
 (t.1[i]?).bind fun x =>
 (inb t.2.1 t.1.length).bind fun i1 =>
 (t.1[i1]?).bind fun x1 =>
 (inb t.2.1 t.1.length).bind fun i2 =>
 (t.1[i2]?).bind fun x2 =>
 (inb t.2.2 (List.set t.1 i2 x).length).bind fun i3 =>
 ((List.set t.1 i2 x)[i3]?).bind fun x3 =>
 some (.inl (List.set (List.set t.1 i2 x) i3 x1,w64 (t.2.1 + 1),w64 (t.2.2 - 1)))
 else
 some (.inr t.1)
theorem ij (t : List Int × Int × Int) : Lo (bM t) (bX t):=by
 unfold bM bX
 repeat' (first | with_reducible refine ad ?_ ?_ ?_ ?_ ?_ | with_reducible refine aa ?_ ?_ ?_ ?_ | with_reducible refine ab ?_ ?_ ?_ | with_reducible refine af ?_ ?_ | with_reducible refine aj ?_ ?_ | with_reducible refine ai ?_ _ | (intro _) | with_reducible exact ah _ | exact ag | (dsimp only))
def ci (data : List Int) (a : Int) (b : Int) : Option (List Int) :=
 (itr 4096 bM (data,a,w64 (b - 1))).bind fun data1 =>
 some data1
theorem i_ (data : List Int) (a : Int) (b : Int) : Lo (ci data a b) (bj data a b):=by
 unfold ci bj
 repeat' (first | with_reducible exact ij _ | with_reducible refine ad ?_ ?_ ?_ ?_ ?_ | with_reducible refine aa ?_ ?_ ?_ ?_ | with_reducible refine ab ?_ ?_ ?_ | with_reducible refine af ?_ ?_ | with_reducible refine aj ?_ ?_ | with_reducible refine ai ?_ _ | (intro _) | with_reducible exact ah _ | exact ag | (dsimp only))
def aM (b : Int) (t2 : List Int × Int) : Option ((List Int × Int) ⊕ List Int) :=
 bif decide (t2.2 < b) then
 (inb t2.2 t2.1.length).bind fun i14 =>
 (t2.1[i14]?).bind fun x14 =>
 (inb (w64 (t2.2 - 1)) t2.1.length).bind fun i15 =>
 (t2.1[i15]?).bind fun x15 =>
 (ay x14 x15).bind fun x16 =>
 bif ! x16 then
  some (.inr t2.1)
 else
  (inb (w64 (t2.2 - 1)) t2.1.length).bind fun i16 =>
  (t2.1[i16]?).bind fun x17 =>
  (inb t2.2 t2.1.length).bind fun i17 =>
  (t2.1[i17]?).bind fun x18 =>
  (inb t2.2 t2.1.length).bind fun i18 =>
  (t2.1[i18]?).bind fun x19 =>
  (inb (w64 (t2.2 - 1)) (List.set t2.1 i18 x17).length).bind fun i19 =>
  ((List.set t2.1 i18 x17)[i19]?).bind fun x20 =>
  some (.inl (List.set (List.set t2.1 i18 x17) i19 x18,w64 (t2.2 + 1)))
 else
 some (.inr t2.1)
theorem fb (b : Int) (t2 : List Int × Int) : Lo (aM b t2) (aT b t2):=by
 unfold aM aT
 repeat' (first | with_reducible exact aD _ _ | with_reducible refine ad ?_ ?_ ?_ ?_ ?_ | with_reducible refine aa ?_ ?_ ?_ ?_ | with_reducible refine ab ?_ ?_ ?_ | with_reducible refine af ?_ ?_ | with_reducible refine aj ?_ ?_ | with_reducible refine ai ?_ _ | (intro _) | with_reducible exact ah _ | exact ag | (dsimp only))
def aP (t1 : List Int × Int) : Option ((List Int × Int) ⊕ List Int) :=
 bif decide (t1.2 ≥ 1) then
 (inb t1.2 t1.1.length).bind fun i8 =>
 (t1.1[i8]?).bind fun x7 =>
 (inb (w64 (t1.2 - 1)) t1.1.length).bind fun i9 =>
 (t1.1[i9]?).bind fun x8 =>
 (ay x7 x8).bind fun x9 =>
 bif ! x9 then
  some (.inr t1.1)
 else
  (inb (w64 (t1.2 - 1)) t1.1.length).bind fun i10 =>
  (t1.1[i10]?).bind fun x10 =>
  (inb t1.2 t1.1.length).bind fun i11 =>
  (t1.1[i11]?).bind fun x11 =>
  (inb t1.2 t1.1.length).bind fun i12 =>
  (t1.1[i12]?).bind fun x12 =>
  (inb (w64 (t1.2 - 1)) (List.set t1.1 i12 x10).length).bind fun i13 =>
  ((List.set t1.1 i12 x10)[i13]?).bind fun x13 =>
  some (.inl (List.set (List.set t1.1 i12 x10) i13 x11,w64 (t1.2 - 1)))
 else
 some (.inr t1.1)
theorem fc (t1 : List Int × Int) : Lo (aP t1) (aU t1):=by
 unfold aP aU
 repeat' (first | with_reducible exact aD _ _ | with_reducible refine ad ?_ ?_ ?_ ?_ ?_ | with_reducible refine aa ?_ ?_ ?_ ?_ | with_reducible refine ab ?_ ?_ ?_ | with_reducible refine af ?_ ?_ | with_reducible refine aj ?_ ?_ | with_reducible refine ai ?_ _ | (intro _) | with_reducible exact ah _ | exact ag | (dsimp only))
def aO (b : Int) (t : List Int × Int × Int) (i : Int) : Option (Int ⊕ Int) :=
 (
 bif decide (i < b) then
  (inb i t.1.length).bind fun i1 =>
  (t.1[i1]?).bind fun x =>
  (inb (w64 (i - 1)) t.1.length).bind fun i2 =>
  (t.1[i2]?).bind fun x1 =>
  (ay x x1).bind fun x2 =>
  some (! x2)
 else
  some false).bind fun q =>
 bif q then
 some (.inl (w64 (i + 1)))
 else
 some (.inr i)
theorem eQ (b : Int) (t : List Int × Int × Int) (i : Int) : Lo (aO b t i) (aV b t i):=by
 unfold aO aV
 repeat' (first | with_reducible exact aD _ _ | with_reducible refine ad ?_ ?_ ?_ ?_ ?_ | with_reducible refine aa ?_ ?_ ?_ ?_ | with_reducible refine ab ?_ ?_ ?_ | with_reducible refine af ?_ ?_ | with_reducible refine aj ?_ ?_ | with_reducible refine ai ?_ _ | (intro _) | with_reducible exact ah _ | exact ag | (dsimp only))
def aN (a : Int) (b : Int) (t : List Int × Int × Int) : Option ((List Int × Int × Int) ⊕ ((List Int × Bool) ⊕ List Int)) :=
 bif decide (t.2.2 < 5) then
 (
  (itr 4096 (aO b t) t.2.1).bind fun i3 =>
  bif i3 == b then
  some (.inr (t.1,true))
  else
  bif decide ((w64 (b - a)) < 50) then
   some (.inr (t.1,false))
  else
   (inb (w64 (i3 - 1)) t.1.length).bind fun i4 =>
   (t.1[i4]?).bind fun x3 =>
   (inb i3 t.1.length).bind fun i5 =>
   (t.1[i5]?).bind fun x4 =>
   (inb i3 t.1.length).bind fun i6 =>
   (t.1[i6]?).bind fun x5 =>
   (inb (w64 (i3 - 1)) (List.set t.1 i6 x3).length).bind fun i7 =>
   ((List.set t.1 i6 x3)[i7]?).bind fun x6 =>
   (
   bif decide ((w64 (i3 - a)) ≥ 2) then
    (itr 4096 aP (List.set (List.set t.1 i6 x3) i7 x4,w64 (i3 - 1))).bind fun data1 =>
    some data1
   else
    some (List.set (List.set t.1 i6 x3) i7 x4)).bind fun data2 =>
   bif decide ((w64 (b - i3)) ≥ 2) then
   (itr 4096 (aM b) (data2,w64 (i3 + 1))).bind fun data3 =>
   some (.inl (data3,i3))
   else
   some (.inl (data2,i3)) : Option ((List Int × Int) ⊕ (List Int × Bool))).bind fun q0 =>
 match q0 with
 | .inl q1 =>
  some (.inl (q1.1,q1.2,w64 (t.2.2 + 1)))
 | .inr q2 =>
  some (.inr (.inl (q2.1,q2.2)))
 else
 some (.inr (.inr (t.1)))
theorem eP (a : Int) (b : Int) (t : List Int × Int × Int) : Lo (aN a b t) (aS a b t):=by
 unfold aN aS
 repeat' (first | with_reducible exact eQ _ _ _ | with_reducible exact fc _ | with_reducible exact fb _ _ | with_reducible refine ad ?_ ?_ ?_ ?_ ?_ | with_reducible refine aa ?_ ?_ ?_ ?_ | with_reducible refine ab ?_ ?_ ?_ | with_reducible refine af ?_ ?_ | with_reducible refine aj ?_ ?_ | with_reducible refine ai ?_ _ | (intro _) | with_reducible exact ah _ | exact ag | (dsimp only))
def a9 (data : List Int) (a : Int) (b : Int) : Option (Bool × List Int) :=
 (itr 4096 (aN a b) (data,w64 (a + 1),0)).bind fun q0 =>
 match q0 with
 | .inl q3 =>
 some (q3.2,q3.1)
 | .inr data4 =>
 some (false,data4)
theorem fV (data : List Int) (a : Int) (b : Int) : Lo (a9 data a b) (aL data a b):=by
 unfold a9 aL
 repeat' (first | with_reducible exact eP _ _ _ | with_reducible refine ad ?_ ?_ ?_ ?_ ?_ | with_reducible refine aa ?_ ?_ ?_ ?_ | with_reducible refine ab ?_ ?_ ?_ | with_reducible refine af ?_ ?_ | with_reducible refine aj ?_ ?_ | with_reducible refine ai ?_ _ | (intro _) | with_reducible exact ah _ | exact ag | (dsimp only))
def bq (a : Int) (t : List Int × Int × Int) (i7 : Int) (j : Int) : Option (Int ⊕ Int) :=
 (
 bif decide (i7 ≤ j) then
  (inb a t.1.length).bind fun i8 =>
  (t.1[i8]?).bind fun x7 =>
  (inb j t.1.length).bind fun i9 =>
  (t.1[i9]?).bind fun x8 =>
  (ay x7 x8).bind fun x9 =>
  some x9
 else
  some false).bind fun q1 =>
 bif q1 then
 some (.inl (w64 (j - 1)))
 else
 some (.inr j)
theorem gR (a : Int) (t : List Int × Int × Int) (i7 : Int) (j : Int) : Lo (bq a t i7 j) (bL a t i7 j):=by
 unfold bq bL
 repeat' (first | with_reducible exact aD _ _ | with_reducible refine ad ?_ ?_ ?_ ?_ ?_ | with_reducible refine aa ?_ ?_ ?_ ?_ | with_reducible refine ab ?_ ?_ ?_ | with_reducible refine af ?_ ?_ | with_reducible refine aj ?_ ?_ | with_reducible refine ai ?_ _ | (intro _) | with_reducible exact ah _ | exact ag | (dsimp only))
def bn (a : Int) (t : List Int × Int × Int) (i4 : Int) : Option (Int ⊕ Int) :=
 (
 bif decide (i4 ≤ t.2.2) then
  (inb a t.1.length).bind fun i5 =>
  (t.1[i5]?).bind fun x4 =>
  (inb i4 t.1.length).bind fun i6 =>
  (t.1[i6]?).bind fun x5 =>
  (ay x4 x5).bind fun x6 =>
  some (! x6)
 else
  some false).bind fun q =>
 bif q then
 some (.inl (w64 (i4 + 1)))
 else
 some (.inr i4)
theorem gO (a : Int) (t : List Int × Int × Int) (i4 : Int) : Lo (bn a t i4) (bN a t i4):=by
 unfold bn bN
 repeat' (first | with_reducible exact aD _ _ | with_reducible refine ad ?_ ?_ ?_ ?_ ?_ | with_reducible refine aa ?_ ?_ ?_ ?_ | with_reducible refine ab ?_ ?_ ?_ | with_reducible refine af ?_ ?_ | with_reducible refine aj ?_ ?_ | with_reducible refine ai ?_ _ | (intro _) | with_reducible exact ah _ | exact ag | (dsimp only))
def bo (a : Int) (t : List Int × Int × Int) : Option ((List Int × Int × Int) ⊕ ((List Int × Int))) :=
 (itr 4096 (bn a t) t.2.1).bind fun i7 =>
 (itr 4096 (bq a t i7) t.2.2).bind fun j1 =>
 bif decide (i7 > j1) then
 some (.inr (t.1,i7))
 else
 (inb j1 t.1.length).bind fun i10 =>
 (t.1[i10]?).bind fun x10 =>
 (inb i7 t.1.length).bind fun i11 =>
 (t.1[i11]?).bind fun x11 =>
 (inb i7 t.1.length).bind fun i12 =>
 (t.1[i12]?).bind fun x12 =>
 (inb j1 (List.set t.1 i12 x10).length).bind fun i13 =>
 ((List.set t.1 i12 x10)[i13]?).bind fun x13 =>
 some (.inl (List.set (List.set t.1 i12 x10) i13 x11,w64 (i7 + 1),w64 (j1 - 1)))
theorem gN (a : Int) (t : List Int × Int × Int) : Lo (bo a t) (bJ a t):=by
 unfold bo bJ
 repeat' (first | with_reducible exact gO _ _ _ | with_reducible exact gR _ _ _ _ | with_reducible refine ad ?_ ?_ ?_ ?_ ?_ | with_reducible refine aa ?_ ?_ ?_ ?_ | with_reducible refine ab ?_ ?_ ?_ | with_reducible refine af ?_ ?_ | with_reducible refine aj ?_ ?_ | with_reducible refine ai ?_ _ | (intro _) | with_reducible exact ah _ | exact ag | (dsimp only))
def bO (data : List Int) (a : Int) (b : Int) (pivot : Int) : Option (Int × List Int) :=
 (inb pivot data.length).bind fun i =>
 (data[i]?).bind fun x =>
 (inb a data.length).bind fun i1 =>
 (data[i1]?).bind fun x1 =>
 (inb a data.length).bind fun i2 =>
 (data[i2]?).bind fun x2 =>
 (inb pivot (List.set data i2 x).length).bind fun i3 =>
 ((List.set data i2 x)[i3]?).bind fun x3 =>
 (itr 4096 (bo a) (List.set (List.set data i2 x) i3 x1,w64 (a + 1),w64 (b - 1))).bind fun q2 =>
 some (q2.2,q2.1)
theorem ir (data : List Int) (a : Int) (b : Int) (pivot : Int) : Lo (bO data a b pivot) (aZ data a b pivot):=by
 unfold bO aZ
 repeat' (first | with_reducible exact gN _ _ | with_reducible refine ad ?_ ?_ ?_ ?_ ?_ | with_reducible refine aa ?_ ?_ ?_ ?_ | with_reducible refine ab ?_ ?_ ?_ | with_reducible refine af ?_ ?_ | with_reducible refine aj ?_ ?_ | with_reducible refine ai ?_ _ | (intro _) | with_reducible exact ah _ | exact ag | (dsimp only))
def ce (a : Int) (t : List Int × Int × Int) (i21 : Int) (j2 : Int) : Option (Int ⊕ Int) :=
 (
 bif decide (i21 ≤ j2) then
  (inb j2 t.1.length).bind fun i22 =>
  (t.1[i22]?).bind fun x21 =>
  (inb a t.1.length).bind fun i23 =>
  (t.1[i23]?).bind fun x22 =>
  (ay x21 x22).bind fun x23 =>
  some (! x23)
 else
  some false).bind fun q3 =>
 bif q3 then
 some (.inl (w64 (j2 - 1)))
 else
 some (.inr j2)
theorem ja (a : Int) (t : List Int × Int × Int) (i21 : Int) (j2 : Int) : Lo (ce a t i21 j2) (cI a t i21 j2):=by
 unfold ce cI
 repeat' (first | with_reducible exact aD _ _ | with_reducible refine ad ?_ ?_ ?_ ?_ ?_ | with_reducible refine aa ?_ ?_ ?_ ?_ | with_reducible refine ab ?_ ?_ ?_ | with_reducible refine af ?_ ?_ | with_reducible refine aj ?_ ?_ | with_reducible refine ai ?_ _ | (intro _) | with_reducible exact ah _ | exact ag | (dsimp only))
def cb (a : Int) (t : List Int × Int × Int) (i18 : Int) : Option (Int ⊕ Int) :=
 (
 bif decide (i18 ≤ t.2.2) then
  (inb i18 t.1.length).bind fun i19 =>
  (t.1[i19]?).bind fun x18 =>
  (inb a t.1.length).bind fun i20 =>
  (t.1[i20]?).bind fun x19 =>
  (ay x18 x19).bind fun x20 =>
  some x20
 else
  some false).bind fun q2 =>
 bif q2 then
 some (.inl (w64 (i18 + 1)))
 else
 some (.inr i18)
theorem iY (a : Int) (t : List Int × Int × Int) (i18 : Int) : Lo (cb a t i18) (cH a t i18):=by
 unfold cb cH
 repeat' (first | with_reducible exact aD _ _ | with_reducible refine ad ?_ ?_ ?_ ?_ ?_ | with_reducible refine aa ?_ ?_ ?_ ?_ | with_reducible refine ab ?_ ?_ ?_ | with_reducible refine af ?_ ?_ | with_reducible refine aj ?_ ?_ | with_reducible refine ai ?_ _ | (intro _) | with_reducible exact ah _ | exact ag | (dsimp only))
def cf (a : Int) (t : List Int × Int × Int) : Option ((List Int × Int × Int) ⊕ ((List Int × Int))) :=
 (itr 4096 (cb a t) t.2.1).bind fun i21 =>
 (itr 4096 (ce a t i21) t.2.2).bind fun j3 =>
 bif decide (i21 > j3) then
 some (.inr (t.1,j3))
 else
 (inb j3 t.1.length).bind fun i24 =>
 (t.1[i24]?).bind fun x24 =>
 (inb i21 t.1.length).bind fun i25 =>
 (t.1[i25]?).bind fun x25 =>
 (inb i21 t.1.length).bind fun i26 =>
 (t.1[i26]?).bind fun x26 =>
 (inb j3 (List.set t.1 i26 x24).length).bind fun i27 =>
 ((List.set t.1 i26 x24)[i27]?).bind fun x27 =>
 some (.inl (List.set (List.set t.1 i26 x24) i27 x25,w64 (i21 + 1),w64 (j3 - 1)))
theorem jd (a : Int) (t : List Int × Int × Int) : Lo (cf a t) (cM a t):=by
 unfold cf cM
 repeat' (first | with_reducible exact iY _ _ _ | with_reducible exact ja _ _ _ _ | with_reducible refine ad ?_ ?_ ?_ ?_ ?_ | with_reducible refine aa ?_ ?_ ?_ ?_ | with_reducible refine ab ?_ ?_ ?_ | with_reducible refine af ?_ ?_ | with_reducible refine aj ?_ ?_ | with_reducible refine ai ?_ _ | (intro _) | with_reducible exact ah _ | exact ag | (dsimp only))
def cg (data : List Int) (a : Int) (x : Int) (x1 : Int) (i2 : Nat) (i3 : Nat) (i7 : Int) (j : Int) : Option (Int ⊕ Int) :=
 (
 bif decide (i7 ≤ j) then
  (inb j (List.set (List.set data i2 x) i3 x1).length).bind fun i8 =>
  ((List.set (List.set data i2 x) i3 x1)[i8]?).bind fun x7 =>
  (inb a (List.set (List.set data i2 x) i3 x1).length).bind fun i9 =>
  ((List.set (List.set data i2 x) i3 x1)[i9]?).bind fun x8 =>
  (ay x7 x8).bind fun x9 =>
  some (! x9)
 else
  some false).bind fun q1 =>
 bif q1 then
 some (.inl (w64 (j - 1)))
 else
 some (.inr j)
theorem jb (data : List Int) (a : Int) (x : Int) (x1 : Int) (i2 : Nat) (i3 : Nat) (i7 : Int) (j : Int) : Lo (cg data a x x1 i2 i3 i7 j) (cJ data a x x1 i2 i3 i7 j):=by
 unfold cg cJ
 repeat' (first | with_reducible exact aD _ _ | with_reducible refine ad ?_ ?_ ?_ ?_ ?_ | with_reducible refine aa ?_ ?_ ?_ ?_ | with_reducible refine ab ?_ ?_ ?_ | with_reducible refine af ?_ ?_ | with_reducible refine aj ?_ ?_ | with_reducible refine ai ?_ _ | (intro _) | with_reducible exact ah _ | exact ag | (dsimp only))
def cj (data : List Int) (a : Int) (b : Int) (x : Int) (x1 : Int) (i2 : Nat) (i3 : Nat) (i4 : Int) : Option (Int ⊕ Int) :=
 (
 bif decide (i4 ≤ (w64 (b - 1))) then
  (inb i4 (List.set (List.set data i2 x) i3 x1).length).bind fun i5 =>
  ((List.set (List.set data i2 x) i3 x1)[i5]?).bind fun x4 =>
  (inb a (List.set (List.set data i2 x) i3 x1).length).bind fun i6 =>
  ((List.set (List.set data i2 x) i3 x1)[i6]?).bind fun x5 =>
  (ay x4 x5).bind fun x6 =>
  some x6
 else
  some false).bind fun q =>
 bif q then
 some (.inl (w64 (i4 + 1)))
 else
 some (.inr i4)
theorem jh (data : List Int) (a : Int) (b : Int) (x : Int) (x1 : Int) (i2 : Nat) (i3 : Nat) (i4 : Int) : Lo (cj data a b x x1 i2 i3 i4) (cK data a b x x1 i2 i3 i4):=by
 unfold cj cK
 repeat' (first | with_reducible exact aD _ _ | with_reducible refine ad ?_ ?_ ?_ ?_ ?_ | with_reducible refine aa ?_ ?_ ?_ ?_ | with_reducible refine ab ?_ ?_ ?_ | with_reducible refine af ?_ ?_ | with_reducible refine aj ?_ ?_ | with_reducible refine ai ?_ _ | (intro _) | with_reducible exact ah _ | exact ag | (dsimp only))
def cR (data : List Int) (a : Int) (b : Int) (pivot : Int) : Option (Int × Bool × List Int) :=
 (inb pivot data.length).bind fun i =>
 (data[i]?).bind fun x =>
 (inb a data.length).bind fun i1 =>
 (data[i1]?).bind fun x1 =>
 (inb a data.length).bind fun i2 =>
 (data[i2]?).bind fun x2 =>
 (inb pivot (List.set data i2 x).length).bind fun i3 =>
 ((List.set data i2 x)[i3]?).bind fun x3 =>
 (itr 4096 (cj data a b x x1 i2 i3) (w64 (a + 1))).bind fun i7 =>
 (itr 4096 (cg data a x x1 i2 i3 i7) (w64 (b - 1))).bind fun j1 =>
 bif decide (i7 > j1) then
 (inb a (List.set (List.set data i2 x) i3 x1).length).bind fun i10 =>
 ((List.set (List.set data i2 x) i3 x1)[i10]?).bind fun x10 =>
 (inb j1 (List.set (List.set data i2 x) i3 x1).length).bind fun i11 =>
 ((List.set (List.set data i2 x) i3 x1)[i11]?).bind fun x11 =>
 (inb j1 (List.set (List.set data i2 x) i3 x1).length).bind fun i12 =>
 ((List.set (List.set data i2 x) i3 x1)[i12]?).bind fun x12 =>
 (inb a (List.set (List.set (List.set data i2 x) i3 x1) i12 x10).length).bind fun i13 =>
 ((List.set (List.set (List.set data i2 x) i3 x1) i12 x10)[i13]?).bind fun x13 =>
 some (j1,true,List.set (List.set (List.set (List.set data i2 x) i3 x1) i12 x10) i13 x11)
 else
 (inb j1 (List.set (List.set data i2 x) i3 x1).length).bind fun i14 =>
 ((List.set (List.set data i2 x) i3 x1)[i14]?).bind fun x14 =>
 (inb i7 (List.set (List.set data i2 x) i3 x1).length).bind fun i15 =>
 ((List.set (List.set data i2 x) i3 x1)[i15]?).bind fun x15 =>
 (inb i7 (List.set (List.set data i2 x) i3 x1).length).bind fun i16 =>
 ((List.set (List.set data i2 x) i3 x1)[i16]?).bind fun x16 =>
 (inb j1 (List.set (List.set (List.set data i2 x) i3 x1) i16 x14).length).bind fun i17 =>
 ((List.set (List.set (List.set data i2 x) i3 x1) i16 x14)[i17]?).bind fun x17 =>
 (itr 4096 (cf a) (List.set (List.set (List.set (List.set data i2 x) i3 x1) i16 x14) i17 x15,w64 (i7 + 1),w64 (j1 - 1))).bind fun q4 =>
 (inb a q4.1.length).bind fun i28 =>
 (q4.1[i28]?).bind fun x28 =>
 (inb q4.2 q4.1.length).bind fun i29 =>
 (q4.1[i29]?).bind fun x29 =>
 (inb q4.2 q4.1.length).bind fun i30 =>
 (q4.1[i30]?).bind fun x30 =>
 (inb a (List.set q4.1 i30 x28).length).bind fun i31 =>
 ((List.set q4.1 i30 x28)[i31]?).bind fun x31 =>
 some (q4.2,false,List.set (List.set q4.1 i30 x28) i31 x29)
theorem j6 (data : List Int) (a : Int) (b : Int) (pivot : Int) : Lo (cR data a b pivot) (bT data a b pivot):=by
 unfold cR bT
 repeat' (first | with_reducible exact jh _ _ _ _ _ _ _ _ | with_reducible exact jb _ _ _ _ _ _ _ _ | with_reducible exact jd _ _ | with_reducible refine ad ?_ ?_ ?_ ?_ ?_ | with_reducible refine aa ?_ ?_ ?_ ?_ | with_reducible refine ab ?_ ?_ ?_ | with_reducible refine af ?_ ?_ | with_reducible refine aj ?_ ?_ | with_reducible refine ai ?_ _ | (intro _) | with_reducible exact ah _ | exact ag | (dsimp only))
def cm (self : (List Int) → Int → Int → Int → Option (List Int)) (t : List Int × Int × Int × Int × Bool × Bool) : Option ((List Int × Int × Int × Int × Bool × Bool) ⊕ List Int) :=
 let length:=w64 (t.2.2.1 - t.2.1)
 bif decide (length ≤ 12) then
 (bV t.1 t.2.1 t.2.2.1).bind fun x =>
 some (.inr x)
 else
 bif t.2.2.2.1 == 0 then
  (da t.1 t.2.1 t.2.2.1).bind fun x1 =>
  some (.inr x1)
 else
  (
  bif ! t.2.2.2.2.1 then
   (bU t.1 t.2.1 t.2.2.1).bind fun x2 =>
   some (x2,w64 (t.2.2.2.1 - 1))
  else
   some (t.1,t.2.2.2.1)).bind fun q =>
  (cD q.1 t.2.1 t.2.2.1).bind fun x3 =>
  (
  bif x3.2 == 2 then
   (ci q.1 t.2.1 t.2.2.1).bind fun x4 =>
   let pivot:=w64 ((w64 (t.2.2.1 - 1)) - (w64 (x3.1 - t.2.1)))
   some (x4,pivot,1)
  else
   some (q.1,x3.1,x3.2)).bind fun q1 =>
  (
  (
   bif t.2.2.2.2.1 then
   bif t.2.2.2.2.2 then
    some (q1.2.2 == 1)
   else
    some false
   else
   some false).bind fun q2 =>
  bif q2 then
   (a9 q1.1 t.2.1 t.2.2.1).bind fun x5 =>
   bif x5.1 then
   some (.inr (x5.2))
   else
   some (.inl (x5.2))
  else
   some (.inl (q1.1)) : Option (List Int ⊕ List Int)).bind fun q0 =>
  match q0 with
  | .inl data1 =>
  (
   bif decide (t.2.1 > 0) then
   (inb (w64 (t.2.1 - 1)) data1.length).bind fun i =>
   (data1[i]?).bind fun x6 =>
   (inb q1.2.1 data1.length).bind fun i1 =>
   (data1[i1]?).bind fun x7 =>
   (ay x6 x7).bind fun x8 =>
   some (! x8)
   else
   some false).bind fun q3 =>
  bif q3 then
   (bO data1 t.2.1 t.2.2.1 q1.2.1).bind fun mid =>
   some (.inl (mid.2,mid.1,t.2.2.1,q.2,t.2.2.2.2.1,t.2.2.2.2.2))
  else
   (cR data1 t.2.1 t.2.2.1 q1.2.1).bind fun x9 =>
   let leftLen:=w64 (x9.1 - t.2.1)
   let rightLen:=w64 (t.2.2.1 - x9.1)
   bif decide (leftLen < rightLen) then
   let wasBalanced:=decide (leftLen ≥ (w64 (Int.tdiv length 8)))
   (self x9.2.2 t.2.1 x9.1 q.2).bind fun x10 =>
   some (.inl (x10,w64 (x9.1 + 1),t.2.2.1,q.2,wasBalanced,x9.2.1))
   else
   let wasBalanced1:=decide (rightLen ≥ (w64 (Int.tdiv length 8)))
   (self x9.2.2 (w64 (x9.1 + 1)) t.2.2.1 q.2).bind fun x11 =>
   some (.inl (x11,t.2.1,x9.1,q.2,wasBalanced1,x9.2.1))
  | .inr data2 =>
  some (.inr data2)
theorem jk (self self_' : (List Int) → Int → Int → Int → Option (List Int)) (h_self : ∀ (a0 : (List Int)) (a1 : Int) (a2 : Int) (a3 : Int),Lo (self a0 a1 a2 a3) (self_' a0 a1 a2 a3)) (t : List Int × Int × Int × Int × Bool × Bool) : Lo (cm self t) (cN self_' t):=by
 unfold cm cN
 repeat' (first | with_reducible exact iM _ _ _ | with_reducible exact j8 _ _ _ | with_reducible exact iL _ _ _ | with_reducible exact jy _ _ _ | with_reducible exact i_ _ _ _ | with_reducible exact fV _ _ _ | with_reducible exact aD _ _ | with_reducible exact ir _ _ _ _ | with_reducible exact j6 _ _ _ _ | with_reducible refine h_self _ _ _ _ | with_reducible refine ad ?_ ?_ ?_ ?_ ?_ | with_reducible refine aa ?_ ?_ ?_ ?_ | with_reducible refine ab ?_ ?_ ?_ | with_reducible refine af ?_ ?_ | with_reducible refine aj ?_ ?_ | with_reducible refine ai ?_ _ | (intro _) | with_reducible exact ah _ | exact ag | (dsimp only))
def cV (self : (List Int) → Int → Int → Int → Option (List Int)) (data : List Int) (a : Int) (b : Int) (limit : Int) : Option (List Int) :=
 (itr 4096 (cm self) (data,a,b,limit,true,true)).bind fun data3 =>
 some data3
theorem jZ (self self_' : (List Int) → Int → Int → Int → Option (List Int)) (h_self : ∀ (a0 : (List Int)) (a1 : Int) (a2 : Int) (a3 : Int),Lo (self a0 a1 a2 a3) (self_' a0 a1 a2 a3)) (data : List Int) (a : Int) (b : Int) (limit : Int) : Lo (cV self data a b limit) (du self_' data a b limit):=by
 unfold cV du
 repeat' (first | with_reducible refine jk _ _ ?_ _ | with_reducible refine h_self _ _ _ _ | with_reducible refine ad ?_ ?_ ?_ ?_ ?_ | with_reducible refine aa ?_ ?_ ?_ ?_ | with_reducible refine ab ?_ ?_ ?_ | with_reducible refine af ?_ ?_ | with_reducible refine aj ?_ ?_ | with_reducible refine ai ?_ _ | (intro _) | with_reducible exact ah _ | exact ag | (dsimp only))
def br : Nat → (List Int) → Int → Int → Int → Option (List Int)
 | 0 => fun _ _ _ _ => none
 | n + 1 => cV (br n)
theorem eB : ∀ (n : Nat),∀ (a0 : List Int) (a1 : Int) (a2 : Int) (a3 : Int),Lo (br n a0 a1 a2 a3) (aW n a0 a1 a2 a3)
 | 0 => fun _ _ _ _ => ag
 | n + 1 => fun a0 a1 a2 a3 => jZ (br n) (aW n) (eB n) a0 a1 a2 a3
def dh (a0 : List Int) (a1 : Int) (a2 : Int) (a3 : Int) : Option (List Int):=br 64 a0 a1 a2 a3
theorem kV (a0 : List Int) (a1 : Int) (a2 : Int) (a3 : Int) : Lo (dh a0 a1 a2 a3) (co a0 a1 a2 a3):=by
 unfold dh co
 repeat' (first | with_reducible refine eB _ _ _ _ _ | with_reducible refine ad ?_ ?_ ?_ ?_ ?_ | with_reducible refine aa ?_ ?_ ?_ ?_ | with_reducible refine ab ?_ ?_ ?_ | with_reducible refine af ?_ ?_ | with_reducible refine aj ?_ ?_ | with_reducible refine ai ?_ _ | (intro _) | with_reducible exact ah _ | exact ag | (dsimp only))
def ef (x : List Int) : Option (List Int) :=
 (mH (IntKind.u64.wrap (x.length : Int))).bind fun x1 =>
 (dh x 0 (x.length : Int) x1).bind fun x2 =>
 some x2
theorem mF (x : List Int) : Lo (ef x) (dv x):=by
 unfold ef dv
 repeat' (first | with_reducible exact so _ | with_reducible exact kV _ _ _ _ | with_reducible refine ad ?_ ?_ ?_ ?_ ?_ | with_reducible refine aa ?_ ?_ ?_ ?_ | with_reducible refine ab ?_ ?_ ?_ | with_reducible refine af ?_ ?_ | with_reducible refine aj ?_ ?_ | with_reducible refine ai ?_ _ | (intro _) | with_reducible exact ah _ | exact ag | (dsimp only))
def iw (s : State) (t2 : State) (t3 : List Int × Int) : Option ((List Int × Int) ⊕ List Int) :=
 bif decide (t3.2 < (s.Conts.length : Int)) then
 (
  (idx s.Conts t3.2).bind fun x5 =>
  (lg t2.Conts (fun a' => iX a'.1 x5)).bind fun x6 =>
  bif ! x6 then
  (app 8 t3.1 [x5.Id]).bind fun l =>
  some l
  else
  some t3.1).bind fun gone =>
 some (.inl (gone,w64 (t3.2 + 1)))
 else
 some (.inr t3.1)
theorem qI (s : State) (t2 : State) (t3 : List Int × Int) : Lo (iw s t2 t3) (jQ s t2 t3):=by
 unfold iw jQ
 repeat' (first | with_reducible refine tn _ _ _ ?_ | with_reducible exact rz _ _ | with_reducible refine ad ?_ ?_ ?_ ?_ ?_ | with_reducible refine aa ?_ ?_ ?_ ?_ | with_reducible refine ab ?_ ?_ ?_ | with_reducible refine af ?_ ?_ | with_reducible refine aj ?_ ?_ | with_reducible refine ai ?_ _ | (intro _) | with_reducible exact ah _ | exact ag | (dsimp only))
def iu (x1 : State) (x2 : List Int) (t1 : Int) : Option (Int ⊕ Unit) :=
 bif decide (t1 < (x2.length : Int)) then
 (inb t1 x2.length).bind fun i =>
 (x2[i]?).bind fun x3 =>
 (gX x1.Conts (fun a' => jn a'.1 x3)).bind fun i1 =>
 (idx x1.Conts i1).bind fun x4 =>
 none
 else
 some (.inr ())
theorem qL (x1 : State) (x2 : List Int) (t1 : Int) : Lo (iu x1 x2 t1) (jI x1 x2 t1):=by
 unfold iu jI
 repeat' (first | with_reducible refine nN _ _ _ ?_ | with_reducible exact ru _ _ | with_reducible refine ad ?_ ?_ ?_ ?_ ?_ | with_reducible refine aa ?_ ?_ ?_ ?_ | with_reducible refine ab ?_ ?_ ?_ | with_reducible refine af ?_ ?_ | with_reducible refine aj ?_ ?_ | with_reducible refine ai ?_ _ | (intro _) | with_reducible exact ah _ | exact ag | (dsimp only))
def ip (s : State) (t : State × Int) : Option ((State × Int) ⊕ State) :=
 bif decide (t.2 < (s.Conf.Labels.length : Int)) then
 (lm t.1 t.2).bind fun x1 =>
 (fZ x1 t.2).bind fun x2 =>
 (itr 4096 (iu x1 x2) 0).bind fun _ =>
 some (.inl (x1,w64 (t.2 + 1)))
 else
 some (.inr t.1)
theorem qF (s : State) (t : State × Int) : Lo (ip s t) (jR s t):=by
 unfold ip jR
 repeat' (first | with_reducible exact tW _ _ | with_reducible exact kG _ _ | with_reducible exact qL _ _ _ | with_reducible refine ad ?_ ?_ ?_ ?_ ?_ | with_reducible refine aa ?_ ?_ ?_ ?_ | with_reducible refine ab ?_ ?_ ?_ | with_reducible refine af ?_ ?_ | with_reducible refine aj ?_ ?_ | with_reducible refine ai ?_ _ | (intro _) | with_reducible exact ah _ | exact ag | (dsimp only))
def kc (s : State) : Option (State × List Int) :=
 (o0 s []).bind fun x =>
 (itr 4096 (ip s) (x,0)).bind fun t2 =>
 (itr 4096 (iw s t2) ([],0)).bind fun gone1 =>
 (ef gone1).bind fun x7 =>
 some (t2,x7)
theorem s_ (s : State) : Lo (kc s) (jC s):=by
 unfold kc jC
 repeat' (first | with_reducible exact wE _ _ | with_reducible exact qF _ _ | with_reducible exact qI _ _ _ | with_reducible exact mF _ | with_reducible refine ad ?_ ?_ ?_ ?_ ?_ | with_reducible refine aa ?_ ?_ ?_ ?_ | with_reducible refine ab ?_ ?_ ?_ | with_reducible refine af ?_ ?_ | with_reducible refine aj ?_ ?_ | with_reducible refine ai ?_ _ | (intro _) | with_reducible exact ah _ | exact ag | (dsimp only))
def fg (x2 : Queue) (x3 : Queue) (k : Int) : Option (Int ⊕ (Bool ⊕ Unit)) :=
 bif decide (k < (x2.Caps.length : Int)) then
 (idx x2.Caps k).bind fun x4 =>
 (idx x3.Caps k).bind fun x5 =>
 bif ! ((x4.Least == x5.Least) && (x4.Most == x5.Most)) then
  some (.inr (.inl false))
 else
  some (.inl (w64 (k + 1)))
 else
 some (.inr (.inr ()))
theorem oq (x2 : Queue) (x3 : Queue) (k : Int) : Lo (fg x2 x3 k) (gm x2 x3 k):=by
 unfold fg gm
 repeat' (first | with_reducible refine ad ?_ ?_ ?_ ?_ ?_ | with_reducible refine aa ?_ ?_ ?_ ?_ | with_reducible refine ab ?_ ?_ ?_ | with_reducible refine af ?_ ?_ | with_reducible refine aj ?_ ?_ | with_reducible refine ai ?_ _ | (intro _) | with_reducible exact ah _ | exact ag | (dsimp only))
def fh (a : Conf) (b : Conf) (i1 : Int) : Option (Int ⊕ (Bool ⊕ Unit)) :=
 bif decide (i1 < (a.Queues.length : Int)) then
 (idx a.Queues i1).bind fun x2 =>
 (idx b.Queues i1).bind fun x3 =>
 (
  bif ! (x2.Path == x3.Path) then
  some true
  else
  bif x2.User != x3.User then
   some true
  else
   some ((x2.Caps.length : Int) != (x3.Caps.length : Int))).bind fun q2 =>
 bif q2 then
  some (.inr (.inl false))
 else
  (itr 4096 (fg x2 x3) 0).bind fun q0 =>
  match q0 with
  | .inl q3 =>
  some (.inr (.inl q3))
  | .inr _ =>
  some (.inl (w64 (i1 + 1)))
 else
 some (.inr (.inr ()))
theorem oi (a : Conf) (b : Conf) (i1 : Int) : Lo (fh a b i1) (gq a b i1):=by
 unfold fh gq
 repeat' (first | with_reducible exact oq _ _ _ | with_reducible refine ad ?_ ?_ ?_ ?_ ?_ | with_reducible refine aa ?_ ?_ ?_ ?_ | with_reducible refine ab ?_ ?_ ?_ | with_reducible refine af ?_ ?_ | with_reducible refine aj ?_ ?_ | with_reducible refine ai ?_ _ | (intro _) | with_reducible exact ah _ | exact ag | (dsimp only))
def fy (a : Conf) (b : Conf) (i : Int) : Option (Int ⊕ (Bool ⊕ Unit)) :=
 bif decide (i < (a.Labels.length : Int)) then
 (idx a.Labels i).bind fun x =>
 (idx b.Labels i).bind fun x1 =>
 bif ! (x == x1) then
  some (.inr (.inl false))
 else
  some (.inl (w64 (i + 1)))
 else
 some (.inr (.inr ()))
theorem oj (a : Conf) (b : Conf) (i : Int) : Lo (fy a b i) (gx a b i):=by
 unfold fy gx
 repeat' (first | with_reducible refine ad ?_ ?_ ?_ ?_ ?_ | with_reducible refine aa ?_ ?_ ?_ ?_ | with_reducible refine ab ?_ ?_ ?_ | with_reducible refine af ?_ ?_ | with_reducible refine aj ?_ ?_ | with_reducible refine ai ?_ _ | (intro _) | with_reducible exact ah _ | exact ag | (dsimp only))
def g_ (a : Conf) (b : Conf) : Option Bool :=
 (
 bif (a.Labels.length : Int) != (b.Labels.length : Int) then
  some true
 else
  some ((a.Queues.length : Int) != (b.Queues.length : Int))).bind fun q =>
 bif q then
 some false
 else
 (itr 4096 (fy a b) 0).bind fun q0 =>
 match q0 with
 | .inl q1 =>
  some q1
 | .inr _ =>
  (itr 4096 (fh a b) 0).bind fun q0 =>
  match q0 with
  | .inl q4 =>
  some q4
  | .inr _ =>
  some true
theorem qk (a : Conf) (b : Conf) : Lo (g_ a b) (fI a b):=by
 unfold g_ fI
 repeat' (first | with_reducible exact oj _ _ _ | with_reducible exact oi _ _ _ | with_reducible refine ad ?_ ?_ ?_ ?_ ?_ | with_reducible refine aa ?_ ?_ ?_ ?_ | with_reducible refine ab ?_ ?_ ?_ | with_reducible refine af ?_ ?_ | with_reducible refine aj ?_ ?_ | with_reducible refine ai ?_ _ | (intro _) | with_reducible exact ah _ | exact ag | (dsimp only))
def eK (a : List Int) (b : List Int) (i : Int) : Option (Int ⊕ (Bool ⊕ Unit)) :=
 bif decide (i < (a.length : Int)) then
 (idx a i).bind fun x =>
 (idx b i).bind fun x1 =>
 bif x != x1 then
  some (.inr (.inl false))
 else
  some (.inl (w64 (i + 1)))
 else
 some (.inr (.inr ()))
theorem nR (a : List Int) (b : List Int) (i : Int) : Lo (eK a b i) (gd a b i):=by
 unfold eK gd
 repeat' (first | with_reducible refine ad ?_ ?_ ?_ ?_ ?_ | with_reducible refine aa ?_ ?_ ?_ ?_ | with_reducible refine ab ?_ ?_ ?_ | with_reducible refine af ?_ ?_ | with_reducible refine aj ?_ ?_ | with_reducible refine ai ?_ _ | (intro _) | with_reducible exact ah _ | exact ag | (dsimp only))
def bS (a : List Int) (b : List Int) : Option Bool :=
 bif (a.length : Int) != (b.length : Int) then
 some false
 else
 (itr 4096 (eK a b) 0).bind fun q0 =>
 match q0 with
 | .inl q =>
  some q
 | .inr _ =>
  some true
theorem pv (a : List Int) (b : List Int) : Lo (bS a b) (bK a b):=by
 unfold bS bK
 repeat' (first | with_reducible exact nR _ _ _ | with_reducible refine ad ?_ ?_ ?_ ?_ ?_ | with_reducible refine aa ?_ ?_ ?_ ?_ | with_reducible refine ab ?_ ?_ ?_ | with_reducible refine af ?_ ?_ | with_reducible refine aj ?_ ?_ | with_reducible refine ai ?_ _ | (intro _) | with_reducible exact ah _ | exact ag | (dsimp only))
def fu (a : App) (b : App) (i : Int) : Option (Int ⊕ (Bool ⊕ Unit)) :=
 bif decide (i < (a.Asks.length : Int)) then
 (idx a.Asks i).bind fun x =>
 (idx b.Asks i).bind fun x1 =>
 bif ! ((x.Prio == x1.Prio) && ((x.Label == x1.Label) && (((x.Size.Mem == x1.Size.Mem) && (x.Size.Cores == x1.Size.Cores)) && ((x.Count == x1.Count) && ((x.Node == x1.Node) && ((x.Rack == x1.Rack) && (x.Missed == x1.Missed))))))) then
  some (.inr (.inl false))
 else
  some (.inl (w64 (i + 1)))
 else
 some (.inr (.inr ()))
theorem om (a : App) (b : App) (i : Int) : Lo (fu a b i) (gB a b i):=by
 unfold fu gB
 repeat' (first | with_reducible refine ad ?_ ?_ ?_ ?_ ?_ | with_reducible refine aa ?_ ?_ ?_ ?_ | with_reducible refine ab ?_ ?_ ?_ | with_reducible refine af ?_ ?_ | with_reducible refine aj ?_ ?_ | with_reducible refine ai ?_ _ | (intro _) | with_reducible exact ah _ | exact ag | (dsimp only))
def g9 (a : App) (b : App) : Option Bool :=
 (
 bif a.Id != b.Id then
  some true
 else
  bif a.State != b.State then
  some true
  else
  bif ! (a.Queue == b.Queue) then
   some true
  else
   bif a.User != b.User then
   some true
   else
   bif a.Prio != b.Prio then
    some true
   else
    bif ! ((a.Master.Mem == b.Master.Mem) && (a.Master.Cores == b.Master.Cores)) then
    some true
    else
    bif a.Seen != b.Seen then
     some true
    else
     bif a.Beat != b.Beat then
     some true
     else
     some ((a.Asks.length : Int) != (b.Asks.length : Int))).bind fun q =>
 bif q then
 some false
 else
 (itr 4096 (fu a b) 0).bind fun q0 =>
 match q0 with
 | .inl q1 =>
  some q1
 | .inr _ =>
  (bS a.Grants b.Grants).bind fun x2 =>
  bif x2 then
  (bS a.Kills b.Kills).bind fun x3 =>
  bif x3 then
   (bS a.Told b.Told).bind fun x4 =>
   bif x4 then
   (bS a.Lost b.Lost).bind fun x5 =>
   some x5
   else
   some false
  else
   some false
  else
  some false
theorem qs (a : App) (b : App) : Lo (g9 a b) (fE a b):=by
 unfold g9 fE
 repeat' (first | with_reducible exact om _ _ _ | with_reducible exact pv _ _ | with_reducible refine ad ?_ ?_ ?_ ?_ ?_ | with_reducible refine aa ?_ ?_ ?_ ?_ | with_reducible refine ab ?_ ?_ ?_ | with_reducible refine af ?_ ?_ | with_reducible refine aj ?_ ?_ | with_reducible refine ai ?_ _ | (intro _) | with_reducible exact ah _ | exact ag | (dsimp only))
def eD (a : State) (b : State) (t4 : Bool × Int) : Option ((Bool × Int) ⊕ Bool) :=
 bif decide (t4.2 < (a.Plans.length : Int)) then
 (
  bif t4.1 then
  (idx a.Plans t4.2).bind fun x10 =>
  (idx b.Plans t4.2).bind fun x11 =>
  let ok11:=(x10.Id == x11.Id) && ((x10.Label == x11.Label) && ((x10.From == x11.From) && ((x10.Until == x11.Until) && ((x10.Need.Mem == x11.Need.Mem) && (x10.Need.Cores == x11.Need.Cores)))))
  some ok11
  else
  some false).bind fun ok12 =>
 some (.inl (ok12,w64 (t4.2 + 1)))
 else
 some (.inr t4.1)
theorem nO (a : State) (b : State) (t4 : Bool × Int) : Lo (eD a b t4) (fY a b t4):=by
 unfold eD fY
 repeat' (first | with_reducible refine ad ?_ ?_ ?_ ?_ ?_ | with_reducible refine aa ?_ ?_ ?_ ?_ | with_reducible refine ab ?_ ?_ ?_ | with_reducible refine af ?_ ?_ | with_reducible refine aj ?_ ?_ | with_reducible refine ai ?_ _ | (intro _) | with_reducible exact ah _ | exact ag | (dsimp only))
def eC (a : State) (b : State) (t3 : Bool × Int) : Option ((Bool × Int) ⊕ Bool) :=
 bif decide (t3.2 < (a.Slots.length : Int)) then
 (
  bif t3.1 then
  (idx a.Slots t3.2).bind fun x8 =>
  (idx b.Slots t3.2).bind fun x9 =>
  let ok8:=(x8.Node == x9.Node) && ((x8.App == x9.App) && (x8.Prio == x9.Prio))
  some ok8
  else
  some false).bind fun ok9 =>
 some (.inl (ok9,w64 (t3.2 + 1)))
 else
 some (.inr t3.1)
theorem nE (a : State) (b : State) (t3 : Bool × Int) : Lo (eC a b t3) (fR a b t3):=by
 unfold eC fR
 repeat' (first | with_reducible refine ad ?_ ?_ ?_ ?_ ?_ | with_reducible refine aa ?_ ?_ ?_ ?_ | with_reducible refine ab ?_ ?_ ?_ | with_reducible refine af ?_ ?_ | with_reducible refine aj ?_ ?_ | with_reducible refine ai ?_ _ | (intro _) | with_reducible exact ah _ | exact ag | (dsimp only))
def eI (a : State) (b : State) (t2 : Bool × Int) : Option ((Bool × Int) ⊕ Bool) :=
 bif decide (t2.2 < (a.Conts.length : Int)) then
 (
  bif t2.1 then
  (idx a.Conts t2.2).bind fun x6 =>
  (idx b.Conts t2.2).bind fun x7 =>
  let ok5:=(x6.Id == x7.Id) && ((x6.App == x7.App) && ((x6.Node == x7.Node) && (((x6.Size.Mem == x7.Size.Mem) && (x6.Size.Cores == x7.Size.Cores)) && ((x6.Prio == x7.Prio) && ((x6.Label == x7.Label) && ((x6.Master == x7.Master) && (x6.Notice == x7.Notice)))))))
  some ok5
  else
  some false).bind fun ok6 =>
 some (.inl (ok6,w64 (t2.2 + 1)))
 else
 some (.inr t2.1)
theorem ni (a : State) (b : State) (t2 : Bool × Int) : Lo (eI a b t2) (fT a b t2):=by
 unfold eI fT
 repeat' (first | with_reducible refine ad ?_ ?_ ?_ ?_ ?_ | with_reducible refine aa ?_ ?_ ?_ ?_ | with_reducible refine ab ?_ ?_ ?_ | with_reducible refine af ?_ ?_ | with_reducible refine aj ?_ ?_ | with_reducible refine ai ?_ _ | (intro _) | with_reducible exact ah _ | exact ag | (dsimp only))
def eE (a : State) (b : State) (t1 : Bool × Int) : Option ((Bool × Int) ⊕ Bool) :=
 bif decide (t1.2 < (a.Apps.length : Int)) then
 (
  bif t1.1 then
  (idx a.Apps t1.2).bind fun x3 =>
  (idx b.Apps t1.2).bind fun x4 =>
  (g9 x3 x4).bind fun x5 =>
  some x5
  else
  some false).bind fun ok3 =>
 some (.inl (ok3,w64 (t1.2 + 1)))
 else
 some (.inr t1.1)
theorem nX (a : State) (b : State) (t1 : Bool × Int) : Lo (eE a b t1) (fL a b t1):=by
 unfold eE fL
 repeat' (first | with_reducible exact qs _ _ | with_reducible refine ad ?_ ?_ ?_ ?_ ?_ | with_reducible refine aa ?_ ?_ ?_ ?_ | with_reducible refine ab ?_ ?_ ?_ | with_reducible refine af ?_ ?_ | with_reducible refine aj ?_ ?_ | with_reducible refine ai ?_ _ | (intro _) | with_reducible exact ah _ | exact ag | (dsimp only))
def eG (a : State) (b : State) (t : Bool × Int) : Option ((Bool × Int) ⊕ Bool) :=
 bif decide (t.2 < (a.Nodes.length : Int)) then
 (
  bif t.1 then
  (idx a.Nodes t.2).bind fun x1 =>
  (idx b.Nodes t.2).bind fun x2 =>
  let ok:=(x1.Id == x2.Id) && ((x1.Label == x2.Label) && ((x1.Rack == x2.Rack) && (((x1.Cap.Mem == x2.Cap.Mem) && (x1.Cap.Cores == x2.Cap.Cores)) && ((x1.Seen == x2.Seen) && ((x1.Beat == x2.Beat) && (x1.Up == x2.Up))))))
  some ok
  else
  some false).bind fun ok1 =>
 some (.inl (ok1,w64 (t.2 + 1)))
 else
 some (.inr t.1)
theorem m6 (a : State) (b : State) (t : Bool × Int) : Lo (eG a b t) (ga a b t):=by
 unfold eG ga
 repeat' (first | with_reducible refine ad ?_ ?_ ?_ ?_ ?_ | with_reducible refine aa ?_ ?_ ?_ ?_ | with_reducible refine ab ?_ ?_ ?_ | with_reducible refine af ?_ ?_ | with_reducible refine aj ?_ ?_ | with_reducible refine ai ?_ _ | (intro _) | with_reducible exact ah _ | exact ag | (dsimp only))
def gC (a : State) (b : State) : Option Bool :=
 (
 (g_ a.Conf b.Conf).bind fun x =>
 bif ! x then
  some true
 else
  bif a.Now != b.Now then
  some true
  else
  bif a.Epoch != b.Epoch then
   some true
  else
   bif a.Seq != b.Seq then
   some true
   else
   bif (a.Nodes.length : Int) != (b.Nodes.length : Int) then
    some true
   else
    bif (a.Apps.length : Int) != (b.Apps.length : Int) then
    some true
    else
    bif (a.Conts.length : Int) != (b.Conts.length : Int) then
     some true
    else
     bif (a.Slots.length : Int) != (b.Slots.length : Int) then
     some true
     else
     some ((a.Plans.length : Int) != (b.Plans.length : Int))).bind fun q =>
 bif q then
 some false
 else
 (itr 4096 (eG a b) (true,0)).bind fun ok2 =>
 (itr 4096 (eE a b) (ok2,0)).bind fun ok4 =>
 (itr 4096 (eI a b) (ok4,0)).bind fun ok7 =>
 (itr 4096 (eC a b) (ok7,0)).bind fun ok10 =>
 (itr 4096 (eD a b) (ok10,0)).bind fun ok13 =>
 some ok13
theorem pL (a : State) (b : State) : Lo (gC a b) (fe a b):=by
 unfold gC fe
 repeat' (first | with_reducible exact qk _ _ | with_reducible exact m6 _ _ _ | with_reducible exact nX _ _ _ | with_reducible exact ni _ _ _ | with_reducible exact nE _ _ _ | with_reducible exact nO _ _ _ | with_reducible refine ad ?_ ?_ ?_ ?_ ?_ | with_reducible refine aa ?_ ?_ ?_ ?_ | with_reducible refine ab ?_ ?_ ?_ | with_reducible refine af ?_ ?_ | with_reducible refine aj ?_ ?_ | with_reducible refine ai ?_ _ | (intro _) | with_reducible exact ah _ | exact ag | (dsimp only))
def et : Option State :=
 some (⟨⟨[([] : List UInt8)],[(⟨([114,111,111,116] : List UInt8),[(⟨10000,10000⟩ : Cap)],10000⟩ : Queue)]⟩,[],[],[],[],[],0,0,0⟩ : State)
theorem kz : Lo (et) (dO):=by
 unfold et dO
 repeat' (first | with_reducible refine ad ?_ ?_ ?_ ?_ ?_ | with_reducible refine aa ?_ ?_ ?_ ?_ | with_reducible refine ab ?_ ?_ ?_ | with_reducible refine af ?_ ?_ | with_reducible refine aj ?_ ?_ | with_reducible refine ai ?_ _ | (intro _) | with_reducible exact ah _ | exact ag | (dsimp only))
def fO : Option Bool :=
 (et).bind fun x =>
 (kc x).bind fun x1 =>
 (gC x x1.1).bind fun x2 =>
 bif x2 then
 bif (x1.2.length : Int) == 0 then
  (fZ x 0).bind fun x3 =>
  bif (x3.length : Int) == 0 then
  some ((x1.1.Conf.Queues.length : Int) == 1)
  else
  some false
 else
  some false
 else
 some false
theorem pb : Lo (fO) (eA):=by
 unfold fO eA
 repeat' (first | with_reducible exact kz  | with_reducible exact s_ _ | with_reducible exact pL _ _ | with_reducible exact kG _ _ | with_reducible refine ad ?_ ?_ ?_ ?_ ?_ | with_reducible refine aa ?_ ?_ ?_ ?_ | with_reducible refine ab ?_ ?_ ?_ | with_reducible refine af ?_ ?_ | with_reducible refine aj ?_ ?_ | with_reducible refine ai ?_ _ | (intro _) | with_reducible exact ah _ | exact ag | (dsimp only))
def gZ (a : Vec) (b : Vec) : Option Vec :=
 some (⟨w64 (a.Mem + b.Mem),w64 (a.Cores + b.Cores)⟩ : Vec)
theorem qr (a : Vec) (b : Vec) : Lo (gZ a b) (fA a b):=by
 unfold gZ fA
 repeat' (first | with_reducible refine ad ?_ ?_ ?_ ?_ ?_ | with_reducible refine aa ?_ ?_ ?_ ?_ | with_reducible refine ab ?_ ?_ ?_ | with_reducible refine af ?_ ?_ | with_reducible refine aj ?_ ?_ | with_reducible refine ai ?_ _ | (intro _) | with_reducible exact ah _ | exact ag | (dsimp only))
def eM (s : State) (label : Int) (t : Vec × Int) : Option ((Vec × Int) ⊕ Vec) :=
 bif decide (t.2 < (s.Nodes.length : Int)) then
 (
  (
  (idx s.Nodes t.2).bind fun x =>
  bif x.Up then
   (idx s.Nodes t.2).bind fun x1 =>
   some (x1.Label == label)
  else
   some false).bind fun q =>
  bif q then
  (idx s.Nodes t.2).bind fun x2 =>
  (gZ t.1 x2.Cap).bind fun x3 =>
  some x3
  else
  some t.1).bind fun v =>
 some (.inl (v,w64 (t.2 + 1)))
 else
 some (.inr t.1)
theorem m7 (s : State) (label : Int) (t : Vec × Int) : Lo (eM s label t) (gh s label t):=by
 unfold eM gh
 repeat' (first | with_reducible exact qr _ _ | with_reducible refine ad ?_ ?_ ?_ ?_ ?_ | with_reducible refine aa ?_ ?_ ?_ ?_ | with_reducible refine ab ?_ ?_ ?_ | with_reducible refine af ?_ ?_ | with_reducible refine aj ?_ ?_ | with_reducible refine ai ?_ _ | (intro _) | with_reducible exact ah _ | exact ag | (dsimp only))
def gF (s : State) (label : Int) : Option Vec :=
 (itr 4096 (eM s label) ((⟨0,0⟩ : Vec),0)).bind fun v1 =>
 some v1
theorem pA (s : State) (label : Int) : Lo (gF s label) (eW s label):=by
 unfold gF eW
 repeat' (first | with_reducible exact m7 _ _ _ | with_reducible refine ad ?_ ?_ ?_ ?_ ?_ | with_reducible refine aa ?_ ?_ ?_ ?_ | with_reducible refine ab ?_ ?_ ?_ | with_reducible refine af ?_ ?_ | with_reducible refine aj ?_ ?_ | with_reducible refine ai ?_ _ | (intro _) | with_reducible exact ah _ | exact ag | (dsimp only))
def fk (c : Conf) (path : List UInt8) (t : Queue × Int) : Option ((Queue × Int) ⊕ ((Queue × Bool) ⊕ Queue)) :=
 bif decide (t.2 < (c.Queues.length : Int)) then
 (idx c.Queues t.2).bind fun x =>
 bif x.Path == path then
  (idx c.Queues t.2).bind fun x1 =>
  (app 16 [] x1.Caps).bind fun l =>
  some (.inr (.inl ((⟨x1.Path,l,x1.User⟩ : Queue),true)))
 else
  some (.inl (t.1,w64 (t.2 + 1)))
 else
 some (.inr (.inr (t.1)))
theorem ot (c : Conf) (path : List UInt8) (t : Queue × Int) : Lo (fk c path t) (gj c path t):=by
 unfold fk gj
 repeat' (first | with_reducible refine ad ?_ ?_ ?_ ?_ ?_ | with_reducible refine aa ?_ ?_ ?_ ?_ | with_reducible refine ab ?_ ?_ ?_ | with_reducible refine af ?_ ?_ | with_reducible refine aj ?_ ?_ | with_reducible refine ai ?_ _ | (intro _) | with_reducible exact ah _ | exact ag | (dsimp only))
def er (c : Conf) (path : List UInt8) : Option (Queue × Bool) :=
 (itr 4096 (fk c path) ((⟨[],[],0⟩ : Queue),0)).bind fun q0 =>
 match q0 with
 | .inl q =>
 some (q.1,q.2)
 | .inr q1 =>
 some ((⟨[],[],0⟩ : Queue),false)
theorem kN (c : Conf) (path : List UInt8) : Lo (er c path) (dL c path):=by
 unfold er dL
 repeat' (first | with_reducible exact ot _ _ _ | with_reducible refine ad ?_ ?_ ?_ ?_ ?_ | with_reducible refine aa ?_ ?_ ?_ ?_ | with_reducible refine ab ?_ ?_ ?_ | with_reducible refine af ?_ ?_ | with_reducible refine aj ?_ ?_ | with_reducible refine ai ?_ _ | (intro _) | with_reducible exact ah _ | exact ag | (dsimp only))
def eJ (path : List UInt8) (k1 : Int) : Option (Int ⊕ Int) :=
 (
 bif decide (k1 ≥ 0) then
  (idx path k1).bind fun ch =>
  some ((ch.toNat : Int) != 46)
 else
  some false).bind fun q =>
 bif q then
 some (.inl (w64 (k1 - 1)))
 else
 some (.inr k1)
theorem nc (path : List UInt8) (k1 : Int) : Lo (eJ path k1) (fX path k1):=by
 unfold eJ fX
 repeat' (first | with_reducible refine ad ?_ ?_ ?_ ?_ ?_ | with_reducible refine aa ?_ ?_ ?_ ?_ | with_reducible refine ab ?_ ?_ ?_ | with_reducible refine af ?_ ?_ | with_reducible refine aj ?_ ?_ | with_reducible refine ai ?_ _ | (intro _) | with_reducible exact ah _ | exact ag | (dsimp only))
def gI (path : List UInt8) : Option (List UInt8) :=
 let k:=w64 ((path.length : Int) - 1)
 (itr 4096 (eJ path) k).bind fun k2 =>
 bif decide (k2 < 0) then
 some ([] : List UInt8)
 else
 (slc path 0 k2).bind fun s =>
 some s
theorem pD (path : List UInt8) : Lo (gI path) (eT path):=by
 unfold gI eT
 repeat' (first | with_reducible exact nc _ _ | with_reducible refine ad ?_ ?_ ?_ ?_ ?_ | with_reducible refine aa ?_ ?_ ?_ ?_ | with_reducible refine ab ?_ ?_ ?_ | with_reducible refine af ?_ ?_ | with_reducible refine aj ?_ ?_ | with_reducible refine ai ?_ _ | (intro _) | with_reducible exact ah _ | exact ag | (dsimp only))
def gy (t : List UInt8 × List (List UInt8)) : Option ((List UInt8 × List (List UInt8)) ⊕ List (List UInt8)) :=
 bif ! (t.1 == ([] : List UInt8)) then
 (app 16 t.2 [t.1]).bind fun l =>
 (gI t.1).bind fun path1 =>
 some (.inl (path1,l))
 else
 some (.inr t.2)
theorem pO (t : List UInt8 × List (List UInt8)) : Lo (gy t) (iq t):=by
 unfold gy iq
 repeat' (first | with_reducible exact pD _ | with_reducible refine ad ?_ ?_ ?_ ?_ ?_ | with_reducible refine aa ?_ ?_ ?_ ?_ | with_reducible refine ab ?_ ?_ ?_ | with_reducible refine af ?_ ?_ | with_reducible refine aj ?_ ?_ | with_reducible refine ai ?_ _ | (intro _) | with_reducible exact ah _ | exact ag | (dsimp only))
def iW (path : List UInt8) : Option (List (List UInt8)) :=
 (itr 4096 gy (path,[])).bind fun l1 =>
 some l1
theorem qV (path : List UInt8) : Lo (iW path) (hZ path):=by
 unfold iW hZ
 repeat' (first | with_reducible exact pO _ | with_reducible refine ad ?_ ?_ ?_ ?_ ?_ | with_reducible refine aa ?_ ?_ ?_ ?_ | with_reducible refine ab ?_ ?_ ?_ | with_reducible refine af ?_ ?_ | with_reducible refine aj ?_ ?_ | with_reducible refine ai ?_ _ | (intro _) | with_reducible exact ah _ | exact ag | (dsimp only))
def eo (n : Int) : Option Bool :=
 bif decide (n ≥ 0) then
 some (decide (n ≤ 1125899906842624))
 else
 some false
theorem qy (n : Int) : Lo (eo n) (dK n):=by
 unfold eo dK
 repeat' (first | with_reducible refine ad ?_ ?_ ?_ ?_ ?_ | with_reducible refine aa ?_ ?_ ?_ ?_ | with_reducible refine ab ?_ ?_ ?_ | with_reducible refine af ?_ ?_ | with_reducible refine aj ?_ ?_ | with_reducible refine ai ?_ _ | (intro _) | with_reducible exact ah _ | exact ag | (dsimp only))
def eV (a : Vec) : Option Bool :=
 (eo a.Mem).bind fun x =>
 bif x then
 (eo a.Cores).bind fun x1 =>
 some x1
 else
 some false
theorem qH (a : Vec) : Lo (eV a) (eh a):=by
 unfold eV eh
 repeat' (first | with_reducible exact qy _ | with_reducible refine ad ?_ ?_ ?_ ?_ ?_ | with_reducible refine aa ?_ ?_ ?_ ?_ | with_reducible refine ab ?_ ?_ ?_ | with_reducible refine af ?_ ?_ | with_reducible refine aj ?_ ?_ | with_reducible refine ai ?_ _ | (intro _) | with_reducible exact ah _ | exact ag | (dsimp only))
def dZ (n : Int) (bp : Int) : Option Int :=
 some (w64 ((w64 ((w64 (Int.tdiv n 10000)) * bp)) + (w64 (Int.tdiv (w64 ((Int.tmod n 10000) * bp)) 10000))))
theorem pi (n : Int) (bp : Int) : Lo (dZ n bp) (dA n bp):=by
 unfold dZ dA
 repeat' (first | with_reducible refine ad ?_ ?_ ?_ ?_ ?_ | with_reducible refine aa ?_ ?_ ?_ ?_ | with_reducible refine ab ?_ ?_ ?_ | with_reducible refine af ?_ ?_ | with_reducible refine aj ?_ ?_ | with_reducible refine ai ?_ _ | (intro _) | with_reducible exact ah _ | exact ag | (dsimp only))
def gE (a : Vec) (bp : Int) : Option (Vec × Int) :=
 (
 (eV a).bind fun x =>
 bif ! x then
  some true
 else
  bif decide (bp < 0) then
  some true
  else
  some (decide (bp > 1000000))).bind fun q =>
 bif q then
 some ((⟨0,0⟩ : Vec),1)
 else
 (dZ a.Mem bp).bind fun x1 =>
 (dZ a.Cores bp).bind fun x2 =>
 (eV (⟨x1,x2⟩ : Vec)).bind fun x3 =>
 bif ! x3 then
  some ((⟨0,0⟩ : Vec),11)
 else
  some ((⟨x1,x2⟩ : Vec),0)
theorem pz (a : Vec) (bp : Int) : Lo (gE a bp) (eR a bp):=by
 unfold gE eR
 repeat' (first | with_reducible exact qH _ | with_reducible exact pi _ _ | with_reducible refine ad ?_ ?_ ?_ ?_ ?_ | with_reducible refine aa ?_ ?_ ?_ ?_ | with_reducible refine ab ?_ ?_ ?_ | with_reducible refine af ?_ ?_ | with_reducible refine aj ?_ ?_ | with_reducible refine ai ?_ _ | (intro _) | with_reducible exact ah _ | exact ag | (dsimp only))
def fp (s : State) (label : Int) (least : Bool) (up : List (List UInt8)) (t : Vec × Int) : Option ((Vec × Int) ⊕ Vec) :=
 bif decide (t.2 ≥ 0) then
 (inb t.2 up.length).bind fun i1 =>
 (up[i1]?).bind fun x2 =>
 (er s.Conf x2).bind fun x3 =>
 (inb label x3.1.Caps.length).bind fun i2 =>
 (x3.1.Caps[i2]?).bind fun x4 =>
 (
  bif least then
  (inb label x3.1.Caps.length).bind fun i3 =>
  (x3.1.Caps[i3]?).bind fun x5 =>
  some x5.Least
  else
  some x4.Most).bind fun bp =>
 (gE t.1 bp).bind fun x6 =>
 some (.inl (x6.1,w64 (t.2 - 1)))
 else
 some (.inr t.1)
theorem ol (s : State) (label : Int) (least : Bool) (up : List (List UInt8)) (t : Vec × Int) : Lo (fp s label least up t) (gk s label least up t):=by
 unfold fp gk
 repeat' (first | with_reducible exact kN _ _ | with_reducible exact pz _ _ | with_reducible refine ad ?_ ?_ ?_ ?_ ?_ | with_reducible refine aa ?_ ?_ ?_ ?_ | with_reducible refine ab ?_ ?_ ?_ | with_reducible refine af ?_ ?_ | with_reducible refine aj ?_ ?_ | with_reducible refine ai ?_ _ | (intro _) | with_reducible exact ah _ | exact ag | (dsimp only))
def hJ (s : State) (path : List UInt8) (label : Int) (least : Bool) : Option Vec :=
 (er s.Conf path).bind fun x =>
 (
 bif ! x.2 then
  some true
 else
  bif decide (label < 0) then
  some true
  else
  some (decide (label ≥ (s.Conf.Labels.length : Int)))).bind fun q =>
 bif q then
 some (⟨0,0⟩ : Vec)
 else
 (gF s label).bind fun x1 =>
 (iW path).bind fun up =>
 let i:=w64 ((up.length : Int) - 2)
 (itr 4096 (fp s label least up) (x1,i)).bind fun v =>
 some v
theorem qb (s : State) (path : List UInt8) (label : Int) (least : Bool) : Lo (hJ s path label least) (fF s path label least):=by
 unfold hJ fF
 repeat' (first | with_reducible exact kN _ _ | with_reducible exact pA _ _ | with_reducible exact qV _ | with_reducible exact ol _ _ _ _ _ | with_reducible refine ad ?_ ?_ ?_ ?_ ?_ | with_reducible refine aa ?_ ?_ ?_ ?_ | with_reducible refine ab ?_ ?_ ?_ | with_reducible refine af ?_ ?_ | with_reducible refine aj ?_ ?_ | with_reducible refine ai ?_ _ | (intro _) | with_reducible exact ah _ | exact ag | (dsimp only))
def gi (s : State) (path : List UInt8) (label : Int) : Option Vec :=
 (hJ s path label true).bind fun x =>
 some x
theorem pu (s : State) (path : List UInt8) (label : Int) : Lo (gi s path label) (eS s path label):=by
 unfold gi eS
 repeat' (first | with_reducible exact qb _ _ _ _ | with_reducible refine ad ?_ ?_ ?_ ?_ ?_ | with_reducible refine aa ?_ ?_ ?_ ?_ | with_reducible refine ab ?_ ?_ ?_ | with_reducible refine af ?_ ?_ | with_reducible refine aj ?_ ?_ | with_reducible refine ai ?_ _ | (intro _) | with_reducible exact ah _ | exact ag | (dsimp only))
def ck (at_ : Int) (n : Int) : Option Int :=
 (nz n).bind fun _ =>
 (
 bif decide ((Int.tmod at_ n) < 0) then
  let k:=w64 ((Int.tmod at_ n) + n)
  some k
 else
  some (Int.tmod at_ n)).bind fun k1 =>
 some k1
theorem n9 (at_ : Int) (n : Int) : Lo (ck at_ n) (aG at_ n):=by
 unfold ck aG
 repeat' (first | with_reducible refine ad ?_ ?_ ?_ ?_ ?_ | with_reducible refine aa ?_ ?_ ?_ ?_ | with_reducible refine ab ?_ ?_ ?_ | with_reducible refine af ?_ ?_ | with_reducible refine aj ?_ ?_ | with_reducible refine ai ?_ _ | (intro _) | with_reducible exact ah _ | exact ag | (dsimp only))
def ft (units : Int) (t : State × Int) : Option ((State × Int) ⊕ State) :=
 bif decide (t.2 < units) then
 (app 72 t.1.Conts [(⟨t.2,1,1,⟨1,1⟩,0,0,t.2 == 1,0⟩ : Cont)]).bind fun l1 =>
 some (.inl ((⟨⟨t.1.Conf.Labels,t.1.Conf.Queues⟩,t.1.Nodes,t.1.Apps,l1,t.1.Slots,t.1.Plans,t.1.Now,t.1.Epoch,t.1.Seq⟩ : State),w64 (t.2 + 1)))
 else
 some (.inr t.1)
theorem oh (units : Int) (t : State × Int) : Lo (ft units t) (gz units t):=by
 unfold ft gz
 repeat' (first | with_reducible refine ad ?_ ?_ ?_ ?_ ?_ | with_reducible refine aa ?_ ?_ ?_ ?_ | with_reducible refine ab ?_ ?_ ?_ | with_reducible refine af ?_ ?_ | with_reducible refine aj ?_ ?_ | with_reducible refine ai ?_ _ | (intro _) | with_reducible exact ah _ | exact ag | (dsimp only))
def hF (units : Int) (wants : Int) (least : Int) : Option State :=
 (et).bind fun x =>
 (app 48 x.Conf.Queues [(⟨([114,111,111,116,46,97] : List UInt8),[(⟨w64 (10000 - least),10000⟩ : Cap)],1000000⟩ : Queue),(⟨([114,111,111,116,46,98] : List UInt8),[(⟨least,10000⟩ : Cap)],1000000⟩ : Queue)]).bind fun l =>
 (
 bif decide (wants > 0) then
  (inb 1 [(⟨1,2,([114,111,111,116,46,97] : List UInt8),0,0,⟨1,1⟩,[],10,0,[],[],[],[]⟩ : App),(⟨2,2,([114,111,111,116,46,98] : List UInt8),0,0,⟨1,1⟩,[],10,0,[],[],[],[]⟩ : App)].length).bind fun i =>
  ([(⟨1,2,([114,111,111,116,46,97] : List UInt8),0,0,⟨1,1⟩,[],10,0,[],[],[],[]⟩ : App),(⟨2,2,([114,111,111,116,46,98] : List UInt8),0,0,⟨1,1⟩,[],10,0,[],[],[],[]⟩ : App)][i]?).bind fun x1 =>
  some (⟨⟨x.Conf.Labels,l⟩,[(⟨1,0,0,⟨units,units⟩,10,0,true⟩ : Node)],List.set [(⟨1,2,([114,111,111,116,46,97] : List UInt8),0,0,⟨1,1⟩,[],10,0,[],[],[],[]⟩ : App),(⟨2,2,([114,111,111,116,46,98] : List UInt8),0,0,⟨1,1⟩,[],10,0,[],[],[],[]⟩ : App)] i (⟨x1.Id,x1.State,x1.Queue,x1.User,x1.Prio,⟨x1.Master.Mem,x1.Master.Cores⟩,[(⟨1,0,⟨1,1⟩,wants,(-1),(-1),0⟩ : Ask)],x1.Seen,x1.Beat,x1.Grants,x1.Kills,x1.Told,x1.Lost⟩ : App),x.Conts,x.Slots,x.Plans,10,x.Epoch,x.Seq⟩ : State)
 else
  some (⟨⟨x.Conf.Labels,l⟩,[(⟨1,0,0,⟨units,units⟩,10,0,true⟩ : Node)],[(⟨1,2,([114,111,111,116,46,97] : List UInt8),0,0,⟨1,1⟩,[],10,0,[],[],[],[]⟩ : App),(⟨2,2,([114,111,111,116,46,98] : List UInt8),0,0,⟨1,1⟩,[],10,0,[],[],[],[]⟩ : App)],x.Conts,x.Slots,x.Plans,10,x.Epoch,x.Seq⟩ : State)).bind fun s =>
 (itr 4096 (ft units) (s,1)).bind fun s1 =>
 (app 72 s1.Conts [(⟨units,2,1,⟨1,1⟩,0,0,true,0⟩ : Cont)]).bind fun l2 =>
 some (⟨⟨s1.Conf.Labels,s1.Conf.Queues⟩,s1.Nodes,s1.Apps,l2,s1.Slots,s1.Plans,s1.Now,s1.Epoch,units⟩ : State)
theorem pV (units : Int) (wants : Int) (least : Int) : Lo (hF units wants least) (fG units wants least):=by
 unfold hF fG
 repeat' (first | with_reducible exact kz  | with_reducible exact oh _ _ | with_reducible refine ad ?_ ?_ ?_ ?_ ?_ | with_reducible refine aa ?_ ?_ ?_ ?_ | with_reducible refine ab ?_ ?_ ?_ | with_reducible refine af ?_ ?_ | with_reducible refine aj ?_ ?_ | with_reducible refine ai ?_ _ | (intro _) | with_reducible exact ah _ | exact ag | (dsimp only))
def au (units : Int) (wants : Int) (free : Int) : Option Bool :=
 (fO).bind fun x =>
 bif ! x then
 some false
 else
 (ck units 10).bind fun x1 =>
 (ck free 10).bind fun free1 =>
 (ck wants 10).bind fun wants1 =>
 (hF (w64 (6 + x1)) wants1 5000).bind fun x2 =>
 (app 64 [] x2.Nodes).bind fun l =>
 (app 64 l [(⟨2,0,0,⟨free1,free1⟩,10,0,true⟩ : Node)]).bind fun l1 =>
 (gi (⟨⟨x2.Conf.Labels,x2.Conf.Queues⟩,l1,x2.Apps,x2.Conts,x2.Slots,x2.Plans,x2.Now,x2.Epoch,x2.Seq⟩ : State) ([114,111,111,116,46,98] : List UInt8) 0).bind fun x3 =>
 (fZ (⟨⟨x2.Conf.Labels,x2.Conf.Queues⟩,l1,x2.Apps,x2.Conts,x2.Slots,x2.Plans,x2.Now,x2.Epoch,x2.Seq⟩ : State) 0).bind fun l2 =>
 some ((l2.length : Int) == (imax (w64 ((imin wants1 (w64 (x3.Mem - 1))) - free1)) 0))
theorem li (units : Int) (wants : Int) (free : Int) : Lo (au units wants free) (aC units wants free):=by
 unfold au aC
 repeat' (first | with_reducible exact pb  | with_reducible exact n9 _ _ | with_reducible exact pV _ _ _ | with_reducible exact pu _ _ _ | with_reducible exact kG _ _ | with_reducible refine ad ?_ ?_ ?_ ?_ ?_ | with_reducible refine aa ?_ ?_ ?_ ?_ | with_reducible refine ab ?_ ?_ ?_ | with_reducible refine af ?_ ?_ | with_reducible refine aj ?_ ?_ | with_reducible refine ai ?_ _ | (intro _) | with_reducible exact ah _ | exact ag | (dsimp only))
end Go.Fx.D
