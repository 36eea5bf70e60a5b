/-
  The same functions with a bound on the rounds of their loops; that they give what the others give (printed by a program). Conditions: none.
-/
import Derived.Test.YtkhnjoehenkmcaaGreatD
import Derived.Test.YtkhnjoehenkmcaaGreatFxD
namespace Go.Fx.D
open Go Go.Fx
set_option linter.unusedVariables false
set_option linter.unusedSimpArgs false
set_option maxRecDepth 100000
def dQ (k : Looker) (c : Cont) : Option Looker :=
 let e:=mget (fun x => c.Id == x.k) k.noticed (⟨c.Id,0⟩ : Ent4_IntInt)
 let e1:=mget (fun x2 => c.Id == x2.k) k.leaf (⟨c.Id,[]⟩ : Ent2_IntListUInt8)
 let e2:=mget (fun x3 => e1.v == x3.k) k.over (⟨e1.v,0⟩ : Ent0_ListUInt8Int)
 some (⟨⟨⟨k.s.Conf.Labels,k.s.Conf.Queues⟩,k.s.Nodes,k.s.Apps,k.s.Conts,k.s.Slots,k.s.Plans,k.s.Now,k.s.Epoch,k.s.Seq⟩,k.label,mput (fun x4 => e1.v == x4.k) k.over (⟨e1.v,w64 (e2.v - c.Size.Mem)⟩ : Ent0_ListUInt8Int),k.leaf,mput (fun x1 => c.Id == x1.k) k.noticed (⟨c.Id,w64 (e.v + 1)⟩ : Ent4_IntInt),w64 (k.gone + c.Size.Mem)⟩ : Looker)
theorem lj (k : Looker) (c : Cont) : Lo (dQ k c) (cY k c):=by
 unfold dQ cY
 repeat' (first | with_reducible refine ad ?_ ?_ ?_ ?_ ?_ | with_reducible refine ab ?_ ?_ ?_ ?_ | with_reducible refine aa ?_ ?_ ?_ | with_reducible refine ae ?_ ?_ | with_reducible refine ah ?_ ?_ | with_reducible refine ai ?_ _ | (intro _) | with_reducible exact ag _ | exact af | (dsimp only))
def ep (v : Vec) : Option Bool :=
 bif decide (v.Mem ≥ 0) then
 bif decide (v.Mem ≤ 1125899906842624) then
  bif decide (v.Cores ≥ 0) then
  some (decide (v.Cores ≤ 1125899906842624))
  else
  some false
 else
  some false
 else
 some false
theorem mK (v : Vec) : Lo (ep v) (eB v):=by
 unfold ep eB
 repeat' (first | with_reducible refine ad ?_ ?_ ?_ ?_ ?_ | with_reducible refine ab ?_ ?_ ?_ ?_ | with_reducible refine aa ?_ ?_ ?_ | with_reducible refine ae ?_ ?_ | with_reducible refine ah ?_ ?_ | with_reducible refine ai ?_ _ | (intro _) | with_reducible exact ag _ | exact af | (dsimp only))
def ph (v : Vec) : Option (Vec × Int) :=
 (ep v).bind fun x =>
 bif ! x then
 some ((⟨0,0⟩ : Vec),11)
 else
 some (v,0)
theorem vT (v : Vec) : Lo (ph v) (pu v):=by
 unfold ph pu
 repeat' (first | with_reducible exact mK _ | with_reducible refine ad ?_ ?_ ?_ ?_ ?_ | with_reducible refine ab ?_ ?_ ?_ ?_ | with_reducible refine aa ?_ ?_ ?_ | with_reducible refine ae ?_ ?_ | with_reducible refine ah ?_ ?_ | with_reducible refine ai ?_ _ | (intro _) | with_reducible exact ag _ | exact af | (dsimp only))
def nc (a : Vec) (b : Vec) : Option (Vec × Int) :=
 (
 (ep a).bind fun x =>
 bif ! x then
  some true
 else
  (ep b).bind fun x1 =>
  some (! x1)).bind fun q =>
 bif q then
 some ((⟨0,0⟩ : Vec),1)
 else
 (ph (⟨w64 (a.Mem + b.Mem),w64 (a.Cores + b.Cores)⟩ : Vec)).bind fun x2 =>
 some (x2.1,x2.2)
theorem tG (a : Vec) (b : Vec) : Lo (nc a b) (oK a b):=by
 unfold nc oK
 repeat' (first | with_reducible exact mK _ | with_reducible exact vT _ | with_reducible refine ad ?_ ?_ ?_ ?_ ?_ | with_reducible refine ab ?_ ?_ ?_ ?_ | with_reducible refine aa ?_ ?_ ?_ | with_reducible refine ae ?_ ?_ | with_reducible refine ah ?_ ?_ | with_reducible refine ai ?_ _ | (intro _) | with_reducible exact ag _ | exact af | (dsimp only))
def oT (l : List Vec) (t : Vec × Int) : Option ((Vec × Int) ⊕ Vec) :=
 bif decide (t.2 < (l.length : Int)) then
 (idx l t.2).bind fun x =>
 (nc t.1 x).bind fun x1 =>
 some (.inl (x1.1,w64 (t.2 + 1)))
 else
 some (.inr t.1)
theorem yp (l : List Vec) (t : Vec × Int) : Lo (oT l t) (sa l t):=by
 unfold oT sa
 repeat' (first | with_reducible exact tG _ _ | with_reducible refine ad ?_ ?_ ?_ ?_ ?_ | with_reducible refine ab ?_ ?_ ?_ ?_ | with_reducible refine aa ?_ ?_ ?_ | with_reducible refine ae ?_ ?_ | with_reducible refine ah ?_ ?_ | with_reducible refine ai ?_ _ | (intro _) | with_reducible exact ag _ | exact af | (dsimp only))
def tc (l : List Vec) : Option Vec :=
 (itr 4096 (oT l) ((⟨0,0⟩ : Vec),0)).bind fun out =>
 some out
theorem BM (l : List Vec) : Lo (tc l) (sZ l):=by
 unfold tc sZ
 repeat' (first | with_reducible exact yp _ _ | with_reducible refine ad ?_ ?_ ?_ ?_ ?_ | with_reducible refine ab ?_ ?_ ?_ ?_ | with_reducible refine aa ?_ ?_ ?_ | with_reducible refine ae ?_ ?_ | with_reducible refine ah ?_ ?_ | with_reducible refine ai ?_ _ | (intro _) | with_reducible exact ag _ | exact af | (dsimp only))
def mL (s : State) (label : Int) (t : List Vec × Int) : Option ((List Vec × Int) ⊕ List Vec) :=
 bif decide (t.2 < (s.Nodes.length : Int)) then
 (
  (idx s.Nodes t.2).bind fun x =>
  (
  bif x.Up then
   some (x.Label == label)
  else
   some false).bind fun q =>
  bif q then
  (app 16 t.1 [x.Cap]).bind fun l =>
  some l
  else
  some t.1).bind fun l1 =>
 some (.inl (l1,w64 (t.2 + 1)))
 else
 some (.inr t.1)
theorem wY (s : State) (label : Int) (t : List Vec × Int) : Lo (mL s label t) (oZ s label t):=by
 unfold mL oZ
 repeat' (first | with_reducible refine ad ?_ ?_ ?_ ?_ ?_ | with_reducible refine ab ?_ ?_ ?_ ?_ | with_reducible refine aa ?_ ?_ ?_ | with_reducible refine ae ?_ ?_ | with_reducible refine ah ?_ ?_ | with_reducible refine ai ?_ _ | (intro _) | with_reducible exact ag _ | exact af | (dsimp only))
def ka (s : State) (label : Int) : Option Vec :=
 (itr 4096 (mL s label) ([],0)).bind fun l2 =>
 (tc l2).bind fun x1 =>
 some x1
theorem oH (s : State) (label : Int) : Lo (ka s label) (kn s label):=by
 unfold ka kn
 repeat' (first | with_reducible exact wY _ _ _ | with_reducible exact BM _ | with_reducible refine ad ?_ ?_ ?_ ?_ ?_ | with_reducible refine ab ?_ ?_ ?_ ?_ | with_reducible refine aa ?_ ?_ ?_ | with_reducible refine ae ?_ ?_ | with_reducible refine ah ?_ ?_ | with_reducible refine ai ?_ _ | (intro _) | with_reducible exact ag _ | exact af | (dsimp only))
def jr (v : View) (c : Cont) (t : App × Int) : Option ((App × Int) ⊕ ((App × Bool) ⊕ App)) :=
 bif decide (t.2 < (v.s.Apps.length : Int)) then
 (idx v.s.Apps t.2).bind fun x =>
 bif x.Id == c.App then
  some (.inr (.inl (x,true)))
 else
  some (.inl (t.1,w64 (t.2 + 1)))
 else
 some (.inr (.inr (t.1)))
theorem tM (v : View) (c : Cont) (t : App × Int) : Lo (jr v c t) (kw v c t):=by
 unfold jr kw
 repeat' (first | with_reducible refine ad ?_ ?_ ?_ ?_ ?_ | with_reducible refine ab ?_ ?_ ?_ ?_ | with_reducible refine aa ?_ ?_ ?_ | with_reducible refine ae ?_ ?_ | with_reducible refine ah ?_ ?_ | with_reducible refine ai ?_ _ | (intro _) | with_reducible exact ag _ | exact af | (dsimp only))
def kW (v : View) (c : Cont) : Option (App × Bool) :=
 (itr 4096 (jr v c) ((⟨0,0,[],0,0,⟨0,0⟩,[],0,0,[],[],[],[]⟩ : App),0)).bind fun q0 =>
 match q0 with
 | .inl q =>
 some (q.1,q.2)
 | .inr q1 =>
 some ((⟨0,0,[],0,0,⟨0,0⟩,[],0,0,[],[],[],[]⟩ : App),false)
theorem vu (v : View) (c : Cont) : Lo (kW v c) (jP v c):=by
 unfold kW jP
 repeat' (first | with_reducible exact tM _ _ _ | with_reducible refine ad ?_ ?_ ?_ ?_ ?_ | with_reducible refine ab ?_ ?_ ?_ ?_ | with_reducible refine aa ?_ ?_ ?_ | with_reducible refine ae ?_ ?_ | with_reducible refine ah ?_ ?_ | with_reducible refine ai ?_ _ | (intro _) | with_reducible exact ag _ | exact af | (dsimp only))
def gq (s : List UInt8) (prefix_ : List UInt8) : Option Bool :=
 bif decide ((s.length : Int) ≥ (prefix_.length : Int)) then
 (slc s 0 (prefix_.length : Int)).bind fun s1 =>
 some (s1 == prefix_)
 else
 some false
theorem rU (s : List UInt8) (prefix_ : List UInt8) : Lo (gq s prefix_) (en s prefix_):=by
 unfold gq en
 repeat' (first | with_reducible refine ad ?_ ?_ ?_ ?_ ?_ | with_reducible refine ab ?_ ?_ ?_ ?_ | with_reducible refine aa ?_ ?_ ?_ | with_reducible refine ae ?_ ?_ | with_reducible refine ah ?_ ?_ | with_reducible refine ai ?_ _ | (intro _) | with_reducible exact ag _ | exact af | (dsimp only))
def kx (s : List UInt8) (prefix_ : List UInt8) : Option Bool :=
 (gq s prefix_).bind fun x =>
 some x
theorem uA (s : List UInt8) (prefix_ : List UInt8) : Lo (kx s prefix_) (iF s prefix_):=by
 unfold kx iF
 repeat' (first | with_reducible exact rU _ _ | with_reducible refine ad ?_ ?_ ?_ ?_ ?_ | with_reducible refine ab ?_ ?_ ?_ ?_ | with_reducible refine aa ?_ ?_ ?_ | with_reducible refine ae ?_ ?_ | with_reducible refine ah ?_ ?_ | with_reducible refine ai ?_ _ | (intro _) | with_reducible exact ag _ | exact af | (dsimp only))
def j6 (v : View) (a : App) : Option Bool :=
 (
 bif a.Queue == v.path then
  some true
 else
  (cat v.path ([46] : List UInt8)).bind fun s =>
  (kx a.Queue s).bind fun x =>
  some x).bind fun below =>
 bif below then
 bif v.user == (-1) then
  some true
 else
  some (a.User == v.user)
 else
 some false
theorem qo (v : View) (a : App) : Lo (j6 v a) (iM v a):=by
 unfold j6 iM
 repeat' (first | with_reducible exact uA _ _ | with_reducible refine ad ?_ ?_ ?_ ?_ ?_ | with_reducible refine ab ?_ ?_ ?_ ?_ | with_reducible refine aa ?_ ?_ ?_ | with_reducible refine ae ?_ ?_ | with_reducible refine ah ?_ ?_ | with_reducible refine ai ?_ _ | (intro _) | with_reducible exact ag _ | exact af | (dsimp only))
def jZ (v : View) (t : Vec × Int) : Option ((Vec × Int) ⊕ Vec) :=
 bif decide (t.2 < (v.s.Conts.length : Int)) then
 (
  (idx v.s.Conts t.2).bind fun x =>
  (kW v x).bind fun x1 =>
  (
  bif x1.2 then
   bif x.Label == v.label then
   (j6 v x1.1).bind fun x2 =>
   some x2
   else
   some false
  else
   some false).bind fun q =>
  bif q then
  (nc t.1 x.Size).bind fun x3 =>
  some x3.1
  else
  some t.1).bind fun out =>
 some (.inl (out,w64 (t.2 + 1)))
 else
 some (.inr t.1)
theorem tR (v : View) (t : Vec × Int) : Lo (jZ v t) (kS v t):=by
 unfold jZ kS
 repeat' (first | with_reducible exact vu _ _ | with_reducible exact qo _ _ | with_reducible exact tG _ _ | with_reducible refine ad ?_ ?_ ?_ ?_ ?_ | with_reducible refine ab ?_ ?_ ?_ ?_ | with_reducible refine aa ?_ ?_ ?_ | with_reducible refine ae ?_ ?_ | with_reducible refine ah ?_ ?_ | with_reducible refine ai ?_ _ | (intro _) | with_reducible exact ag _ | exact af | (dsimp only))
def lP (v : View) : Option Vec :=
 (itr 4096 (jZ v) ((⟨0,0⟩ : Vec),0)).bind fun out1 =>
 some out1
theorem vA (v : View) : Lo (lP v) (kK v):=by
 unfold lP kK
 repeat' (first | with_reducible exact tR _ _ | with_reducible refine ad ?_ ?_ ?_ ?_ ?_ | with_reducible refine ab ?_ ?_ ?_ ?_ | with_reducible refine aa ?_ ?_ ?_ | with_reducible refine ae ?_ ?_ | with_reducible refine ah ?_ ?_ | with_reducible refine ai ?_ _ | (intro _) | with_reducible exact ag _ | exact af | (dsimp only))
def fy (s : State) (path : List UInt8) (label : Int) : Option Vec :=
 (lP (⟨⟨⟨s.Conf.Labels,s.Conf.Queues⟩,s.Nodes,s.Apps,s.Conts,s.Slots,s.Plans,s.Now,s.Epoch,s.Seq⟩,path,label,(-1)⟩ : View)).bind fun x =>
 some x
theorem kh (s : State) (path : List UInt8) (label : Int) : Lo (fy s path label) (gS s path label):=by
 unfold fy gS
 repeat' (first | with_reducible exact vA _ | with_reducible refine ad ?_ ?_ ?_ ?_ ?_ | with_reducible refine ab ?_ ?_ ?_ ?_ | with_reducible refine aa ?_ ?_ ?_ | with_reducible refine ae ?_ ?_ | with_reducible refine ah ?_ ?_ | with_reducible refine ai ?_ _ | (intro _) | with_reducible exact ag _ | exact af | (dsimp only))
def cV (s : List UInt8) (c : Int) (i1 : Int) : Option (Int ⊕ (Int ⊕ Unit)) :=
 bif decide (i1 ≥ 0) then
 (idx s i1).bind fun ch =>
 bif (ch.toNat : Int) == c then
  some (.inr (.inl i1))
 else
  some (.inl (w64 (i1 - 1)))
 else
 some (.inr (.inr ()))
theorem mb (s : List UInt8) (c : Int) (i1 : Int) : Lo (cV s c i1) (dm s c i1):=by
 unfold cV dm
 repeat' (first | with_reducible refine ad ?_ ?_ ?_ ?_ ?_ | with_reducible refine ab ?_ ?_ ?_ ?_ | with_reducible refine aa ?_ ?_ ?_ | with_reducible refine ae ?_ ?_ | with_reducible refine ah ?_ ?_ | with_reducible refine ai ?_ _ | (intro _) | with_reducible exact ag _ | exact af | (dsimp only))
def dL (s : List UInt8) (c : Int) : Option Int :=
 let i:=w64 ((s.length : Int) - 1)
 (itr 4096 (cV s c) i).bind fun q0 =>
 match q0 with
 | .inl q =>
 some q
 | .inr _ =>
 some (-1)
theorem nN (s : List UInt8) (c : Int) : Lo (dL s c) (cy s c):=by
 unfold dL cy
 repeat' (first | with_reducible exact mb _ _ _ | with_reducible refine ad ?_ ?_ ?_ ?_ ?_ | with_reducible refine ab ?_ ?_ ?_ ?_ | with_reducible refine aa ?_ ?_ ?_ | with_reducible refine ae ?_ ?_ | with_reducible refine ah ?_ ?_ | with_reducible refine ai ?_ _ | (intro _) | with_reducible exact ag _ | exact af | (dsimp only))
def dc (t1 : Int × Int × Int) : Option ((Int × Int × Int) ⊕ Int) :=
 bif decide (t1.2.2 > 0) then
 (
  bif (andK .i64 t1.2.2 1) != 0 then
  let pow:=IntKind.u32.wrap (t1.1 * t1.2.1)
  some pow
  else
  some t1.1).bind fun pow1 =>
 let sq:=IntKind.u32.wrap (t1.2.1 * t1.2.1)
 some (.inl (pow1,sq,shrK .i64 t1.2.2 1))
 else
 some (.inr t1.1)
theorem ms (t1 : Int × Int × Int) : Lo (dc t1) (dO t1):=by
 unfold dc dO
 repeat' (first | with_reducible refine ad ?_ ?_ ?_ ?_ ?_ | with_reducible refine ab ?_ ?_ ?_ ?_ | with_reducible refine aa ?_ ?_ ?_ | with_reducible refine ae ?_ ?_ | with_reducible refine ah ?_ ?_ | with_reducible refine ai ?_ _ | (intro _) | with_reducible exact ag _ | exact af | (dsimp only))
def dh (sep : List UInt8) (t : Int × Int) : Option ((Int × Int) ⊕ Int) :=
 bif decide (t.2 ≥ 0) then
 (idx sep t.2).bind fun ch =>
 let hash:=IntKind.u32.wrap ((IntKind.u32.wrap (t.1 * 16777619)) + (IntKind.u32.wrap (ch.toNat : Int)))
 some (.inl (hash,w64 (t.2 - 1)))
 else
 some (.inr t.1)
theorem mA (sep : List UInt8) (t : Int × Int) : Lo (dh sep t) (dN sep t):=by
 unfold dh dN
 repeat' (first | with_reducible refine ad ?_ ?_ ?_ ?_ ?_ | with_reducible refine ab ?_ ?_ ?_ ?_ | with_reducible refine aa ?_ ?_ ?_ | with_reducible refine ae ?_ ?_ | with_reducible refine ah ?_ ?_ | with_reducible refine ai ?_ _ | (intro _) | with_reducible exact ag _ | exact af | (dsimp only))
def dZ (sep : List UInt8) : Option (Int × Int) :=
 let i:=w64 ((sep.length : Int) - 1)
 (itr 4096 (dh sep) (0,i)).bind fun hash1 =>
 (itr 4096 dc (1,16777619,(sep.length : Int))).bind fun pow2 =>
 some (hash1,pow2)
theorem om (sep : List UInt8) : Lo (dZ sep) (cM sep):=by
 unfold dZ cM
 repeat' (first | with_reducible exact mA _ _ | with_reducible exact ms _ | with_reducible refine ad ?_ ?_ ?_ ?_ ?_ | with_reducible refine ab ?_ ?_ ?_ ?_ | with_reducible refine aa ?_ ?_ ?_ | with_reducible refine ae ?_ ?_ | with_reducible refine ah ?_ ?_ | with_reducible refine ai ?_ _ | (intro _) | with_reducible exact ag _ | exact af | (dsimp only))
def bA (s : List UInt8) (sep : List UInt8) (x : Int × Int) (t1 : Int × Int) : Option ((Int × Int) ⊕ (Int ⊕ Unit)) :=
 bif decide (t1.2 ≥ 0) then
 (idx s t1.2).bind fun ch1 =>
 let h2:=IntKind.u32.wrap ((IntKind.u32.wrap (t1.1 * 16777619)) + (IntKind.u32.wrap (ch1.toNat : Int)))
 (idx s (w64 (t1.2 + (sep.length : Int)))).bind fun ch2 =>
 let h3:=IntKind.u32.wrap (h2 - (IntKind.u32.wrap (x.2 * (IntKind.u32.wrap (ch2.toNat : Int)))))
 (
  bif h3 == x.1 then
  (slc s t1.2 (w64 (t1.2 + (sep.length : Int)))).bind fun s2 =>
  some (s2 == sep)
  else
  some false).bind fun q1 =>
 bif q1 then
  some (.inr (.inl (t1.2)))
 else
  some (.inl (h3,w64 (t1.2 - 1)))
 else
 some (.inr (.inr ()))
theorem jW (s : List UInt8) (sep : List UInt8) (x : Int × Int) (t1 : Int × Int) : Lo (bA s sep x t1) (bS s sep x t1):=by
 unfold bA bS
 repeat' (first | with_reducible refine ad ?_ ?_ ?_ ?_ ?_ | with_reducible refine ab ?_ ?_ ?_ ?_ | with_reducible refine aa ?_ ?_ ?_ | with_reducible refine ae ?_ ?_ | with_reducible refine ah ?_ ?_ | with_reducible refine ai ?_ _ | (intro _) | with_reducible exact ag _ | exact af | (dsimp only))
def bz (s : List UInt8) (last : Int) (t : Int × Int) : Option ((Int × Int) ⊕ Int) :=
 bif decide (t.2 ≥ last) then
 (idx s t.2).bind fun ch =>
 let h:=IntKind.u32.wrap ((IntKind.u32.wrap (t.1 * 16777619)) + (IntKind.u32.wrap (ch.toNat : Int)))
 some (.inl (h,w64 (t.2 - 1)))
 else
 some (.inr t.1)
theorem jy (s : List UInt8) (last : Int) (t : Int × Int) : Lo (bz s last t) (bU s last t):=by
 unfold bz bU
 repeat' (first | with_reducible refine ad ?_ ?_ ?_ ?_ ?_ | with_reducible refine ab ?_ ?_ ?_ ?_ | with_reducible refine aa ?_ ?_ ?_ | with_reducible refine ae ?_ ?_ | with_reducible refine ah ?_ ?_ | with_reducible refine ai ?_ _ | (intro _) | with_reducible exact ag _ | exact af | (dsimp only))
def bZ (s : List UInt8) (sep : List UInt8) : Option Int :=
 (dZ sep).bind fun x =>
 let last:=w64 ((s.length : Int) - (sep.length : Int))
 let i:=w64 ((s.length : Int) - 1)
 (itr 4096 (bz s last) (0,i)).bind fun h1 =>
 (
 bif h1 == x.1 then
  (slc s last (s.length : Int)).bind fun s1 =>
  some (s1 == sep)
 else
  some false).bind fun q =>
 bif q then
 some last
 else
 (itr 4096 (bA s sep x) (h1,w64 (last - 1))).bind fun q0 =>
 match q0 with
 | .inl q2 =>
  some q2
 | .inr _ =>
  some (-1)
theorem kQ (s : List UInt8) (sep : List UInt8) : Lo (bZ s sep) (be s sep):=by
 unfold bZ be
 repeat' (first | with_reducible exact om _ | with_reducible exact jy _ _ _ | with_reducible exact jW _ _ _ _ | with_reducible refine ad ?_ ?_ ?_ ?_ ?_ | with_reducible refine ab ?_ ?_ ?_ ?_ | with_reducible refine aa ?_ ?_ ?_ | with_reducible refine ae ?_ ?_ | with_reducible refine ah ?_ ?_ | with_reducible refine ai ?_ _ | (intro _) | with_reducible exact ag _ | exact af | (dsimp only))
def kA (s : List UInt8) (substr : List UInt8) : Option Int :=
 bif (substr.length : Int) == 0 then
 some (s.length : Int)
 else
 bif (substr.length : Int) == 1 then
  (idx substr 0).bind fun ch =>
  (dL s (ch.toNat : Int)).bind fun x =>
  some x
 else
  bif (substr.length : Int) == (s.length : Int) then
  bif substr == s then
   some 0
  else
   some (-1)
  else
  bif decide ((substr.length : Int) > (s.length : Int)) then
   some (-1)
  else
   (bZ s substr).bind fun x1 =>
   some x1
theorem u7 (s : List UInt8) (substr : List UInt8) : Lo (kA s substr) (iL s substr):=by
 unfold kA iL
 repeat' (first | with_reducible exact nN _ _ | with_reducible exact kQ _ _ | with_reducible refine ad ?_ ?_ ?_ ?_ ?_ | with_reducible refine ab ?_ ?_ ?_ ?_ | with_reducible refine aa ?_ ?_ ?_ | with_reducible refine ae ?_ ?_ | with_reducible refine ah ?_ ?_ | with_reducible refine ai ?_ _ | (intro _) | with_reducible exact ag _ | exact af | (dsimp only))
def nK (path : List UInt8) : Option (List UInt8 × Bool) :=
 (kA path ([46] : List UInt8)).bind fun i =>
 bif decide (i < 0) then
 some (([] : List UInt8),false)
 else
 (slc path 0 i).bind fun s =>
 some (s,true)
theorem vf (path : List UInt8) : Lo (nK path) (nH path):=by
 unfold nK nH
 repeat' (first | with_reducible exact u7 _ _ | with_reducible refine ad ?_ ?_ ?_ ?_ ?_ | with_reducible refine ab ?_ ?_ ?_ ?_ | with_reducible refine aa ?_ ?_ ?_ | with_reducible refine ae ?_ ?_ | with_reducible refine ah ?_ ?_ | with_reducible refine ai ?_ _ | (intro _) | with_reducible exact ag _ | exact af | (dsimp only))
def rg (t : List UInt8 × List (List UInt8)) : Option ((List UInt8 × List (List UInt8)) ⊕ List (List UInt8)) :=
 bif ! (t.1 == ([] : List UInt8)) then
 (app 16 t.2 [t.1]).bind fun l =>
 (nK t.1).bind fun x =>
 some (.inl (x.1,l))
 else
 some (.inr t.2)
theorem Ao (t : List UInt8 × List (List UInt8)) : Lo (rg t) (uF t):=by
 unfold rg uF
 repeat' (first | with_reducible exact vf _ | with_reducible refine ad ?_ ?_ ?_ ?_ ?_ | with_reducible refine ab ?_ ?_ ?_ ?_ | with_reducible refine aa ?_ ?_ ?_ | with_reducible refine ae ?_ ?_ | with_reducible refine ah ?_ ?_ | with_reducible refine ai ?_ _ | (intro _) | with_reducible exact ag _ | exact af | (dsimp only))
def wg (path : List UInt8) : Option (List (List UInt8)) :=
 (itr 4096 rg (path,[])).bind fun out =>
 some out
theorem C3 (path : List UInt8) : Lo (wg path) (wT path):=by
 unfold wg wT
 repeat' (first | with_reducible exact Ao _ | with_reducible refine ad ?_ ?_ ?_ ?_ ?_ | with_reducible refine ab ?_ ?_ ?_ ?_ | with_reducible refine aa ?_ ?_ ?_ | with_reducible refine ae ?_ ?_ | with_reducible refine ah ?_ ?_ | with_reducible refine ai ?_ _ | (intro _) | with_reducible exact ag _ | exact af | (dsimp only))
def qL (s : List Cap) : Option (List Cap):=app 16 [] s
theorem xm (s : List Cap) : Lo (qL s) (re s):=by
 unfold qL re
 repeat' (first | with_reducible refine ad ?_ ?_ ?_ ?_ ?_ | with_reducible refine ab ?_ ?_ ?_ ?_ | with_reducible refine aa ?_ ?_ ?_ | with_reducible refine ae ?_ ?_ | with_reducible refine ah ?_ ?_ | with_reducible refine ai ?_ _ | (intro _) | with_reducible exact ag _ | exact af | (dsimp only))
def nO (s : List Queue) (f : (TupT fam [.st 2] → Option Bool)) (t : Int) : Option (Int ⊕ (Int ⊕ Unit)) :=
 bif decide (t < (s.length : Int)) then
 (idx s t).bind fun x =>
 (f (x,())).bind fun r =>
 bif r then
  some (.inr (.inl t))
 else
  some (.inl (w64 (t + 1)))
 else
 some (.inr (.inr ()))
theorem xD (s : List Queue) (f f_' : (TupT fam [.st 2] → Option Bool)) (h_f : ∀ a,Lo (f a) (f_' a)) (t : Int) : Lo (nO s f t) (pT s f_' t):=by
 unfold nO pT
 repeat' (first | exact h_f _ | with_reducible refine ad ?_ ?_ ?_ ?_ ?_ | with_reducible refine ab ?_ ?_ ?_ ?_ | with_reducible refine aa ?_ ?_ ?_ | with_reducible refine ae ?_ ?_ | with_reducible refine ah ?_ ?_ | with_reducible refine ai ?_ _ | (intro _) | with_reducible exact ag _ | exact af | (dsimp only))
def rv (s : List Queue) (f : (TupT fam [.st 2] → Option Bool)) : Option Int :=
 (itr 4096 (nO s f) 0).bind fun q0 =>
 match q0 with
 | .inl q =>
 some q
 | .inr _ =>
 some (-1)
theorem An (s : List Queue) (f f_' : (TupT fam [.st 2] → Option Bool)) (h_f : ∀ a,Lo (f a) (f_' a)) : Lo (rv s f) (qR s f_'):=by
 unfold rv qR
 repeat' (first | with_reducible refine xD _ _ _ ?_ _ | exact h_f _ | with_reducible refine ad ?_ ?_ ?_ ?_ ?_ | with_reducible refine ab ?_ ?_ ?_ ?_ | with_reducible refine aa ?_ ?_ ?_ | with_reducible refine ae ?_ ?_ | with_reducible refine ah ?_ ?_ | with_reducible refine ai ?_ _ | (intro _) | with_reducible exact ag _ | exact af | (dsimp only))
def pS (q : Queue) (p : List UInt8) : Option Bool :=
 some (q.Path == p)
theorem yY (q : Queue) (p : List UInt8) : Lo (pS q p) (pc q p):=by
 unfold pS pc
 repeat' (first | with_reducible refine ad ?_ ?_ ?_ ?_ ?_ | with_reducible refine ab ?_ ?_ ?_ ?_ | with_reducible refine aa ?_ ?_ ?_ | with_reducible refine ae ?_ ?_ | with_reducible refine ah ?_ ?_ | with_reducible refine ai ?_ _ | (intro _) | with_reducible exact ag _ | exact af | (dsimp only))
def pk (c : Conf) (path : List UInt8) : Option (Queue × Bool) :=
 (rv c.Queues (fun a' => pS a'.1 path)).bind fun i =>
 bif decide (i < 0) then
 some ((⟨[],[],0⟩ : Queue),false)
 else
 (idx c.Queues i).bind fun x =>
 (qL x.Caps).bind fun x1 =>
 some ((⟨x.Path,x1,x.User⟩ : Queue),true)
theorem vP (c : Conf) (path : List UInt8) : Lo (pk c path) (pG c path):=by
 unfold pk pG
 repeat' (first | with_reducible refine An _ _ _ ?_ | with_reducible exact yY _ _ | with_reducible exact xm _ | with_reducible refine ad ?_ ?_ ?_ ?_ ?_ | with_reducible refine ab ?_ ?_ ?_ ?_ | with_reducible refine aa ?_ ?_ ?_ | with_reducible refine ae ?_ ?_ | with_reducible refine ah ?_ ?_ | with_reducible refine ai ?_ _ | (intro _) | with_reducible exact ag _ | exact af | (dsimp only))
def rt (x : Int) (y : Int) : Option (Int × Int) :=
 let w0:=IntKind.u64.wrap ((andK .u64 x 4294967295) * (andK .u64 y 4294967295))
 let t:=IntKind.u64.wrap ((IntKind.u64.wrap ((shrK .u64 x 32) * (andK .u64 y 4294967295))) + (shrK .u64 w0 32))
 let w1:=IntKind.u64.wrap ((andK .u64 t 4294967295) + (IntKind.u64.wrap ((andK .u64 x 4294967295) * (shrK .u64 y 32))))
 let hi:=IntKind.u64.wrap ((IntKind.u64.wrap ((IntKind.u64.wrap ((shrK .u64 x 32) * (shrK .u64 y 32))) + (shrK .u64 t 32))) + (shrK .u64 w1 32))
 some (hi,IntKind.u64.wrap (x * y))
theorem As (x : Int) (y : Int) : Lo (rt x y) (qB x y):=by
 unfold rt qB
 repeat' (first | with_reducible refine ad ?_ ?_ ?_ ?_ ?_ | with_reducible refine ab ?_ ?_ ?_ ?_ | with_reducible refine aa ?_ ?_ ?_ | with_reducible refine ae ?_ ?_ | with_reducible refine ah ?_ ?_ | with_reducible refine ai ?_ _ | (intro _) | with_reducible exact ag _ | exact af | (dsimp only))
def nS (x : Int) : Option Int :=
 (
 bif decide (x ≥ 4294967296) then
  some (shrK .u64 x 32,32)
 else
  some (x,0)).bind fun q =>
 (
 bif decide (q.1 ≥ 65536) then
  some (shrK .u64 q.1 16,w64 (q.2 + 16))
 else
  some (q.1,q.2)).bind fun q1 =>
 (
 bif decide (q1.1 ≥ 256) then
  some (shrK .u64 q1.1 8,w64 (q1.2 + 8))
 else
  some (q1.1,q1.2)).bind fun q2 =>
 (idx ([0,1,2,2,3,3,3,3,4,4,4,4,4,4,4,4,5,5,5,5,5,5,5,5,5,5,5,5,5,5,5,5,6,6,6,6,6,6,6,6,6,6,6,6,6,6,6,6,6,6,6,6,6,6,6,6,6,6,6,6,6,6,6,6,7,7,7,7,7,7,7,7,7,7,7,7,7,7,7,7,7,7,7,7,7,7,7,7,7,7,7,7,7,7,7,7,7,7,7,7,7,7,7,7,7,7,7,7,7,7,7,7,7,7,7,7,7,7,7,7,7,7,7,7,7,7,7,7,8,8,8,8,8,8,8,8,8,8,8,8,8,8,8,8,8,8,8,8,8,8,8,8,8,8,8,8,8,8,8,8,8,8,8,8,8,8,8,8,8,8,8,8,8,8,8,8,8,8,8,8,8,8,8,8,8,8,8,8,8,8,8,8,8,8,8,8,8,8,8,8,8,8,8,8,8,8,8,8,8,8,8,8,8,8,8,8,8,8,8,8,8,8,8,8,8,8,8,8,8,8,8,8,8,8,8,8,8,8,8,8,8,8,8,8,8,8,8,8,8,8,8,8,8,8,8,8] : List UInt8) (IntKind.u8.wrap q2.1)).bind fun ch =>
 let n:=w64 (q2.2 + (w64 (ch.toNat : Int)))
 some n
theorem vd (x : Int) : Lo (nS x) (nL x):=by
 unfold nS nL
 repeat' (first | with_reducible refine ad ?_ ?_ ?_ ?_ ?_ | with_reducible refine ab ?_ ?_ ?_ ?_ | with_reducible refine aa ?_ ?_ ?_ | with_reducible refine ae ?_ ?_ | with_reducible refine ah ?_ ?_ | with_reducible refine ai ?_ _ | (intro _) | with_reducible exact ag _ | exact af | (dsimp only))
def jw (x : Int) : Option Int :=
 (nS x).bind fun x1 =>
 some (w64 (64 - x1))
theorem tL (x : Int) : Lo (jw x) (fU x):=by
 unfold jw fU
 repeat' (first | with_reducible exact vd _ | with_reducible refine ad ?_ ?_ ?_ ?_ ?_ | with_reducible refine ab ?_ ?_ ?_ ?_ | with_reducible refine aa ?_ ?_ ?_ | with_reducible refine ae ?_ ?_ | with_reducible refine ah ?_ ?_ | with_reducible refine ai ?_ _ | (intro _) | with_reducible exact ag _ | exact af | (dsimp only))
def nh (yn1 : Int) (yn0 : Int) (un0 : Int) (t1 : Int × Int) : Option ((Int × Int) ⊕ Int) :=
 (
 bif decide (t1.2 ≥ 4294967296) then
  some true
 else
  some (decide ((IntKind.u64.wrap (t1.2 * yn0)) > (IntKind.u64.wrap ((IntKind.u64.wrap (4294967296 * t1.1)) + un0))))).bind fun q2 =>
 bif q2 then
 bif decide ((IntKind.u64.wrap (t1.1 + yn1)) ≥ 4294967296) then
  some (.inr (IntKind.u64.wrap (t1.2 - 1)))
 else
  some (.inl (IntKind.u64.wrap (t1.1 + yn1),IntKind.u64.wrap (t1.2 - 1)))
 else
 some (.inr t1.2)
theorem xH (yn1 : Int) (yn0 : Int) (un0 : Int) (t1 : Int × Int) : Lo (nh yn1 yn0 un0 t1) (pY yn1 yn0 un0 t1):=by
 unfold nh pY
 repeat' (first | with_reducible refine ad ?_ ?_ ?_ ?_ ?_ | with_reducible refine ab ?_ ?_ ?_ ?_ | with_reducible refine aa ?_ ?_ ?_ | with_reducible refine ae ?_ ?_ | with_reducible refine ah ?_ ?_ | with_reducible refine ai ?_ _ | (intro _) | with_reducible exact ag _ | exact af | (dsimp only))
def ol (yn1 : Int) (yn0 : Int) (un1 : Int) (t : Int × Int) : Option ((Int × Int) ⊕ Int) :=
 (
 bif decide (t.1 ≥ 4294967296) then
  some true
 else
  some (decide ((IntKind.u64.wrap (t.1 * yn0)) > (IntKind.u64.wrap ((IntKind.u64.wrap (4294967296 * t.2)) + un1))))).bind fun q =>
 bif q then
 bif decide ((IntKind.u64.wrap (t.2 + yn1)) ≥ 4294967296) then
  some (.inr (IntKind.u64.wrap (t.1 - 1)))
 else
  some (.inl (IntKind.u64.wrap (t.1 - 1),IntKind.u64.wrap (t.2 + yn1)))
 else
 some (.inr t.1)
theorem xr (yn1 : Int) (yn0 : Int) (un1 : Int) (t : Int × Int) : Lo (ol yn1 yn0 un1 t) (qf yn1 yn0 un1 t):=by
 unfold ol qf
 repeat' (first | with_reducible refine ad ?_ ?_ ?_ ?_ ?_ | with_reducible refine ab ?_ ?_ ?_ ?_ | with_reducible refine aa ?_ ?_ ?_ | with_reducible refine ae ?_ ?_ | with_reducible refine ah ?_ ?_ | with_reducible refine ai ?_ _ | (intro _) | with_reducible exact ag _ | exact af | (dsimp only))
def rR (hi : Int) (lo : Int) (y : Int) : Option (Int × Int) :=
 bif y == 0 then
 none
 else
 bif decide (y ≤ hi) then
  none
 else
  bif hi == 0 then
  (nz y).bind fun _ =>
  (nz y).bind fun _ =>
  some (IntKind.u64.wrap (Int.tdiv lo y),Int.tmod lo y)
  else
  (jw y).bind fun x =>
  (nn (IntKind.u64.wrap x)).bind fun _ =>
  let yn1:=shrK .u64 (shlK .u64 y (IntKind.u64.wrap x)) 32
  let yn0:=andK .u64 (shlK .u64 y (IntKind.u64.wrap x)) 4294967295
  (nn (IntKind.u64.wrap x)).bind fun _ =>
  (nn (IntKind.u64.wrap (64 - (IntKind.u64.wrap x)))).bind fun _ =>
  let un32:=orK .u64 (shlK .u64 hi (IntKind.u64.wrap x)) (shrK .u64 lo (IntKind.u64.wrap (64 - (IntKind.u64.wrap x))))
  (nn (IntKind.u64.wrap x)).bind fun _ =>
  let un1:=shrK .u64 (shlK .u64 lo (IntKind.u64.wrap x)) 32
  let un0:=andK .u64 (shlK .u64 lo (IntKind.u64.wrap x)) 4294967295
  (nz yn1).bind fun _ =>
  let rhat:=IntKind.u64.wrap (un32 - (IntKind.u64.wrap ((IntKind.u64.wrap (Int.tdiv un32 yn1)) * yn1)))
  (itr 4096 (ol yn1 yn0 un1) (IntKind.u64.wrap (Int.tdiv un32 yn1),rhat)).bind fun q1 =>
  let un21:=IntKind.u64.wrap ((IntKind.u64.wrap ((IntKind.u64.wrap (un32 * 4294967296)) + un1)) - (IntKind.u64.wrap (q1 * (shlK .u64 y (IntKind.u64.wrap x)))))
  (nz yn1).bind fun _ =>
  let rhat1:=IntKind.u64.wrap (un21 - (IntKind.u64.wrap ((IntKind.u64.wrap (Int.tdiv un21 yn1)) * yn1)))
  (itr 4096 (nh yn1 yn0 un0) (rhat1,IntKind.u64.wrap (Int.tdiv un21 yn1))).bind fun q0 =>
  (nn (IntKind.u64.wrap x)).bind fun _ =>
  let quo:=IntKind.u64.wrap ((IntKind.u64.wrap (q1 * 4294967296)) + q0)
  let rem:=shrK .u64 (IntKind.u64.wrap ((IntKind.u64.wrap ((IntKind.u64.wrap (un21 * 4294967296)) + un0)) - (IntKind.u64.wrap (q0 * (shlK .u64 y (IntKind.u64.wrap x)))))) (IntKind.u64.wrap x)
  some (quo,rem)
theorem Al (hi : Int) (lo : Int) (y : Int) : Lo (rR hi lo y) (qV hi lo y):=by
 unfold rR qV
 repeat' (first | with_reducible exact tL _ | with_reducible exact xr _ _ _ _ | with_reducible exact xH _ _ _ _ | with_reducible refine ad ?_ ?_ ?_ ?_ ?_ | with_reducible refine ab ?_ ?_ ?_ ?_ | with_reducible refine aa ?_ ?_ ?_ | with_reducible refine ae ?_ ?_ | with_reducible refine ah ?_ ?_ | with_reducible refine ai ?_ _ | (intro _) | with_reducible exact ag _ | exact af | (dsimp only))
def pd (n : Int) (bp : Int) : Option Int :=
 (rt (IntKind.u64.wrap n) (IntKind.u64.wrap bp)).bind fun x =>
 (rR x.1 x.2 10000).bind fun x1 =>
 some (w64 x1.1)
theorem AD (n : Int) (bp : Int) : Lo (pd n bp) (pD n bp):=by
 unfold pd pD
 repeat' (first | with_reducible exact As _ _ | with_reducible exact Al _ _ _ | with_reducible refine ad ?_ ?_ ?_ ?_ ?_ | with_reducible refine ab ?_ ?_ ?_ ?_ | with_reducible refine aa ?_ ?_ ?_ | with_reducible refine ae ?_ ?_ | with_reducible refine ah ?_ ?_ | with_reducible refine ai ?_ _ | (intro _) | with_reducible exact ag _ | exact af | (dsimp only))
def sj (a : Vec) (bp : Int) : Option (Vec × Int) :=
 (
 (ep a).bind fun x =>
 bif ! x then
  some true
 else
  bif decide (bp < 0) then
  some true
  else
  some (decide (bp > 1000000))).bind fun q =>
 bif q then
 some ((⟨0,0⟩ : Vec),1)
 else
 (pd a.Mem bp).bind fun x1 =>
 (pd a.Cores bp).bind fun x2 =>
 (ph (⟨x1,x2⟩ : Vec)).bind fun x3 =>
 some (x3.1,x3.2)
theorem Ak (a : Vec) (bp : Int) : Lo (sj a bp) (qM a bp):=by
 unfold sj qM
 repeat' (first | with_reducible exact mK _ | with_reducible exact AD _ _ | with_reducible exact vT _ | with_reducible refine ad ?_ ?_ ?_ ?_ ?_ | with_reducible refine ab ?_ ?_ ?_ ?_ | with_reducible refine aa ?_ ?_ ?_ | with_reducible refine ae ?_ ?_ | with_reducible refine ah ?_ ?_ | with_reducible refine ai ?_ _ | (intro _) | with_reducible exact ag _ | exact af | (dsimp only))
def nD (s : State) (label : Int) (part : (TupT fam [.st 1] → Option Int)) (up : List (List UInt8)) (t : Vec × Vec × Int) : Option ((Vec × Vec × Int) ⊕ (Vec ⊕ (Vec × Vec))) :=
 bif decide (t.2.2 ≥ 0) then
 (inb t.2.2 up.length).bind fun i1 =>
 (up[i1]?).bind fun x2 =>
 (pk s.Conf x2).bind fun x3 =>
 (
  bif ! x3.2 then
  some true
  else
  bif decide (label < 0) then
   some true
  else
   some (decide (label ≥ (x3.1.Caps.length : Int)))).bind fun q =>
 bif q then
  some (.inr (.inl (⟨0,0⟩ : Vec)))
 else
  (inb label x3.1.Caps.length).bind fun i2 =>
  (x3.1.Caps[i2]?).bind fun x4 =>
  (part (x4,())).bind fun r =>
  (sj t.2.1 r).bind fun x5 =>
  some (.inl (t.1,x5.1,w64 (t.2.2 - 1)))
 else
 some (.inr (.inr (t.1,t.2.1)))
theorem xR (s : State) (label : Int) (part part_' : (TupT fam [.st 1] → Option Int)) (h_part : ∀ a,Lo (part a) (part_' a)) (up : List (List UInt8)) (t : Vec × Vec × Int) : Lo (nD s label part up t) (qb s label part_' up t):=by
 unfold nD qb
 repeat' (first | with_reducible exact vP _ _ | with_reducible exact Ak _ _ | exact h_part _ | with_reducible refine ad ?_ ?_ ?_ ?_ ?_ | with_reducible refine ab ?_ ?_ ?_ ?_ | with_reducible refine aa ?_ ?_ ?_ | with_reducible refine ae ?_ ?_ | with_reducible refine ah ?_ ?_ | with_reducible refine ai ?_ _ | (intro _) | with_reducible exact ag _ | exact af | (dsimp only))
def nQ (s : State) (path : List UInt8) (label : Int) (part : (TupT fam [.st 1] → Option Int)) : Option Vec :=
 (wg path).bind fun up =>
 (pk s.Conf path).bind fun x =>
 bif ! x.2 then
 some (⟨0,0⟩ : Vec)
 else
 (ka s label).bind fun x1 =>
 let i:=w64 ((up.length : Int) - 2)
 (itr 4096 (nD s label part up) ((⟨0,0⟩ : Vec),x1,i)).bind fun q0 =>
 match q0 with
 | .inl q1 =>
  some q1
 | .inr q2 =>
  some q2.2
theorem vb (s : State) (path : List UInt8) (label : Int) (part part_' : (TupT fam [.st 1] → Option Int)) (h_part : ∀ a,Lo (part a) (part_' a)) : Lo (nQ s path label part) (ng s path label part_'):=by
 unfold nQ ng
 repeat' (first | with_reducible exact C3 _ | with_reducible exact vP _ _ | with_reducible exact oH _ _ | with_reducible refine xR _ _ _ _ ?_ _ _ | exact h_part _ | with_reducible refine ad ?_ ?_ ?_ ?_ ?_ | with_reducible refine ab ?_ ?_ ?_ ?_ | with_reducible refine aa ?_ ?_ ?_ | with_reducible refine ae ?_ ?_ | with_reducible refine ah ?_ ?_ | with_reducible refine ai ?_ _ | (intro _) | with_reducible exact ag _ | exact af | (dsimp only))
def g_ (c : Cap) : Option Int :=
 some c.Least
theorem sJ (c : Cap) : Lo (g_ c) (eQ c):=by
 unfold g_ eQ
 repeat' (first | with_reducible refine ad ?_ ?_ ?_ ?_ ?_ | with_reducible refine ab ?_ ?_ ?_ ?_ | with_reducible refine aa ?_ ?_ ?_ | with_reducible refine ae ?_ ?_ | with_reducible refine ah ?_ ?_ | with_reducible refine ai ?_ _ | (intro _) | with_reducible exact ag _ | exact af | (dsimp only))
def mi (s : State) (path : List UInt8) (label : Int) : Option Vec :=
 (nQ s path label (fun a' => g_ a'.1)).bind fun x =>
 some x
theorem uc (s : State) (path : List UInt8) (label : Int) : Lo (mi s path label) (md s path label):=by
 unfold mi md
 repeat' (first | with_reducible refine vb _ _ _ _ _ ?_ | with_reducible exact sJ _ | with_reducible refine ad ?_ ?_ ?_ ?_ ?_ | with_reducible refine ab ?_ ?_ ?_ ?_ | with_reducible refine aa ?_ ?_ ?_ | with_reducible refine ae ?_ ?_ | with_reducible refine ah ?_ ?_ | with_reducible refine ai ?_ _ | (intro _) | with_reducible exact ag _ | exact af | (dsimp only))
def o7 (a : App) : Option Bool :=
 bif a.State == 1 then
 some true
 else
 some (a.State == 2)
theorem v7 (a : App) : Lo (o7 a) (pE a):=by
 unfold o7 pE
 repeat' (first | with_reducible refine ad ?_ ?_ ?_ ?_ ?_ | with_reducible refine ab ?_ ?_ ?_ ?_ | with_reducible refine aa ?_ ?_ ?_ | with_reducible refine ae ?_ ?_ | with_reducible refine ah ?_ ?_ | with_reducible refine ai ?_ _ | (intro _) | with_reducible exact ag _ | exact af | (dsimp only))
def cR (s : List Int) (f : (TupT fam [.int .i64] → Option Bool)) (t : Int) : Option (Int ⊕ (Int ⊕ Unit)) :=
 bif decide (t < (s.length : Int)) then
 (idx s t).bind fun x =>
 (f (x,())).bind fun r =>
 bif r then
  some (.inr (.inl t))
 else
  some (.inl (w64 (t + 1)))
 else
 some (.inr (.inr ()))
theorem l9 (s : List Int) (f f_' : (TupT fam [.int .i64] → Option Bool)) (h_f : ∀ a,Lo (f a) (f_' a)) (t : Int) : Lo (cR s f t) (dl s f_' t):=by
 unfold cR dl
 repeat' (first | exact h_f _ | with_reducible refine ad ?_ ?_ ?_ ?_ ?_ | with_reducible refine ab ?_ ?_ ?_ ?_ | with_reducible refine aa ?_ ?_ ?_ | with_reducible refine ae ?_ ?_ | with_reducible refine ah ?_ ?_ | with_reducible refine ai ?_ _ | (intro _) | with_reducible exact ag _ | exact af | (dsimp only))
def dK (s : List Int) (f : (TupT fam [.int .i64] → Option Bool)) : Option Int :=
 (itr 4096 (cR s f) 0).bind fun q0 =>
 match q0 with
 | .inl q =>
 some q
 | .inr _ =>
 some (-1)
theorem nf (s : List Int) (f f_' : (TupT fam [.int .i64] → Option Bool)) (h_f : ∀ a,Lo (f a) (f_' a)) : Lo (dK s f) (cz s f_'):=by
 unfold dK cz
 repeat' (first | with_reducible refine l9 _ _ _ ?_ _ | exact h_f _ | with_reducible refine ad ?_ ?_ ?_ ?_ ?_ | with_reducible refine ab ?_ ?_ ?_ ?_ | with_reducible refine aa ?_ ?_ ?_ | with_reducible refine ae ?_ ?_ | with_reducible refine ah ?_ ?_ | with_reducible refine ai ?_ _ | (intro _) | with_reducible exact ag _ | exact af | (dsimp only))
def cP (s : List Int) (f : (TupT fam [.int .i64] → Option Bool)) : Option Bool :=
 (dK s f).bind fun x =>
 some (decide (x ≥ 0))
theorem mg (s : List Int) (f f_' : (TupT fam [.int .i64] → Option Bool)) (h_f : ∀ a,Lo (f a) (f_' a)) : Lo (cP s f) (bN s f_'):=by
 unfold cP bN
 repeat' (first | with_reducible refine nf _ _ _ ?_ | exact h_f _ | with_reducible refine ad ?_ ?_ ?_ ?_ ?_ | with_reducible refine ab ?_ ?_ ?_ ?_ | with_reducible refine aa ?_ ?_ ?_ | with_reducible refine ae ?_ ?_ | with_reducible refine ah ?_ ?_ | with_reducible refine ai ?_ _ | (intro _) | with_reducible exact ag _ | exact af | (dsimp only))
def sf (n : Int) (p : Int) (p1 : Int) : Option Bool :=
 bif decide (n < p) then
 some true
 else
 some (decide (n > p1))
theorem Ap (n : Int) (p : Int) (p1 : Int) : Lo (sf n p p1) (qW n p p1):=by
 unfold sf qW
 repeat' (first | with_reducible refine ad ?_ ?_ ?_ ?_ ?_ | with_reducible refine ab ?_ ?_ ?_ ?_ | with_reducible refine aa ?_ ?_ ?_ | with_reducible refine ae ?_ ?_ | with_reducible refine ah ?_ ?_ | with_reducible refine ai ?_ _ | (intro _) | with_reducible exact ag _ | exact af | (dsimp only))
def qx (least : Int) (most : Int) (l : List Int) : Option Bool :=
 (cP l (fun a' => sf a'.1 least most)).bind fun x =>
 some (! x)
theorem Cf (least : Int) (most : Int) (l : List Int) : Lo (qx least most l) (rZ least most l):=by
 unfold qx rZ
 repeat' (first | with_reducible refine mg _ _ _ ?_ | with_reducible exact Ap _ _ _ | with_reducible refine ad ?_ ?_ ?_ ?_ ?_ | with_reducible refine ab ?_ ?_ ?_ ?_ | with_reducible refine aa ?_ ?_ ?_ | with_reducible refine ae ?_ ?_ | with_reducible refine ah ?_ ?_ | with_reducible refine ai ?_ _ | (intro _) | with_reducible exact ag _ | exact af | (dsimp only))
def lN (l : List Ask) (label : Int) (t : Vec × Int) : Option ((Vec × Int) ⊕ Vec) :=
 bif decide (t.2 < (l.length : Int)) then
 (
  (idx l t.2).bind fun x =>
  (
  bif x.Label == label then
   (qx 0 1125899906842624 [x.Size.Mem,x.Size.Cores]).bind fun x1 =>
   bif x1 then
   (qx 0 50 [x.Count]).bind fun x2 =>
   some x2
   else
   some false
  else
   some false).bind fun q =>
  bif q then
  some (⟨w64 (t.1.Mem + (w64 (x.Size.Mem * x.Count))),w64 (t.1.Cores + (w64 (x.Size.Cores * x.Count)))⟩ : Vec)
  else
  some t.1).bind fun out =>
 some (.inl (out,w64 (t.2 + 1)))
 else
 some (.inr t.1)
theorem vG (l : List Ask) (label : Int) (t : Vec × Int) : Lo (lN l label t) (nX l label t):=by
 unfold lN nX
 repeat' (first | with_reducible exact Cf _ _ _ | with_reducible refine ad ?_ ?_ ?_ ?_ ?_ | with_reducible refine ab ?_ ?_ ?_ ?_ | with_reducible refine aa ?_ ?_ ?_ | with_reducible refine ae ?_ ?_ | with_reducible refine ah ?_ ?_ | with_reducible refine ai ?_ _ | (intro _) | with_reducible exact ag _ | exact af | (dsimp only))
def oE (l : List Ask) (label : Int) : Option Vec :=
 (itr 4096 (lN l label) ((⟨0,0⟩ : Vec),0)).bind fun out1 =>
 some out1
theorem yq (l : List Ask) (label : Int) : Lo (oE l label) (m6 l label):=by
 unfold oE m6
 repeat' (first | with_reducible exact vG _ _ _ | with_reducible refine ad ?_ ?_ ?_ ?_ ?_ | with_reducible refine ab ?_ ?_ ?_ ?_ | with_reducible refine aa ?_ ?_ ?_ | with_reducible refine ae ?_ ?_ | with_reducible refine ah ?_ ?_ | with_reducible refine ai ?_ _ | (intro _) | with_reducible exact ag _ | exact af | (dsimp only))
def go (v : View) (t : Vec × Int) : Option ((Vec × Int) ⊕ Vec) :=
 bif decide (t.2 < (v.s.Apps.length : Int)) then
 (
  (idx v.s.Apps t.2).bind fun x =>
  (
  (o7 x).bind fun x1 =>
  bif x1 then
   (j6 v x).bind fun x2 =>
   some x2
  else
   some false).bind fun q =>
  bif q then
  (oE x.Asks v.label).bind fun x3 =>
  (nc t.1 x3).bind fun x4 =>
  some x4.1
  else
  some t.1).bind fun out =>
 some (.inl (out,w64 (t.2 + 1)))
 else
 some (.inr t.1)
theorem rK (v : View) (t : Vec × Int) : Lo (go v t) (iW v t):=by
 unfold go iW
 repeat' (first | with_reducible exact v7 _ | with_reducible exact qo _ _ | with_reducible exact yq _ _ | with_reducible exact tG _ _ | with_reducible refine ad ?_ ?_ ?_ ?_ ?_ | with_reducible refine ab ?_ ?_ ?_ ?_ | with_reducible refine aa ?_ ?_ ?_ | with_reducible refine ae ?_ ?_ | with_reducible refine ah ?_ ?_ | with_reducible refine ai ?_ _ | (intro _) | with_reducible exact ag _ | exact af | (dsimp only))
def jN (v : View) : Option Vec :=
 (itr 4096 (go v) ((⟨0,0⟩ : Vec),0)).bind fun out1 =>
 some out1
theorem tQ (v : View) : Lo (jN v) (gX v):=by
 unfold jN gX
 repeat' (first | with_reducible exact rK _ _ | with_reducible refine ad ?_ ?_ ?_ ?_ ?_ | with_reducible refine ab ?_ ?_ ?_ ?_ | with_reducible refine aa ?_ ?_ ?_ | with_reducible refine ae ?_ ?_ | with_reducible refine ah ?_ ?_ | with_reducible refine ai ?_ _ | (intro _) | with_reducible exact ag _ | exact af | (dsimp only))
def kJ (s : State) (path : List UInt8) (label : Int) : Option Vec :=
 (jN (⟨⟨⟨s.Conf.Labels,s.Conf.Queues⟩,s.Nodes,s.Apps,s.Conts,s.Slots,s.Plans,s.Now,s.Epoch,s.Seq⟩,path,label,(-1)⟩ : View)).bind fun x =>
 some x
theorem ra (s : State) (path : List UInt8) (label : Int) : Lo (kJ s path label) (kg s path label):=by
 unfold kJ kg
 repeat' (first | with_reducible exact tQ _ | with_reducible refine ad ?_ ?_ ?_ ?_ ?_ | with_reducible refine ab ?_ ?_ ?_ ?_ | with_reducible refine aa ?_ ?_ ?_ | with_reducible refine ae ?_ ?_ | with_reducible refine ah ?_ ?_ | with_reducible refine ai ?_ _ | (intro _) | with_reducible exact ag _ | exact af | (dsimp only))
def oO (c : Conf) (path : List UInt8) (t : List (List UInt8) × Int) : Option ((List (List UInt8) × Int) ⊕ List (List UInt8)) :=
 bif decide (t.2 < (c.Queues.length : Int)) then
 (
  (idx c.Queues t.2).bind fun x =>
  (nK x.Path).bind fun x1 =>
  (
  bif x1.2 then
   some (x1.1 == path)
  else
   some false).bind fun q =>
  bif q then
  (app 16 t.1 [x.Path]).bind fun l =>
  some l
  else
  some t.1).bind fun out =>
 some (.inl (out,w64 (t.2 + 1)))
 else
 some (.inr t.1)
theorem yr (c : Conf) (path : List UInt8) (t : List (List UInt8) × Int) : Lo (oO c path t) (q_ c path t):=by
 unfold oO q_
 repeat' (first | with_reducible exact vf _ | with_reducible refine ad ?_ ?_ ?_ ?_ ?_ | with_reducible refine ab ?_ ?_ ?_ ?_ | with_reducible refine aa ?_ ?_ ?_ | with_reducible refine ae ?_ ?_ | with_reducible refine ah ?_ ?_ | with_reducible refine ai ?_ _ | (intro _) | with_reducible exact ag _ | exact af | (dsimp only))
def tn (c : Conf) (path : List UInt8) : Option (List (List UInt8)) :=
 (itr 4096 (oO c path) ([],0)).bind fun out1 =>
 some out1
theorem BP (c : Conf) (path : List UInt8) : Lo (tn c path) (sM c path):=by
 unfold tn sM
 repeat' (first | with_reducible exact yr _ _ _ | with_reducible refine ad ?_ ?_ ?_ ?_ ?_ | with_reducible refine ab ?_ ?_ ?_ ?_ | with_reducible refine aa ?_ ?_ ?_ | with_reducible refine ae ?_ ?_ | with_reducible refine ah ?_ ?_ | with_reducible refine ai ?_ _ | (intro _) | with_reducible exact ag _ | exact af | (dsimp only))
def iO (c : Cap) : Option Int :=
 some c.Most
theorem tE (c : Cap) : Lo (iO c) (fZ c):=by
 unfold iO fZ
 repeat' (first | with_reducible refine ad ?_ ?_ ?_ ?_ ?_ | with_reducible refine ab ?_ ?_ ?_ ?_ | with_reducible refine aa ?_ ?_ ?_ | with_reducible refine ae ?_ ?_ | with_reducible refine ah ?_ ?_ | with_reducible refine ai ?_ _ | (intro _) | with_reducible exact ag _ | exact af | (dsimp only))
def rV (s : State) (path : List UInt8) (label : Int) : Option Vec :=
 (nQ s path label (fun a' => iO a'.1)).bind fun x =>
 some x
theorem Aj (s : State) (path : List UInt8) (label : Int) : Lo (rV s path label) (qQ s path label):=by
 unfold rV qQ
 repeat' (first | with_reducible refine vb _ _ _ _ _ ?_ | with_reducible exact tE _ | with_reducible refine ad ?_ ?_ ?_ ?_ ?_ | with_reducible refine ab ?_ ?_ ?_ ?_ | with_reducible refine aa ?_ ?_ ?_ | with_reducible refine ae ?_ ?_ | with_reducible refine ah ?_ ?_ | with_reducible refine ai ?_ _ | (intro _) | with_reducible exact ag _ | exact af | (dsimp only))
def lE (l : List Int) (t : Int × Int) : Option ((Int × Int) ⊕ Int) :=
 bif decide (t.2 < (l.length : Int)) then
 (idx l t.2).bind fun x =>
 some (.inl (imin t.1 x,w64 (t.2 + 1)))
 else
 some (.inr t.1)
theorem vH (l : List Int) (t : Int × Int) : Lo (lE l t) (nC l t):=by
 unfold lE nC
 repeat' (first | with_reducible refine ad ?_ ?_ ?_ ?_ ?_ | with_reducible refine ab ?_ ?_ ?_ ?_ | with_reducible refine aa ?_ ?_ ?_ | with_reducible refine ae ?_ ?_ | with_reducible refine ah ?_ ?_ | with_reducible refine ai ?_ _ | (intro _) | with_reducible exact ag _ | exact af | (dsimp only))
def fk (first : Int) (l : List Int) : Option Int :=
 (itr 4096 (lE l) (first,0)).bind fun first1 =>
 some first1
theorem nZ (first : Int) (l : List Int) : Lo (fk first l) (fI first l):=by
 unfold fk fI
 repeat' (first | with_reducible exact vH _ _ | with_reducible refine ad ?_ ?_ ?_ ?_ ?_ | with_reducible refine ab ?_ ?_ ?_ ?_ | with_reducible refine aa ?_ ?_ ?_ | with_reducible refine ae ?_ ?_ | with_reducible refine ah ?_ ?_ | with_reducible refine ai ?_ _ | (intro _) | with_reducible exact ag _ | exact af | (dsimp only))
def d_ (n : Int) : Option Int :=
 (
 bif decide (n < 0) then
  some true
 else
  some (decide (n > 1125899906842624))).bind fun q =>
 bif q then
 some 0
 else
 some n
theorem qe (n : Int) : Lo (d_ n) (eZ n):=by
 unfold d_ eZ
 repeat' (first | with_reducible refine ad ?_ ?_ ?_ ?_ ?_ | with_reducible refine ab ?_ ?_ ?_ ?_ | with_reducible refine aa ?_ ?_ ?_ | with_reducible refine ae ?_ ?_ | with_reducible refine ah ?_ ?_ | with_reducible refine ai ?_ _ | (intro _) | with_reducible exact ag _ | exact af | (dsimp only))
def mG (want : List Int) (most : List Int) (n : Int) (t1 : List Int × Int × Int) : Option ((List Int × Int × Int) ⊕ List Int) :=
 bif decide (t1.2.2 < n) then
 (idx want t1.2.2).bind fun x9 =>
 (d_ x9).bind fun x10 =>
 (idx most t1.2.2).bind fun x11 =>
 (d_ x11).bind fun x12 =>
 (fk x10 [x12]).bind fun x13 =>
 (inb t1.2.2 t1.1.length).bind fun i2 =>
 (t1.1[i2]?).bind fun x14 =>
 (fk (imax (w64 (x13 - x14)) 0) [t1.2.1]).bind fun more =>
 (inb t1.2.2 t1.1.length).bind fun i3 =>
 (t1.1[i3]?).bind fun x15 =>
 (inb t1.2.2 t1.1.length).bind fun i4 =>
 (t1.1[i4]?).bind fun x16 =>
 some (.inl (List.set t1.1 i4 (w64 (x15 + more)),w64 (t1.2.1 - more),w64 (t1.2.2 + 1)))
 else
 some (.inr t1.1)
theorem wZ (want : List Int) (most : List Int) (n : Int) (t1 : List Int × Int × Int) : Lo (mG want most n t1) (oQ want most n t1):=by
 unfold mG oQ
 repeat' (first | with_reducible exact qe _ | with_reducible exact nZ _ _ | with_reducible refine ad ?_ ?_ ?_ ?_ ?_ | with_reducible refine ab ?_ ?_ ?_ ?_ | with_reducible refine aa ?_ ?_ ?_ | with_reducible refine ae ?_ ?_ | with_reducible refine ah ?_ ?_ | with_reducible refine ai ?_ _ | (intro _) | with_reducible exact ag _ | exact af | (dsimp only))
def mB (least : List Int) (want : List Int) (most : List Int) (n : Int) (t : List Int × Int × Int) : Option ((List Int × Int × Int) ⊕ ((List Int × Int))) :=
 bif decide (t.2.2 < n) then
 (idx least t.2.2).bind fun x =>
 (d_ x).bind fun x1 =>
 (idx want t.2.2).bind fun x2 =>
 (d_ x2).bind fun x3 =>
 (idx most t.2.2).bind fun x4 =>
 (d_ x4).bind fun x5 =>
 (fk x1 [x3,x5,t.2.1]).bind fun x6 =>
 (inb t.2.2 t.1.length).bind fun i =>
 (t.1[i]?).bind fun x7 =>
 (inb t.2.2 (List.set t.1 i x6).length).bind fun i1 =>
 ((List.set t.1 i x6)[i1]?).bind fun x8 =>
 some (.inl (List.set t.1 i x6,w64 (t.2.1 - x8),w64 (t.2.2 + 1)))
 else
 some (.inr (t.1,t.2.1))
theorem wX (least : List Int) (want : List Int) (most : List Int) (n : Int) (t : List Int × Int × Int) : Lo (mB least want most n t) (oN least want most n t):=by
 unfold mB oN
 repeat' (first | with_reducible exact qe _ | with_reducible exact nZ _ _ | with_reducible refine ad ?_ ?_ ?_ ?_ ?_ | with_reducible refine ab ?_ ?_ ?_ ?_ | with_reducible refine aa ?_ ?_ ?_ | with_reducible refine ae ?_ ?_ | with_reducible refine ah ?_ ?_ | with_reducible refine ai ?_ _ | (intro _) | with_reducible exact ag _ | exact af | (dsimp only))
def qd (total : Int) (least : List Int) (want : List Int) (most : List Int) : Option (List Int) :=
 (fk (least.length : Int) [(want.length : Int),(most.length : Int)]).bind fun n =>
 (mkl 8 n n 0).bind fun l =>
 (d_ total).bind fun left =>
 (itr 4096 (mB least want most n) (l,left,0)).bind fun q =>
 (itr 4096 (mG want most n) (q.1,q.2,0)).bind fun out =>
 some out
theorem zp (total : Int) (least : List Int) (want : List Int) (most : List Int) : Lo (qd total least want most) (pe total least want most):=by
 unfold qd pe
 repeat' (first | with_reducible exact nZ _ _ | with_reducible exact qe _ | with_reducible exact wX _ _ _ _ _ | with_reducible exact wZ _ _ _ _ | with_reducible refine ad ?_ ?_ ?_ ?_ ?_ | with_reducible refine ab ?_ ?_ ?_ ?_ | with_reducible refine aa ?_ ?_ ?_ | with_reducible refine ae ?_ ?_ | with_reducible refine ah ?_ ?_ | with_reducible refine ai ?_ _ | (intro _) | with_reducible exact ag _ | exact af | (dsimp only))
def lk (s : State) (label : Int) (deep : Int) (self : State → (List UInt8) → Int → Int → Int → Option (List Share)) (kids : List (List UInt8)) (x5 : List Int) (t1 : List Share × Int) : Option ((List Share × Int) ⊕ List Share) :=
 bif decide (t1.2 < (x5.length : Int)) then
 (inb t1.2 x5.length).bind fun i1 =>
 (x5[i1]?).bind fun x6 =>
 (inb t1.2 kids.length).bind fun i2 =>
 (kids[i2]?).bind fun x7 =>
 (self s x7 label x6 (w64 (deep + 1))).bind fun x8 =>
 (app 24 t1.1 x8).bind fun l3 =>
 some (.inl (l3,w64 (t1.2 + 1)))
 else
 some (.inr t1.1)
theorem vh (s : State) (label : Int) (deep : Int) (self self_' : State → (List UInt8) → Int → Int → Int → Option (List Share)) (h_self : ∀ (a0 : State) (a1 : (List UInt8)) (a2 : Int) (a3 : Int) (a4 : Int),Lo (self a0 a1 a2 a3 a4) (self_' a0 a1 a2 a3 a4)) (kids : List (List UInt8)) (x5 : List Int) (t1 : List Share × Int) : Lo (lk s label deep self kids x5 t1) (mI s label deep self_' kids x5 t1):=by
 unfold lk mI
 repeat' (first | with_reducible refine h_self _ _ _ _ _ | with_reducible refine ad ?_ ?_ ?_ ?_ ?_ | with_reducible refine ab ?_ ?_ ?_ ?_ | with_reducible refine aa ?_ ?_ ?_ | with_reducible refine ae ?_ ?_ | with_reducible refine ah ?_ ?_ | with_reducible refine ai ?_ _ | (intro _) | with_reducible exact ag _ | exact af | (dsimp only))
def kR (s : State) (label : Int) (kids : List (List UInt8)) (t : Rows3_ListInt × Int) : Option ((Rows3_ListInt × Int) ⊕ Rows3_ListInt) :=
 bif decide (t.2 < (kids.length : Int)) then
 (inb t.2 kids.length).bind fun i =>
 (kids[i]?).bind fun x =>
 (mi s x label).bind fun x1 =>
 (fy s x label).bind fun x2 =>
 (kJ s x label).bind fun x3 =>
 (rV s x label).bind fun x4 =>
 (inS t.2 (t.1.r0.length : Int) t.1.r0.length).bind fun p =>
 (inS 0 1 [x1.Mem,w64 (x2.Mem + x3.Mem),x4.Mem].length).bind fun p1 =>
 (inS t.2 (t.1.r1.length : Int) t.1.r1.length).bind fun p2 =>
 (inS 1 2 [x1.Mem,w64 (x2.Mem + x3.Mem),x4.Mem].length).bind fun p3 =>
 (inS t.2 (t.1.r2.length : Int) t.1.r2.length).bind fun p4 =>
 (inS 2 3 [x1.Mem,w64 (x2.Mem + x3.Mem),x4.Mem].length).bind fun p5 =>
 some (.inl ((⟨cpy t.1.r0 p.1 p.2 (sub [x1.Mem,w64 (x2.Mem + x3.Mem),x4.Mem] p1.1 p1.2),cpy t.1.r1 p2.1 p2.2 (sub [x1.Mem,w64 (x2.Mem + x3.Mem),x4.Mem] p3.1 p3.2),cpy t.1.r2 p4.1 p4.2 (sub [x1.Mem,w64 (x2.Mem + x3.Mem),x4.Mem] p5.1 p5.2)⟩ : Rows3_ListInt),w64 (t.2 + 1)))
 else
 some (.inr t.1)
theorem vp (s : State) (label : Int) (kids : List (List UInt8)) (t : Rows3_ListInt × Int) : Lo (kR s label kids t) (mC s label kids t):=by
 unfold kR mC
 repeat' (first | with_reducible exact uc _ _ _ | with_reducible exact kh _ _ _ | with_reducible exact ra _ _ _ | with_reducible exact Aj _ _ _ | with_reducible refine ad ?_ ?_ ?_ ?_ ?_ | with_reducible refine ab ?_ ?_ ?_ ?_ | with_reducible refine aa ?_ ?_ ?_ | with_reducible refine ae ?_ ?_ | with_reducible refine ah ?_ ?_ | with_reducible refine ai ?_ _ | (intro _) | with_reducible exact ag _ | exact af | (dsimp only))
def np (self : State → (List UInt8) → Int → Int → Int → Option (List Share)) (s : State) (path : List UInt8) (label : Int) (mem : Int) (deep : Int) : Option (List Share) :=
 (tn s.Conf path).bind fun kids =>
 (
 bif (kids.length : Int) == 0 then
  some true
 else
  some (decide (deep > 4))).bind fun q =>
 bif q then
 some [(⟨path,mem⟩ : Share)]
 else
 (mkl 8 (kids.length : Int) (kids.length : Int) 0).bind fun l =>
 (mkl 8 (kids.length : Int) (kids.length : Int) 0).bind fun l1 =>
 (mkl 8 (kids.length : Int) (kids.length : Int) 0).bind fun l2 =>
 (itr 4096 (kR s label kids) ((⟨l,l1,l2⟩ : Rows3_ListInt),0)).bind fun rows =>
 (qd mem rows.r0 rows.r1 rows.r2).bind fun x5 =>
 (itr 4096 (lk s label deep self kids x5) ([],0)).bind fun out =>
 some out
theorem xA (self self_' : State → (List UInt8) → Int → Int → Int → Option (List Share)) (h_self : ∀ (a0 : State) (a1 : (List UInt8)) (a2 : Int) (a3 : Int) (a4 : Int),Lo (self a0 a1 a2 a3 a4) (self_' a0 a1 a2 a3 a4)) (s : State) (path : List UInt8) (label : Int) (mem : Int) (deep : Int) : Lo (np self s path label mem deep) (qm self_' s path label mem deep):=by
 unfold np qm
 repeat' (first | with_reducible exact BP _ _ | with_reducible exact vp _ _ _ _ | with_reducible exact zp _ _ _ _ | with_reducible refine vh _ _ _ _ _ ?_ _ _ _ | with_reducible refine h_self _ _ _ _ _ | with_reducible refine ad ?_ ?_ ?_ ?_ ?_ | with_reducible refine ab ?_ ?_ ?_ ?_ | with_reducible refine aa ?_ ?_ ?_ | with_reducible refine ae ?_ ?_ | with_reducible refine ah ?_ ?_ | with_reducible refine ai ?_ _ | (intro _) | with_reducible exact ag _ | exact af | (dsimp only))
def kO : Nat → State → (List UInt8) → Int → Int → Int → Option (List Share)
 | 0 => fun _ _ _ _ _ => none
 | n + 1 => np (kO n)
theorem r8 : ∀ (n : Nat),∀ (a0 : State) (a1 : List UInt8) (a2 : Int) (a3 : Int) (a4 : Int),Lo (kO n a0 a1 a2 a3 a4) (kf n a0 a1 a2 a3 a4)
 | 0 => fun _ _ _ _ _ => af
 | n + 1 => fun a0 a1 a2 a3 a4 => xA (kO n) (kf n) (r8 n) a0 a1 a2 a3 a4
def qk (a0 : State) (a1 : List UInt8) (a2 : Int) (a3 : Int) (a4 : Int) : Option (List Share):=kO 64 a0 a1 a2 a3 a4
theorem zf (a0 : State) (a1 : List UInt8) (a2 : Int) (a3 : Int) (a4 : Int) : Lo (qk a0 a1 a2 a3 a4) (pm a0 a1 a2 a3 a4):=by
 unfold qk pm
 repeat' (first | with_reducible refine r8 _ _ _ _ _ _ | with_reducible refine ad ?_ ?_ ?_ ?_ ?_ | with_reducible refine ab ?_ ?_ ?_ ?_ | with_reducible refine aa ?_ ?_ ?_ | with_reducible refine ae ?_ ?_ | with_reducible refine ah ?_ ?_ | with_reducible refine ai ?_ _ | (intro _) | with_reducible exact ag _ | exact af | (dsimp only))
def js (s : State) (label : Int) : Option (List Share) :=
 (ka s label).bind fun x =>
 (qk s ([114,111,111,116] : List UInt8) label x.Mem 1).bind fun x1 =>
 some x1
theorem nq (s : State) (label : Int) : Lo (js s label) (i_ s label):=by
 unfold js i_
 repeat' (first | with_reducible exact oH _ _ | with_reducible exact zf _ _ _ _ _ | with_reducible refine ad ?_ ?_ ?_ ?_ ?_ | with_reducible refine ab ?_ ?_ ?_ ?_ | with_reducible refine aa ?_ ?_ ?_ | with_reducible refine ae ?_ ?_ | with_reducible refine ah ?_ ?_ | with_reducible refine ai ?_ _ | (intro _) | with_reducible exact ag _ | exact af | (dsimp only))
def ql (s : List App) (f : (TupT fam [.st 6] → Option Bool)) (t : Int) : Option (Int ⊕ (Int ⊕ Unit)) :=
 bif decide (t < (s.length : Int)) then
 (idx s t).bind fun x =>
 (f (x,())).bind fun r =>
 bif r then
  some (.inr (.inl t))
 else
  some (.inl (w64 (t + 1)))
 else
 some (.inr (.inr ()))
theorem y_ (s : List App) (f f_' : (TupT fam [.st 6] → Option Bool)) (h_f : ∀ a,Lo (f a) (f_' a)) (t : Int) : Lo (ql s f t) (tv s f_' t):=by
 unfold ql tv
 repeat' (first | exact h_f _ | with_reducible refine ad ?_ ?_ ?_ ?_ ?_ | with_reducible refine ab ?_ ?_ ?_ ?_ | with_reducible refine aa ?_ ?_ ?_ | with_reducible refine ae ?_ ?_ | with_reducible refine ah ?_ ?_ | with_reducible refine ai ?_ _ | (intro _) | with_reducible exact ag _ | exact af | (dsimp only))
def uW (s : List App) (f : (TupT fam [.st 6] → Option Bool)) : Option Int :=
 (itr 4096 (ql s f) 0).bind fun q0 =>
 match q0 with
 | .inl q =>
 some q
 | .inr _ =>
 some (-1)
theorem BU (s : List App) (f f_' : (TupT fam [.st 6] → Option Bool)) (h_f : ∀ a,Lo (f a) (f_' a)) : Lo (uW s f) (u_ s f_'):=by
 unfold uW u_
 repeat' (first | with_reducible refine y_ _ _ _ ?_ _ | exact h_f _ | with_reducible refine ad ?_ ?_ ?_ ?_ ?_ | with_reducible refine ab ?_ ?_ ?_ ?_ | with_reducible refine aa ?_ ?_ ?_ | with_reducible refine ae ?_ ?_ | with_reducible refine ah ?_ ?_ | with_reducible refine ai ?_ _ | (intro _) | with_reducible exact ag _ | exact af | (dsimp only))
def tB (a : App) (p : Int) : Option Bool :=
 some (a.Id == p)
theorem Br (a : App) (p : Int) : Lo (tB a p) (sQ a p):=by
 unfold tB sQ
 repeat' (first | with_reducible refine ad ?_ ?_ ?_ ?_ ?_ | with_reducible refine ab ?_ ?_ ?_ ?_ | with_reducible refine aa ?_ ?_ ?_ | with_reducible refine ae ?_ ?_ | with_reducible refine ah ?_ ?_ | with_reducible refine ai ?_ _ | (intro _) | with_reducible exact ag _ | exact af | (dsimp only))
def sO (s : State) (id_ : Int) : Option Int :=
 (uW s.Apps (fun a' => tB a'.1 id_)).bind fun x =>
 some x
theorem xZ (s : State) (id_ : Int) : Lo (sO s id_) (t_ s id_):=by
 unfold sO t_
 repeat' (first | with_reducible refine BU _ _ _ ?_ | with_reducible exact Br _ _ | with_reducible refine ad ?_ ?_ ?_ ?_ ?_ | with_reducible refine ab ?_ ?_ ?_ ?_ | with_reducible refine aa ?_ ?_ ?_ | with_reducible refine ae ?_ ?_ | with_reducible refine ah ?_ ?_ | with_reducible refine ai ?_ _ | (intro _) | with_reducible exact ag _ | exact af | (dsimp only))
def uI (s : List Ask) : Option (List Ask):=app 64 [] s
theorem Ch (s : List Ask) : Lo (uI s) (uU s):=by
 unfold uI uU
 repeat' (first | with_reducible refine ad ?_ ?_ ?_ ?_ ?_ | with_reducible refine ab ?_ ?_ ?_ ?_ | with_reducible refine aa ?_ ?_ ?_ | with_reducible refine ae ?_ ?_ | with_reducible refine ah ?_ ?_ | with_reducible refine ai ?_ _ | (intro _) | with_reducible exact ag _ | exact af | (dsimp only))
def kj (l : List Int) : Option (List Int) :=
 (mkl 8 (l.length : Int) (l.length : Int) 0).bind fun l1 =>
 some (cpy l1 0 l1.length l)
theorem A6 (l : List Int) : Lo (kj l) (kZ l):=by
 unfold kj kZ
 repeat' (first | with_reducible refine ad ?_ ?_ ?_ ?_ ?_ | with_reducible refine ab ?_ ?_ ?_ ?_ | with_reducible refine aa ?_ ?_ ?_ | with_reducible refine ae ?_ ?_ | with_reducible refine ah ?_ ?_ | with_reducible refine ai ?_ _ | (intro _) | with_reducible exact ag _ | exact af | (dsimp only))
def qA (a : App) : Option App :=
 (uI a.Asks).bind fun x =>
 (kj a.Grants).bind fun x1 =>
 (kj a.Kills).bind fun x2 =>
 (kj a.Told).bind fun x3 =>
 (kj a.Lost).bind fun x4 =>
 some (⟨a.Id,a.State,a.Queue,a.User,a.Prio,⟨a.Master.Mem,a.Master.Cores⟩,x,a.Seen,a.Beat,x1,x2,x3,x4⟩ : App)
theorem xc (a : App) : Lo (qA a) (sk a):=by
 unfold qA sk
 repeat' (first | with_reducible exact Ch _ | with_reducible exact A6 _ | with_reducible refine ad ?_ ?_ ?_ ?_ ?_ | with_reducible refine ab ?_ ?_ ?_ ?_ | with_reducible refine aa ?_ ?_ ?_ | with_reducible refine ae ?_ ?_ | with_reducible refine ah ?_ ?_ | with_reducible refine ai ?_ _ | (intro _) | with_reducible exact ag _ | exact af | (dsimp only))
def pg (s : State) (id_ : Int) : Option (App × Bool) :=
 (sO s id_).bind fun i =>
 bif decide (i < 0) then
 some ((⟨0,0,[],0,0,⟨0,0⟩,[],0,0,[],[],[],[]⟩ : App),false)
 else
 (idx s.Apps i).bind fun x =>
 (qA x).bind fun x1 =>
 some (x1,true)
theorem wl (s : State) (id_ : Int) : Lo (pg s id_) (pL s id_):=by
 unfold pg pL
 repeat' (first | with_reducible exact xZ _ _ | with_reducible exact xc _ | with_reducible refine ad ?_ ?_ ?_ ?_ ?_ | with_reducible refine ab ?_ ?_ ?_ ?_ | with_reducible refine aa ?_ ?_ ?_ | with_reducible refine ae ?_ ?_ | with_reducible refine ah ?_ ?_ | with_reducible refine ai ?_ _ | (intro _) | with_reducible exact ag _ | exact af | (dsimp only))
def lU (s : State) (label : Int) (t1 : Looker × Int) : Option ((Looker × Int) ⊕ Looker) :=
 bif decide (t1.2 < (s.Conts.length : Int)) then
 (
  (idx s.Conts t1.2).bind fun x4 =>
  bif x4.Label != label then
  some t1.1
  else
  (pg s x4.App).bind fun x5 =>
  bif x4.Notice != 0 then
   (dQ (⟨⟨⟨t1.1.s.Conf.Labels,t1.1.s.Conf.Queues⟩,t1.1.s.Nodes,t1.1.s.Apps,t1.1.s.Conts,t1.1.s.Slots,t1.1.s.Plans,t1.1.s.Now,t1.1.s.Epoch,t1.1.s.Seq⟩,t1.1.label,t1.1.over,mput (fun x6 => x4.Id == x6.k) t1.1.leaf (⟨x4.Id,x5.1.Queue⟩ : Ent2_IntListUInt8),t1.1.noticed,t1.1.gone⟩ : Looker) x4).bind fun x7 =>
   some x7
  else
   some (⟨⟨⟨t1.1.s.Conf.Labels,t1.1.s.Conf.Queues⟩,t1.1.s.Nodes,t1.1.s.Apps,t1.1.s.Conts,t1.1.s.Slots,t1.1.s.Plans,t1.1.s.Now,t1.1.s.Epoch,t1.1.s.Seq⟩,t1.1.label,t1.1.over,mput (fun x6 => x4.Id == x6.k) t1.1.leaf (⟨x4.Id,x5.1.Queue⟩ : Ent2_IntListUInt8),t1.1.noticed,t1.1.gone⟩ : Looker)).bind fun k1 =>
 some (.inl (k1,w64 (t1.2 + 1)))
 else
 some (.inr t1.1)
theorem wD (s : State) (label : Int) (t1 : Looker × Int) : Lo (lU s label t1) (n7 s label t1):=by
 unfold lU n7
 repeat' (first | with_reducible exact wl _ _ | with_reducible exact lj _ _ | with_reducible refine ad ?_ ?_ ?_ ?_ ?_ | with_reducible refine ab ?_ ?_ ?_ ?_ | with_reducible refine aa ?_ ?_ ?_ | with_reducible refine ae ?_ ?_ | with_reducible refine ah ?_ ?_ | with_reducible refine ai ?_ _ | (intro _) | with_reducible exact ag _ | exact af | (dsimp only))
def lM (s : State) (label : Int) (x : List Share) (t : Looker × Int) : Option ((Looker × Int) ⊕ Looker) :=
 bif decide (t.2 < (x.length : Int)) then
 (inb t.2 x.length).bind fun i =>
 (x[i]?).bind fun x1 =>
 (fy s x1.Path label).bind fun x2 =>
 some (.inl ((⟨⟨⟨t.1.s.Conf.Labels,t.1.s.Conf.Queues⟩,t.1.s.Nodes,t.1.s.Apps,t.1.s.Conts,t.1.s.Slots,t.1.s.Plans,t.1.s.Now,t.1.s.Epoch,t.1.s.Seq⟩,t.1.label,mput (fun x3 => x1.Path == x3.k) t.1.over (⟨x1.Path,w64 (x2.Mem - x1.Mem)⟩ : Ent0_ListUInt8Int),t.1.leaf,t.1.noticed,t.1.gone⟩ : Looker),w64 (t.2 + 1)))
 else
 some (.inr t.1)
theorem wq (s : State) (label : Int) (x : List Share) (t : Looker × Int) : Lo (lM s label x t) (m_ s label x t):=by
 unfold lM m_
 repeat' (first | with_reducible exact kh _ _ _ | with_reducible refine ad ?_ ?_ ?_ ?_ ?_ | with_reducible refine ab ?_ ?_ ?_ ?_ | with_reducible refine aa ?_ ?_ ?_ | with_reducible refine ae ?_ ?_ | with_reducible refine ah ?_ ?_ | with_reducible refine ai ?_ _ | (intro _) | with_reducible exact ag _ | exact af | (dsimp only))
def o6 (s : State) (label : Int) : Option Looker :=
 (js s label).bind fun x =>
 (itr 4096 (lM s label x) ((⟨⟨⟨s.Conf.Labels,s.Conf.Queues⟩,s.Nodes,s.Apps,s.Conts,s.Slots,s.Plans,s.Now,s.Epoch,s.Seq⟩,label,[],[],[],0⟩ : Looker),0)).bind fun k =>
 (itr 4096 (lU s label) (k,0)).bind fun k2 =>
 some k2
theorem yR (s : State) (label : Int) : Lo (o6 s label) (nt s label):=by
 unfold o6 nt
 repeat' (first | with_reducible exact nq _ _ | with_reducible exact wq _ _ _ _ | with_reducible exact wD _ _ _ | with_reducible refine ad ?_ ?_ ?_ ?_ ?_ | with_reducible refine ab ?_ ?_ ?_ ?_ | with_reducible refine aa ?_ ?_ ?_ | with_reducible refine ae ?_ ?_ | with_reducible refine ah ?_ ?_ | with_reducible refine ai ?_ _ | (intro _) | with_reducible exact ag _ | exact af | (dsimp only))
def eS (k : Looker) (path : List UInt8) (x : Vec) (x1 : Vec) (x2 : App) (t1 : Int) : Option (Int ⊕ (Int ⊕ Unit)) :=
 bif decide (t1 < (x2.Asks.length : Int)) then
 (idx x2.Asks t1).bind fun x4 =>
 (
  bif x4.Label == k.label then
  some (decide ((w64 (x.Mem + x4.Size.Mem)) ≤ x1.Mem))
  else
  some false).bind fun q1 =>
 bif q1 then
  (kJ k.s path k.label).bind fun x5 =>
  some (.inr (.inl (imin x5.Mem (w64 (x1.Mem - x.Mem)))))
 else
  some (.inl (w64 (t1 + 1)))
 else
 some (.inr (.inr ()))
theorem pV (k : Looker) (path : List UInt8) (x : Vec) (x1 : Vec) (x2 : App) (t1 : Int) : Lo (eS k path x x1 x2 t1) (ga k path x x1 x2 t1):=by
 unfold eS ga
 repeat' (first | with_reducible exact ra _ _ _ | with_reducible refine ad ?_ ?_ ?_ ?_ ?_ | with_reducible refine ab ?_ ?_ ?_ ?_ | with_reducible refine aa ?_ ?_ ?_ | with_reducible refine ae ?_ ?_ | with_reducible refine ah ?_ ?_ | with_reducible refine ai ?_ _ | (intro _) | with_reducible exact ag _ | exact af | (dsimp only))
def eU (k : Looker) (path : List UInt8) (x : Vec) (x1 : Vec) (t : Int) : Option (Int ⊕ (Int ⊕ Unit)) :=
 bif decide (t < (k.s.Apps.length : Int)) then
 (
  (idx k.s.Apps t).bind fun x2 =>
  (
  (o7 x2).bind fun x3 =>
  bif ! x3 then
   some true
  else
   some (! (x2.Queue == path))).bind fun q =>
  bif q then
  some (.inl ())
  else
  (itr 4096 (eS k path x x1 x2) 0).bind fun q0 =>
  match q0 with
  | .inl q2 =>
   some (.inr q2)
  | .inr _ =>
   some (.inl ()) : Option (Unit ⊕ Int)).bind fun q0 =>
 match q0 with
 | .inl _ =>
  some (.inl (w64 (t + 1)))
 | .inr q3 =>
  some (.inr (.inl q3))
 else
 some (.inr (.inr ()))
theorem pU (k : Looker) (path : List UInt8) (x : Vec) (x1 : Vec) (t : Int) : Lo (eU k path x x1 t) (gh k path x x1 t):=by
 unfold eU gh
 repeat' (first | with_reducible exact v7 _ | with_reducible exact pV _ _ _ _ _ _ | with_reducible refine ad ?_ ?_ ?_ ?_ ?_ | with_reducible refine ab ?_ ?_ ?_ ?_ | with_reducible refine aa ?_ ?_ ?_ | with_reducible refine ae ?_ ?_ | with_reducible refine ah ?_ ?_ | with_reducible refine ai ?_ _ | (intro _) | with_reducible exact ag _ | exact af | (dsimp only))
def iv (k : Looker) (path : List UInt8) : Option (Int × Looker) :=
 (fy k.s path k.label).bind fun x =>
 (mi k.s path k.label).bind fun x1 =>
 (itr 4096 (eU k path x x1) 0).bind fun q0 =>
 match q0 with
 | .inl q4 =>
 some (q4,k)
 | .inr _ =>
 some (0,k)
theorem ss (k : Looker) (path : List UInt8) : Lo (iv k path) (eR k path):=by
 unfold iv eR
 repeat' (first | with_reducible exact kh _ _ _ | with_reducible exact uc _ _ _ | with_reducible exact pU _ _ _ _ _ | with_reducible refine ad ?_ ?_ ?_ ?_ ?_ | with_reducible refine ab ?_ ?_ ?_ ?_ | with_reducible refine aa ?_ ?_ ?_ | with_reducible refine ae ?_ ?_ | with_reducible refine ah ?_ ?_ | with_reducible refine ai ?_ _ | (intro _) | with_reducible exact ag _ | exact af | (dsimp only))
def fx (x : List Share) (t : Looker × Int × Int) : Option ((Looker × Int × Int) ⊕ ((Looker × Int))) :=
 bif decide (t.2.2 < (x.length : Int)) then
 (inb t.2.2 x.length).bind fun i =>
 (x[i]?).bind fun x1 =>
 (iv t.1 x1.Path).bind fun x2 =>
 let sum:=w64 (t.2.1 + x2.1)
 some (.inl (x2.2,sum,w64 (t.2.2 + 1)))
 else
 some (.inr (t.1,t.2.1))
theorem qF (x : List Share) (t : Looker × Int × Int) : Lo (fx x t) (ij x t):=by
 unfold fx ij
 repeat' (first | with_reducible exact ss _ _ | with_reducible refine ad ?_ ?_ ?_ ?_ ?_ | with_reducible refine ab ?_ ?_ ?_ ?_ | with_reducible refine aa ?_ ?_ ?_ | with_reducible refine ae ?_ ?_ | with_reducible refine ah ?_ ?_ | with_reducible refine ai ?_ _ | (intro _) | with_reducible exact ag _ | exact af | (dsimp only))
def iY (k : Looker) : Option (Int × Looker) :=
 (js k.s k.label).bind fun x =>
 (itr 4096 (fx x) (k,0,0)).bind fun q =>
 (ka q.1.s q.1.label).bind fun x3 =>
 (fy q.1.s ([114,111,111,116] : List UInt8) q.1.label).bind fun x4 =>
 some (w64 (q.2 - (imax (w64 (x3.Mem - x4.Mem)) 0)),q.1)
theorem tH (k : Looker) : Lo (iY k) (fT k):=by
 unfold iY fT
 repeat' (first | with_reducible exact nq _ _ | with_reducible exact qF _ _ | with_reducible exact oH _ _ | with_reducible exact kh _ _ _ | with_reducible refine ad ?_ ?_ ?_ ?_ ?_ | with_reducible refine ab ?_ ?_ ?_ ?_ | with_reducible refine aa ?_ ?_ ?_ | with_reducible refine ae ?_ ?_ | with_reducible refine ah ?_ ?_ | with_reducible refine ai ?_ _ | (intro _) | with_reducible exact ag _ | exact af | (dsimp only))
def mN (vals : List Int) (t : Int) : Option (Int ⊕ (Int ⊕ Unit)) :=
 bif decide (t < (vals.length : Int)) then
 (idx vals t).bind fun x =>
 bif x != 0 then
  some (.inr (.inl x))
 else
  some (.inl (w64 (t + 1)))
 else
 some (.inr (.inr ()))
theorem w7 (vals : List Int) (t : Int) : Lo (mN vals t) (oU vals t):=by
 unfold mN oU
 repeat' (first | with_reducible refine ad ?_ ?_ ?_ ?_ ?_ | with_reducible refine ab ?_ ?_ ?_ ?_ | with_reducible refine aa ?_ ?_ ?_ | with_reducible refine ae ?_ ?_ | with_reducible refine ah ?_ ?_ | with_reducible refine ai ?_ _ | (intro _) | with_reducible exact ag _ | exact af | (dsimp only))
def pQ (vals : List Int) : Option Int :=
 (itr 4096 (mN vals) 0).bind fun q0 =>
 match q0 with
 | .inl q =>
 some q
 | .inr _ =>
 some 0
theorem zD (vals : List Int) : Lo (pQ vals) (o9 vals):=by
 unfold pQ o9
 repeat' (first | with_reducible exact w7 _ _ | with_reducible refine ad ?_ ?_ ?_ ?_ ?_ | with_reducible refine ab ?_ ?_ ?_ ?_ | with_reducible refine aa ?_ ?_ ?_ | with_reducible refine ae ?_ ?_ | with_reducible refine ah ?_ ?_ | with_reducible refine ai ?_ _ | (intro _) | with_reducible exact ag _ | exact af | (dsimp only))
def d6 (x : Int) : Option Bool :=
 some (x != x)
theorem qn (x : Int) : Lo (d6 x) (d5 x):=by
 unfold d6 d5
 repeat' (first | with_reducible refine ad ?_ ?_ ?_ ?_ ?_ | with_reducible refine ab ?_ ?_ ?_ ?_ | with_reducible refine aa ?_ ?_ ?_ | with_reducible refine ae ?_ ?_ | with_reducible refine ah ?_ ?_ | with_reducible refine ai ?_ _ | (intro _) | with_reducible exact ag _ | exact af | (dsimp only))
def kX (x : Int) (y : Int) : Option Int :=
 (d6 x).bind fun xNaN =>
 (d6 y).bind fun yNaN =>
 bif xNaN then
 bif yNaN then
  some 0
 else
  some (-1)
 else
 bif yNaN then
  some 1
 else
  bif decide (x < y) then
  some (-1)
  else
  bif decide (x > y) then
   some 1
  else
   some 0
theorem vq (x : Int) (y : Int) : Lo (kX x y) (jz x y):=by
 unfold kX jz
 repeat' (first | with_reducible exact qn _ | with_reducible refine ad ?_ ?_ ?_ ?_ ?_ | with_reducible refine ab ?_ ?_ ?_ ?_ | with_reducible refine aa ?_ ?_ ?_ | with_reducible refine ae ?_ ?_ | with_reducible refine ah ?_ ?_ | with_reducible refine ai ?_ _ | (intro _) | with_reducible exact ag _ | exact af | (dsimp only))
def fS (x : List UInt8) : Option Bool :=
 some (! (x == x))
theorem uQ (x : List UInt8) : Lo (fS x) (eL x):=by
 unfold fS eL
 repeat' (first | with_reducible refine ad ?_ ?_ ?_ ?_ ?_ | with_reducible refine ab ?_ ?_ ?_ ?_ | with_reducible refine aa ?_ ?_ ?_ | with_reducible refine ae ?_ ?_ | with_reducible refine ah ?_ ?_ | with_reducible refine ai ?_ _ | (intro _) | with_reducible exact ag _ | exact af | (dsimp only))
def jb (x : List UInt8) (y : List UInt8) : Option Int :=
 (fS x).bind fun xNaN =>
 (fS y).bind fun yNaN =>
 bif xNaN then
 bif yNaN then
  some 0
 else
  some (-1)
 else
 bif yNaN then
  some 1
 else
  bif Op.bytesLess x y then
  some (-1)
  else
  bif ! (strLe x y) then
   some 1
  else
   some 0
theorem tx (x : List UInt8) (y : List UInt8) : Lo (jb x y) (fN x y):=by
 unfold jb fN
 repeat' (first | with_reducible exact uQ _ | with_reducible refine ad ?_ ?_ ?_ ?_ ?_ | with_reducible refine ab ?_ ?_ ?_ ?_ | with_reducible refine aa ?_ ?_ ?_ | with_reducible refine ae ?_ ?_ | with_reducible refine ah ?_ ?_ | with_reducible refine ai ?_ _ | (intro _) | with_reducible exact ag _ | exact af | (dsimp only))
def fJ (k : Looker) (_ob : Obj) (found : List UInt8) (e4 : Ent1_ListUInt8Cont) : Option (List UInt8) :=
 (
 bif found == ([] : List UInt8) then
  some true
 else
  let e5:=mget (fun x6 => found == x6.k) k.over (⟨found,0⟩ : Ent0_ListUInt8Int)
  let e6:=mget (fun x7 => e4.k == x7.k) k.over (⟨e4.k,0⟩ : Ent0_ListUInt8Int)
  (kX e5.v e6.v).bind fun x8 =>
  (jb e4.k found).bind fun x9 =>
  (pQ [x8,x9]).bind fun x10 =>
  some (decide (x10 < 0))).bind fun q2 =>
 bif q2 then
 some e4.k
 else
 some found
theorem qJ (k : Looker) (_ob : Obj) (found : List UInt8) (e4 : Ent1_ListUInt8Cont) : Lo (fJ k _ob found e4) (ig k _ob found e4):=by
 unfold fJ ig
 repeat' (first | with_reducible exact vq _ _ | with_reducible exact tx _ _ | with_reducible exact zD _ | with_reducible refine ad ?_ ?_ ?_ ?_ ?_ | with_reducible refine ab ?_ ?_ ?_ ?_ | with_reducible refine aa ?_ ?_ ?_ | with_reducible refine ae ?_ ?_ | with_reducible refine ah ?_ ?_ | with_reducible refine ai ?_ _ | (intro _) | with_reducible exact ag _ | exact af | (dsimp only))
def fA (k : Looker) (t : List Ent1_ListUInt8Cont × Int) : Option ((List Ent1_ListUInt8Cont × Int) ⊕ List Ent1_ListUInt8Cont) :=
 bif decide (t.2 < (k.s.Conts.length : Int)) then
 (
  (idx k.s.Conts t.2).bind fun x =>
  let e:=mget (fun x1 => x.Id == x1.k) k.leaf (⟨x.Id,[]⟩ : Ent2_IntListUInt8)
  let is:=mhas (fun x1 => x.Id == x1.k) k.leaf
  (
  bif ! is then
   some true
  else
   let e1:=mget (fun x2 => x.Id == x2.k) k.noticed (⟨x.Id,0⟩ : Ent4_IntInt)
   bif decide (e1.v > 0) then
   some true
   else
   let e2:=mget (fun x3 => e.v == x3.k) k.over (⟨e.v,0⟩ : Ent0_ListUInt8Int)
   some (decide (e2.v ≤ 0))).bind fun q =>
  bif q then
  some t.1
  else
  let e3:=mget (fun x4 => e.v == x4.k) t.1 (⟨e.v,⟨0,0,0,⟨0,0⟩,0,0,false,0⟩⟩ : Ent1_ListUInt8Cont)
  let has:=mhas (fun x4 => e.v == x4.k) t.1
  (
   bif ! has then
   some true
   else
   bif e3.v.Master then
    bif ! x.Master then
    some true
    else
    bif e3.v.Master == x.Master then
     some (decide (x.Id > e3.v.Id))
    else
     some false
   else
    bif e3.v.Master == x.Master then
    some (decide (x.Id > e3.v.Id))
    else
    some false).bind fun q1 =>
  bif q1 then
   some (mput (fun x5 => e.v == x5.k) t.1 (⟨e.v,⟨x.Id,x.App,x.Node,⟨x.Size.Mem,x.Size.Cores⟩,x.Prio,x.Label,x.Master,x.Notice⟩⟩ : Ent1_ListUInt8Cont))
  else
   some t.1).bind fun best =>
 some (.inl (best,w64 (t.2 + 1)))
 else
 some (.inr t.1)
theorem qN (k : Looker) (t : List Ent1_ListUInt8Cont × Int) : Lo (fA k t) (ir k t):=by
 unfold fA ir
 repeat' (first | with_reducible refine ad ?_ ?_ ?_ ?_ ?_ | with_reducible refine ab ?_ ?_ ?_ ?_ | with_reducible refine aa ?_ ?_ ?_ | with_reducible refine ae ?_ ?_ | with_reducible refine ah ?_ ?_ | with_reducible refine ai ?_ _ | (intro _) | with_reducible exact ag _ | exact af | (dsimp only))
def jp (k : Looker) : Option (Cont × Bool × Looker) :=
 (itr 4096 (fA k) ([],0)).bind fun best1 =>
 (rngc (ω:=Obj) (Obj.deferred none) (fun _ => some ([] : List UInt8)) (fJ k) best1).bind fun found1 =>
 let e7:=mget (fun x11 => found1 == x11.k) best1 (⟨found1,⟨0,0,0,⟨0,0⟩,0,0,false,0⟩⟩ : Ent1_ListUInt8Cont)
 let is1:=mhas (fun x11 => found1 == x11.k) best1
 some (e7.v,is1,k)
theorem tg (k : Looker) : Lo (jp k) (fX k):=by
 unfold jp fX
 repeat' (first | with_reducible exact qN _ _ | with_reducible exact qJ _ _ _ _ | with_reducible refine GZ ?_ (fun _ _ _ _ => rfl) (fun _ _ => rfl) _ | with_reducible refine ad ?_ ?_ ?_ ?_ ?_ | with_reducible refine ab ?_ ?_ ?_ ?_ | with_reducible refine aa ?_ ?_ ?_ | with_reducible refine ae ?_ ?_ | with_reducible refine ah ?_ ?_ | with_reducible refine ai ?_ _ | (intro _) | with_reducible exact ag _ | exact af | (dsimp only))
def lS (need : Int × Looker) (t : Looker × List Int) : Option ((Looker × List Int) ⊕ List Int) :=
 bif decide (t.1.gone < need.1) then
 (jp t.1).bind fun x =>
 bif ! x.2.1 then
  some (.inr t.2)
 else
  (dQ x.2.2 x.1).bind fun x1 =>
  (app 8 t.2 [x.1.Id]).bind fun l =>
  some (.inl (x1,l))
 else
 some (.inr t.2)
theorem vJ (need : Int × Looker) (t : Looker × List Int) : Lo (lS need t) (ni need t):=by
 unfold lS ni
 repeat' (first | with_reducible exact tg _ | with_reducible exact lj _ _ | with_reducible refine ad ?_ ?_ ?_ ?_ ?_ | with_reducible refine ab ?_ ?_ ?_ ?_ | with_reducible refine aa ?_ ?_ ?_ | with_reducible refine ae ?_ ?_ | with_reducible refine ah ?_ ?_ | with_reducible refine ai ?_ _ | (intro _) | with_reducible exact ag _ | exact af | (dsimp only))
def lz (s : State) (label : Int) : Option (List Int) :=
 (o6 s label).bind fun k =>
 (iY k).bind fun need =>
 (itr 4096 (lS need) (need.2,[])).bind fun out =>
 some out
theorem sW (s : State) (label : Int) : Lo (lz s label) (kV s label):=by
 unfold lz kV
 repeat' (first | with_reducible exact yR _ _ | with_reducible exact tH _ | with_reducible exact vJ _ _ | with_reducible refine ad ?_ ?_ ?_ ?_ ?_ | with_reducible refine ab ?_ ?_ ?_ ?_ | with_reducible refine aa ?_ ?_ ?_ | with_reducible refine ae ?_ ?_ | with_reducible refine ah ?_ ?_ | with_reducible refine ai ?_ _ | (intro _) | with_reducible exact ag _ | exact af | (dsimp only))
def oY (s : List Cont) (f : (TupT fam [.st 7] → Option Bool)) (t : Int) : Option (Int ⊕ (Int ⊕ Unit)) :=
 bif decide (t < (s.length : Int)) then
 (idx s t).bind fun x =>
 (f (x,())).bind fun r =>
 bif r then
  some (.inr (.inl t))
 else
  some (.inl (w64 (t + 1)))
 else
 some (.inr (.inr ()))
theorem yd (s : List Cont) (f f_' : (TupT fam [.st 7] → Option Bool)) (h_f : ∀ a,Lo (f a) (f_' a)) (t : Int) : Lo (oY s f t) (rE s f_' t):=by
 unfold oY rE
 repeat' (first | exact h_f _ | with_reducible refine ad ?_ ?_ ?_ ?_ ?_ | with_reducible refine ab ?_ ?_ ?_ ?_ | with_reducible refine aa ?_ ?_ ?_ | with_reducible refine ae ?_ ?_ | with_reducible refine ah ?_ ?_ | with_reducible refine ai ?_ _ | (intro _) | with_reducible exact ag _ | exact af | (dsimp only))
def iu (s : List Cont) (f : (TupT fam [.st 7] → Option Bool)) : Option Int :=
 (itr 4096 (oY s f) 0).bind fun q0 =>
 match q0 with
 | .inl q =>
 some q
 | .inr _ =>
 some (-1)
theorem lm (s : List Cont) (f f_' : (TupT fam [.st 7] → Option Bool)) (h_f : ∀ a,Lo (f a) (f_' a)) : Lo (iu s f) (jx s f_'):=by
 unfold iu jx
 repeat' (first | with_reducible refine yd _ _ _ ?_ _ | exact h_f _ | with_reducible refine ad ?_ ?_ ?_ ?_ ?_ | with_reducible refine ab ?_ ?_ ?_ ?_ | with_reducible refine aa ?_ ?_ ?_ | with_reducible refine ae ?_ ?_ | with_reducible refine ah ?_ ?_ | with_reducible refine ai ?_ _ | (intro _) | with_reducible exact ag _ | exact af | (dsimp only))
def kH (s : List Cont) : Option (List Cont):=app 72 [] s
theorem rJ (s : List Cont) : Lo (kH s) (j_ s):=by
 unfold kH j_
 repeat' (first | with_reducible refine ad ?_ ?_ ?_ ?_ ?_ | with_reducible refine ab ?_ ?_ ?_ ?_ | with_reducible refine aa ?_ ?_ ?_ | with_reducible refine ae ?_ ?_ | with_reducible refine ah ?_ ?_ | with_reducible refine ai ?_ _ | (intro _) | with_reducible exact ag _ | exact af | (dsimp only))
def db (s : List (List UInt8)) : Option (List (List UInt8)):=app 16 [] s
theorem mO (s : List (List UInt8)) : Lo (db s) (bW s):=by
 unfold db bW
 repeat' (first | with_reducible refine ad ?_ ?_ ?_ ?_ ?_ | with_reducible refine ab ?_ ?_ ?_ ?_ | with_reducible refine aa ?_ ?_ ?_ | with_reducible refine ae ?_ ?_ | with_reducible refine ah ?_ ?_ | with_reducible refine ai ?_ _ | (intro _) | with_reducible exact ag _ | exact af | (dsimp only))
def mH (s : List Queue) : Option (List Queue):=app 48 [] s
theorem w_ (s : List Queue) : Lo (mH s) (lA s):=by
 unfold mH lA
 repeat' (first | with_reducible refine ad ?_ ?_ ?_ ?_ ?_ | with_reducible refine ab ?_ ?_ ?_ ?_ | with_reducible refine aa ?_ ?_ ?_ | with_reducible refine ae ?_ ?_ | with_reducible refine ah ?_ ?_ | with_reducible refine ai ?_ _ | (intro _) | with_reducible exact ag _ | exact af | (dsimp only))
def tj (s : List Node) : Option (List Node):=app 64 [] s
theorem BH (s : List Node) : Lo (tj s) (sT s):=by
 unfold tj sT
 repeat' (first | with_reducible refine ad ?_ ?_ ?_ ?_ ?_ | with_reducible refine ab ?_ ?_ ?_ ?_ | with_reducible refine aa ?_ ?_ ?_ | with_reducible refine ae ?_ ?_ | with_reducible refine ah ?_ ?_ | with_reducible refine ai ?_ _ | (intro _) | with_reducible exact ag _ | exact af | (dsimp only))
def tK (s : List Slot) : Option (List Slot):=app 24 [] s
theorem AN (s : List Slot) : Lo (tK s) (sS s):=by
 unfold tK sS
 repeat' (first | with_reducible refine ad ?_ ?_ ?_ ?_ ?_ | with_reducible refine ab ?_ ?_ ?_ ?_ | with_reducible refine aa ?_ ?_ ?_ | with_reducible refine ae ?_ ?_ | with_reducible refine ah ?_ ?_ | with_reducible refine ai ?_ _ | (intro _) | with_reducible exact ag _ | exact af | (dsimp only))
def th (s : List Plan) : Option (List Plan):=app 48 [] s
theorem A7 (s : List Plan) : Lo (th s) (sU s):=by
 unfold th sU
 repeat' (first | with_reducible refine ad ?_ ?_ ?_ ?_ ?_ | with_reducible refine ab ?_ ?_ ?_ ?_ | with_reducible refine aa ?_ ?_ ?_ | with_reducible refine ae ?_ ?_ | with_reducible refine ah ?_ ?_ | with_reducible refine ai ?_ _ | (intro _) | with_reducible exact ag _ | exact af | (dsimp only))
def o0 (s : List App) : Option (List App):=app 200 [] s
theorem yz (s : List App) : Lo (o0 s) (n_ s):=by
 unfold o0 n_
 repeat' (first | with_reducible refine ad ?_ ?_ ?_ ?_ ?_ | with_reducible refine ab ?_ ?_ ?_ ?_ | with_reducible refine aa ?_ ?_ ?_ | with_reducible refine ae ?_ ?_ | with_reducible refine ah ?_ ?_ | with_reducible refine ai ?_ _ | (intro _) | with_reducible exact ag _ | exact af | (dsimp only))
def pW (x9 : List App) (t1 : List App × Nat × Int) : Option ((List App × Nat × Int) ⊕ (List App × Nat × Int)) :=
 bif decide (t1.2.2 < (x9.length : Int)) then
 (inb t1.2.2 t1.1.length).bind fun i2 =>
 bif Nat.ble t1.2.1 i2 then
  (t1.1[i2]?).bind fun x10 =>
  (qA x10).bind fun x11 =>
  (inb t1.2.2 t1.1.length).bind fun i3 =>
  bif Nat.beq i3 t1.2.1 then
  (t1.1[i3]?).bind fun x12 =>
  some (.inl (List.set t1.1 i3 x11,t1.2.1 + 1,w64 (t1.2.2 + 1)))
  else
  none
 else
  none
 else
 some (.inr (t1.1,t1.2.1,t1.2.2))
theorem zy (x9 : List App) (t1 : List App × Nat × Int) : Lo (pW x9 t1) (tz x9 t1):=by
 unfold pW tz
 repeat' (first | with_reducible exact xc _ | with_reducible refine ad ?_ ?_ ?_ ?_ ?_ | with_reducible refine ab ?_ ?_ ?_ ?_ | with_reducible refine aa ?_ ?_ ?_ | with_reducible refine ae ?_ ?_ | with_reducible refine ah ?_ ?_ | with_reducible refine ai ?_ _ | (intro _) | with_reducible exact ag _ | exact af | (dsimp only))
def p7 (x1 : List Queue) (t : List Queue × Nat × Int) : Option ((List Queue × Nat × Int) ⊕ (List Queue × Nat × Int)) :=
 bif decide (t.2.2 < (x1.length : Int)) then
 (inb t.2.2 t.1.length).bind fun i =>
 bif Nat.ble t.2.1 i then
  (t.1[i]?).bind fun x2 =>
  (qL x2.Caps).bind fun x3 =>
  (inb t.2.2 t.1.length).bind fun i1 =>
  bif Nat.beq i1 t.2.1 then
  (t.1[i1]?).bind fun x4 =>
  some (.inl (List.set t.1 i1 (⟨x4.Path,x3,x4.User⟩ : Queue),t.2.1 + 1,w64 (t.2.2 + 1)))
  else
  none
 else
  none
 else
 some (.inr (t.1,t.2.1,t.2.2))
theorem zo (x1 : List Queue) (t : List Queue × Nat × Int) : Lo (p7 x1 t) (tA x1 t):=by
 unfold p7 tA
 repeat' (first | with_reducible exact xm _ | with_reducible refine ad ?_ ?_ ?_ ?_ ?_ | with_reducible refine ab ?_ ?_ ?_ ?_ | with_reducible refine aa ?_ ?_ ?_ | with_reducible refine ae ?_ ?_ | with_reducible refine ah ?_ ?_ | with_reducible refine ai ?_ _ | (intro _) | with_reducible exact ag _ | exact af | (dsimp only))
def qT (s : State) : Option State :=
 (db s.Conf.Labels).bind fun x =>
 (mH s.Conf.Queues).bind fun x1 =>
 (itr 4096 (p7 x1) (x1,0,0)).bind fun q =>
 bif Nat.ble q.1.length q.2.1 then
 (tj s.Nodes).bind fun x5 =>
 (kH s.Conts).bind fun x6 =>
 (tK s.Slots).bind fun x7 =>
 (th s.Plans).bind fun x8 =>
 (o0 s.Apps).bind fun x9 =>
 (itr 4096 (pW x9) (x9,0,0)).bind fun q1 =>
 bif Nat.ble q1.1.length q1.2.1 then
  some (⟨⟨x,q.1⟩,x5,q1.1,x6,x7,x8,s.Now,s.Epoch,s.Seq⟩ : State)
 else
  none
 else
 none
theorem B3 (s : State) : Lo (qT s) (rF s):=by
 unfold qT rF
 repeat' (first | with_reducible exact mO _ | with_reducible exact w_ _ | with_reducible exact zo _ _ | with_reducible exact BH _ | with_reducible exact rJ _ | with_reducible exact AN _ | with_reducible exact A7 _ | with_reducible exact yz _ | with_reducible exact zy _ _ | with_reducible refine ad ?_ ?_ ?_ ?_ ?_ | with_reducible refine ab ?_ ?_ ?_ ?_ | with_reducible refine aa ?_ ?_ ?_ | with_reducible refine ae ?_ ?_ | with_reducible refine ah ?_ ?_ | with_reducible refine ai ?_ _ | (intro _) | with_reducible exact ag _ | exact af | (dsimp only))
def p_ (c : Cont) (p : Int) : Option Bool :=
 some (c.Id == p)
theorem zE (c : Cont) (p : Int) : Lo (p_ c p) (o_ c p):=by
 unfold p_ o_
 repeat' (first | with_reducible refine ad ?_ ?_ ?_ ?_ ?_ | with_reducible refine ab ?_ ?_ ?_ ?_ | with_reducible refine aa ?_ ?_ ?_ | with_reducible refine ae ?_ ?_ | with_reducible refine ah ?_ ?_ | with_reducible refine ai ?_ _ | (intro _) | with_reducible exact ag _ | exact af | (dsimp only))
def lT (s : List Ask) (f : (TupT fam [.st 5] → Option Bool)) (t : Int) : Option (Int ⊕ (Int ⊕ Unit)) :=
 bif decide (t < (s.length : Int)) then
 (idx s t).bind fun x =>
 (f (x,())).bind fun r =>
 bif r then
  some (.inr (.inl t))
 else
  some (.inl (w64 (t + 1)))
 else
 some (.inr (.inr ()))
theorem vV (s : List Ask) (f f_' : (TupT fam [.st 5] → Option Bool)) (h_f : ∀ a,Lo (f a) (f_' a)) (t : Int) : Lo (lT s f t) (nW s f_' t):=by
 unfold lT nW
 repeat' (first | exact h_f _ | with_reducible refine ad ?_ ?_ ?_ ?_ ?_ | with_reducible refine ab ?_ ?_ ?_ ?_ | with_reducible refine aa ?_ ?_ ?_ | with_reducible refine ae ?_ ?_ | with_reducible refine ah ?_ ?_ | with_reducible refine ai ?_ _ | (intro _) | with_reducible exact ag _ | exact af | (dsimp only))
def oG (s : List Ask) (f : (TupT fam [.st 5] → Option Bool)) : Option Int :=
 (itr 4096 (lT s f) 0).bind fun q0 =>
 match q0 with
 | .inl q =>
 some q
 | .inr _ =>
 some (-1)
theorem x_ (s : List Ask) (f f_' : (TupT fam [.st 5] → Option Bool)) (h_f : ∀ a,Lo (f a) (f_' a)) : Lo (oG s f) (nF s f_'):=by
 unfold oG nF
 repeat' (first | with_reducible refine vV _ _ _ ?_ _ | exact h_f _ | with_reducible refine ad ?_ ?_ ?_ ?_ ?_ | with_reducible refine ab ?_ ?_ ?_ ?_ | with_reducible refine aa ?_ ?_ ?_ | with_reducible refine ae ?_ ?_ | with_reducible refine ah ?_ ?_ | with_reducible refine ai ?_ _ | (intro _) | with_reducible exact ag _ | exact af | (dsimp only))
def lX (del : (TupT fam [.st 5] → Option Bool)) (t : List Ask × Int × Int) : Option ((List Ask × Int × Int) ⊕ ((List Ask × Int))) :=
 bif decide (t.2.2 < (t.1.length : Int)) then
 (
  (inb t.2.2 t.1.length).bind fun i1 =>
  (t.1[i1]?).bind fun x =>
  (del (x,())).bind fun r =>
  bif ! r then
  (inb t.2.1 t.1.length).bind fun i2 =>
  (t.1[i2]?).bind fun x1 =>
  some (List.set t.1 i2 x,w64 (t.2.1 + 1))
  else
  some (t.1,t.2.1)).bind fun q =>
 some (.inl (q.1,q.2,w64 (t.2.2 + 1)))
 else
 some (.inr (t.1,t.2.1))
theorem v5 (del del_' : (TupT fam [.st 5] → Option Bool)) (h_del : ∀ a,Lo (del a) (del_' a)) (t : List Ask × Int × Int) : Lo (lX del t) (nE del_' t):=by
 unfold lX nE
 repeat' (first | exact h_del _ | with_reducible refine ad ?_ ?_ ?_ ?_ ?_ | with_reducible refine ab ?_ ?_ ?_ ?_ | with_reducible refine aa ?_ ?_ ?_ | with_reducible refine ae ?_ ?_ | with_reducible refine ah ?_ ?_ | with_reducible refine ai ?_ _ | (intro _) | with_reducible exact ag _ | exact af | (dsimp only))
def oz (s : List Ask) (del : (TupT fam [.st 5] → Option Bool)) : Option (List Ask) :=
 (oG s del).bind fun i =>
 bif i == (-1) then
 some s
 else
 (itr 4096 (lX del) (s,i,w64 (i + 1))).bind fun q1 =>
 (inS q1.2 (q1.1.length : Int) q1.1.length).bind fun p =>
 none
theorem yO (s : List Ask) (del del_' : (TupT fam [.st 5] → Option Bool)) (h_del : ∀ a,Lo (del a) (del_' a)) : Lo (oz s del) (nT s del_'):=by
 unfold oz nT
 repeat' (first | with_reducible refine x_ _ _ _ ?_ | with_reducible refine v5 _ _ ?_ _ | exact h_del _ | with_reducible refine ad ?_ ?_ ?_ ?_ ?_ | with_reducible refine ab ?_ ?_ ?_ ?_ | with_reducible refine aa ?_ ?_ ?_ | with_reducible refine ae ?_ ?_ | with_reducible refine ah ?_ ?_ | with_reducible refine ai ?_ _ | (intro _) | with_reducible exact ag _ | exact af | (dsimp only))
def u6 (l : List Ask) : Option (List Ask) :=
 (mkl 64 (l.length : Int) (l.length : Int) (⟨0,0,⟨0,0⟩,0,0,0,0⟩ : Ask)).bind fun l1 =>
 some (cpy l1 0 l1.length l)
theorem BV (l : List Ask) : Lo (u6 l) (ux l):=by
 unfold u6 ux
 repeat' (first | with_reducible refine ad ?_ ?_ ?_ ?_ ?_ | with_reducible refine ab ?_ ?_ ?_ ?_ | with_reducible refine aa ?_ ?_ ?_ | with_reducible refine ae ?_ ?_ | with_reducible refine ah ?_ ?_ | with_reducible refine ai ?_ _ | (intro _) | with_reducible exact ag _ | exact af | (dsimp only))
def rr (x : Ask) (p : Ask) : Option Bool :=
 some (x.Prio == p.Prio)
theorem Ai (x : Ask) (p : Ask) : Lo (rr x p) (qw x p):=by
 unfold rr qw
 repeat' (first | with_reducible refine ad ?_ ?_ ?_ ?_ ?_ | with_reducible refine ab ?_ ?_ ?_ ?_ | with_reducible refine aa ?_ ?_ ?_ | with_reducible refine ae ?_ ?_ | with_reducible refine ah ?_ ?_ | with_reducible refine ai ?_ _ | (intro _) | with_reducible exact ag _ | exact af | (dsimp only))
def o5 (s : List Ask) (i : Int) (v : List Ask) : Option (List Ask) :=
 (inS i (s.length : Int) s.length).bind fun p =>
 bif (v.length : Int) == 0 then
 some s
 else
 bif i == (s.length : Int) then
  (app 64 s v).bind fun l =>
  some l
 else
  none
theorem yU (s : List Ask) (i : Int) (v : List Ask) : Lo (o5 s i v) (m7 s i v):=by
 unfold o5 m7
 repeat' (first | with_reducible refine ad ?_ ?_ ?_ ?_ ?_ | with_reducible refine ab ?_ ?_ ?_ ?_ | with_reducible refine aa ?_ ?_ ?_ | with_reducible refine ae ?_ ?_ | with_reducible refine ah ?_ ?_ | with_reducible refine ai ?_ _ | (intro _) | with_reducible exact ag _ | exact af | (dsimp only))
def qh (a : Ask) (out : List Ask) (k : Int) : Option (Int ⊕ Int) :=
 (
 bif decide (k < (out.length : Int)) then
  (inb k out.length).bind fun i =>
  (out[i]?).bind fun x1 =>
  some (decide (x1.Prio < a.Prio))
 else
  some false).bind fun q =>
 bif q then
 some (.inl (w64 (k + 1)))
 else
 some (.inr k)
theorem zk (a : Ask) (out : List Ask) (k : Int) : Lo (qh a out k) (tk a out k):=by
 unfold qh tk
 repeat' (first | with_reducible refine ad ?_ ?_ ?_ ?_ ?_ | with_reducible refine ab ?_ ?_ ?_ ?_ | with_reducible refine aa ?_ ?_ ?_ | with_reducible refine ae ?_ ?_ | with_reducible refine ah ?_ ?_ | with_reducible refine ai ?_ _ | (intro _) | with_reducible exact ag _ | exact af | (dsimp only))
def u9 (l : List Ask) (a : Ask) : Option (List Ask × Int) :=
 (u6 l).bind fun x =>
 (oz x (fun a' => rr a'.1 a)).bind fun out =>
 bif a.Count == 0 then
 some (out,0)
 else
 bif decide ((out.length : Int) ≥ 8) then
  some ([],4)
 else
  (itr 4096 (qh a out) 0).bind fun k1 =>
  (o5 out k1 [(⟨a.Prio,a.Label,⟨a.Size.Mem,a.Size.Cores⟩,a.Count,a.Node,a.Rack,0⟩ : Ask)]).bind fun x2 =>
  some (x2,0)
theorem B_ (l : List Ask) (a : Ask) : Lo (u9 l a) (uV l a):=by
 unfold u9 uV
 repeat' (first | with_reducible exact BV _ | with_reducible refine yO _ _ _ ?_ | with_reducible exact Ai _ _ | with_reducible exact zk _ _ _ | with_reducible exact yU _ _ _ | with_reducible refine ad ?_ ?_ ?_ ?_ ?_ | with_reducible refine ab ?_ ?_ ?_ ?_ | with_reducible refine aa ?_ ?_ ?_ | with_reducible refine ae ?_ ?_ | with_reducible refine ah ?_ ?_ | with_reducible refine ai ?_ _ | (intro _) | with_reducible exact ag _ | exact af | (dsimp only))
def sd (a : App) : Option (List Ask) :=
 (u9 [] (⟨0,0,⟨a.Master.Mem,a.Master.Cores⟩,1,(-1),(-1),0⟩ : Ask)).bind fun x =>
 some x.1
theorem At (a : App) : Lo (sd a) (qP a):=by
 unfold sd qP
 repeat' (first | with_reducible exact B_ _ _ | with_reducible refine ad ?_ ?_ ?_ ?_ ?_ | with_reducible refine ab ?_ ?_ ?_ ?_ | with_reducible refine aa ?_ ?_ ?_ | with_reducible refine ae ?_ ?_ | with_reducible refine ah ?_ ?_ | with_reducible refine ai ?_ _ | (intro _) | with_reducible exact ag _ | exact af | (dsimp only))
def k_ (del : (TupT fam [.st 7] → Option Bool)) (t : List Cont × Int × Int) : Option ((List Cont × Int × Int) ⊕ ((List Cont × Int))) :=
 bif decide (t.2.2 < (t.1.length : Int)) then
 (
  (inb t.2.2 t.1.length).bind fun i1 =>
  (t.1[i1]?).bind fun x =>
  (del (x,())).bind fun r =>
  bif ! r then
  (inb t.2.1 t.1.length).bind fun i2 =>
  (t.1[i2]?).bind fun x1 =>
  some (List.set t.1 i2 x,w64 (t.2.1 + 1))
  else
  some (t.1,t.2.1)).bind fun q =>
 some (.inl (q.1,q.2,w64 (t.2.2 + 1)))
 else
 some (.inr (t.1,t.2.1))
theorem vm (del del_' : (TupT fam [.st 7] → Option Bool)) (h_del : ∀ a,Lo (del a) (del_' a)) (t : List Cont × Int × Int) : Lo (k_ del t) (mz del_' t):=by
 unfold k_ mz
 repeat' (first | exact h_del _ | with_reducible refine ad ?_ ?_ ?_ ?_ ?_ | with_reducible refine ab ?_ ?_ ?_ ?_ | with_reducible refine aa ?_ ?_ ?_ | with_reducible refine ae ?_ ?_ | with_reducible refine ah ?_ ?_ | with_reducible refine ai ?_ _ | (intro _) | with_reducible exact ag _ | exact af | (dsimp only))
def nI (s : List Cont) (del : (TupT fam [.st 7] → Option Bool)) : Option (List Cont) :=
 (iu s del).bind fun i =>
 bif i == (-1) then
 some s
 else
 (itr 4096 (k_ del) (s,i,w64 (i + 1))).bind fun q1 =>
 (inS q1.2 (q1.1.length : Int) q1.1.length).bind fun p =>
 none
theorem xp (s : List Cont) (del del_' : (TupT fam [.st 7] → Option Bool)) (h_del : ∀ a,Lo (del a) (del_' a)) : Lo (nI s del) (ml s del_'):=by
 unfold nI ml
 repeat' (first | with_reducible refine lm _ _ _ ?_ | with_reducible refine vm _ _ ?_ _ | exact h_del _ | with_reducible refine ad ?_ ?_ ?_ ?_ ?_ | with_reducible refine ab ?_ ?_ ?_ ?_ | with_reducible refine aa ?_ ?_ ?_ | with_reducible refine ae ?_ ?_ | with_reducible refine ah ?_ ?_ | with_reducible refine ai ?_ _ | (intro _) | with_reducible exact ag _ | exact af | (dsimp only))
def kU (s : List Slot) (f : (TupT fam [.st 8] → Option Bool)) (t : Int) : Option (Int ⊕ (Int ⊕ Unit)) :=
 bif decide (t < (s.length : Int)) then
 (idx s t).bind fun x =>
 (f (x,())).bind fun r =>
 bif r then
  some (.inr (.inl t))
 else
  some (.inl (w64 (t + 1)))
 else
 some (.inr (.inr ()))
theorem vt (s : List Slot) (f f_' : (TupT fam [.st 8] → Option Bool)) (h_f : ∀ a,Lo (f a) (f_' a)) (t : Int) : Lo (kU s f t) (mF s f_' t):=by
 unfold kU mF
 repeat' (first | exact h_f _ | with_reducible refine ad ?_ ?_ ?_ ?_ ?_ | with_reducible refine ab ?_ ?_ ?_ ?_ | with_reducible refine aa ?_ ?_ ?_ | with_reducible refine ae ?_ ?_ | with_reducible refine ah ?_ ?_ | with_reducible refine ai ?_ _ | (intro _) | with_reducible exact ag _ | exact af | (dsimp only))
def na (s : List Slot) (f : (TupT fam [.st 8] → Option Bool)) : Option Int :=
 (itr 4096 (kU s f) 0).bind fun q0 =>
 match q0 with
 | .inl q =>
 some q
 | .inr _ =>
 some (-1)
theorem xL (s : List Slot) (f f_' : (TupT fam [.st 8] → Option Bool)) (h_f : ∀ a,Lo (f a) (f_' a)) : Lo (na s f) (mo s f_'):=by
 unfold na mo
 repeat' (first | with_reducible refine vt _ _ _ ?_ _ | exact h_f _ | with_reducible refine ad ?_ ?_ ?_ ?_ ?_ | with_reducible refine ab ?_ ?_ ?_ ?_ | with_reducible refine aa ?_ ?_ ?_ | with_reducible refine ae ?_ ?_ | with_reducible refine ah ?_ ?_ | with_reducible refine ai ?_ _ | (intro _) | with_reducible exact ag _ | exact af | (dsimp only))
def la (del : (TupT fam [.st 8] → Option Bool)) (t : List Slot × Int × Int) : Option ((List Slot × Int × Int) ⊕ ((List Slot × Int))) :=
 bif decide (t.2.2 < (t.1.length : Int)) then
 (
  (inb t.2.2 t.1.length).bind fun i1 =>
  (t.1[i1]?).bind fun x =>
  (del (x,())).bind fun r =>
  bif ! r then
  (inb t.2.1 t.1.length).bind fun i2 =>
  (t.1[i2]?).bind fun x1 =>
  some (List.set t.1 i2 x,w64 (t.2.1 + 1))
  else
  some (t.1,t.2.1)).bind fun q =>
 some (.inl (q.1,q.2,w64 (t.2.2 + 1)))
 else
 some (.inr (t.1,t.2.1))
theorem vn (del del_' : (TupT fam [.st 8] → Option Bool)) (h_del : ∀ a,Lo (del a) (del_' a)) (t : List Slot × Int × Int) : Lo (la del t) (mv del_' t):=by
 unfold la mv
 repeat' (first | exact h_del _ | with_reducible refine ad ?_ ?_ ?_ ?_ ?_ | with_reducible refine ab ?_ ?_ ?_ ?_ | with_reducible refine aa ?_ ?_ ?_ | with_reducible refine ae ?_ ?_ | with_reducible refine ah ?_ ?_ | with_reducible refine ai ?_ _ | (intro _) | with_reducible exact ag _ | exact af | (dsimp only))
def nB (s : List Slot) (del : (TupT fam [.st 8] → Option Bool)) : Option (List Slot) :=
 (na s del).bind fun i =>
 bif i == (-1) then
 some s
 else
 (itr 4096 (la del) (s,i,w64 (i + 1))).bind fun q1 =>
 (inS q1.2 (q1.1.length : Int) q1.1.length).bind fun p =>
 none
theorem xW (s : List Slot) (del del_' : (TupT fam [.st 8] → Option Bool)) (h_del : ∀ a,Lo (del a) (del_' a)) : Lo (nB s del) (mj s del_'):=by
 unfold nB mj
 repeat' (first | with_reducible refine xL _ _ _ ?_ | with_reducible refine vn _ _ ?_ _ | exact h_del _ | with_reducible refine ad ?_ ?_ ?_ ?_ ?_ | with_reducible refine ab ?_ ?_ ?_ ?_ | with_reducible refine aa ?_ ?_ ?_ | with_reducible refine ae ?_ ?_ | with_reducible refine ah ?_ ?_ | with_reducible refine ai ?_ _ | (intro _) | with_reducible exact ag _ | exact af | (dsimp only))
def oD (x : Slot) (p : Int) : Option Bool :=
 some (x.App == p)
theorem yv (x : Slot) (p : Int) : Lo (oD x p) (oi x p):=by
 unfold oD oi
 repeat' (first | with_reducible refine ad ?_ ?_ ?_ ?_ ?_ | with_reducible refine ab ?_ ?_ ?_ ?_ | with_reducible refine aa ?_ ?_ ?_ | with_reducible refine ae ?_ ?_ | with_reducible refine ah ?_ ?_ | with_reducible refine ai ?_ _ | (intro _) | with_reducible exact ag _ | exact af | (dsimp only))
def r9 (s : State) (id_ : Int) : Option (State × List Int) :=
 (nI s.Conts (fun a' => none)).bind fun x =>
 (nB s.Slots (fun a' => oD a'.1 id_)).bind fun x1 =>
 some ((⟨⟨s.Conf.Labels,s.Conf.Queues⟩,s.Nodes,s.Apps,x,x1,s.Plans,s.Now,s.Epoch,s.Seq⟩ : State),[])
theorem Ar (s : State) (id_ : Int) : Lo (r9 s id_) (qz s id_):=by
 unfold r9 qz
 repeat' (first | with_reducible refine xp _ _ _ ?_ | with_reducible refine xW _ _ _ ?_ | with_reducible exact yv _ _ | with_reducible refine ad ?_ ?_ ?_ ?_ ?_ | with_reducible refine ab ?_ ?_ ?_ ?_ | with_reducible refine aa ?_ ?_ ?_ | with_reducible refine ae ?_ ?_ | with_reducible refine ah ?_ ?_ | with_reducible refine ai ?_ _ | (intro _) | with_reducible exact ag _ | exact af | (dsimp only))
def qg (s : State) (i : Int) : Option State :=
 (inb i s.Apps.length).bind fun i1 =>
 (s.Apps[i1]?).bind fun x =>
 (sd x).bind fun x1 =>
 (inb i s.Apps.length).bind fun i2 =>
 bif Nat.beq i2 i1 then
 (s.Apps[i2]?).bind fun x2 =>
 (r9 (⟨⟨s.Conf.Labels,s.Conf.Queues⟩,s.Nodes,List.set s.Apps i2 (⟨x.Id,1,x.Queue,x.User,x.Prio,⟨x.Master.Mem,x.Master.Cores⟩,x1,s.Now,0,[],[],[],[]⟩ : App),s.Conts,s.Slots,s.Plans,s.Now,s.Epoch,s.Seq⟩ : State) x.Id).bind fun x3 =>
 some x3.1
 else
 none
theorem za (s : State) (i : Int) : Lo (qg s i) (pj s i):=by
 unfold qg pj
 repeat' (first | with_reducible exact At _ | with_reducible exact Ar _ _ | with_reducible refine ad ?_ ?_ ?_ ?_ ?_ | with_reducible refine ab ?_ ?_ ?_ ?_ | with_reducible refine aa ?_ ?_ ?_ | with_reducible refine ae ?_ ?_ | with_reducible refine ah ?_ ?_ | with_reducible refine ai ?_ _ | (intro _) | with_reducible exact ag _ | exact af | (dsimp only))
def oA (s : List Cont) (i : Int) (j : Int) : Option (List Cont):=del s i j
theorem yx (s : List Cont) (i : Int) (j : Int) : Lo (oA s i j) (m9 s i j):=by
 unfold oA m9
 repeat' (first | with_reducible refine ad ?_ ?_ ?_ ?_ ?_ | with_reducible refine ab ?_ ?_ ?_ ?_ | with_reducible refine aa ?_ ?_ ?_ | with_reducible refine ae ?_ ?_ | with_reducible refine ah ?_ ?_ | with_reducible refine ai ?_ _ | (intro _) | with_reducible exact ag _ | exact af | (dsimp only))
def dX (s : List Int) (v : Int) (t : Int) : Option (Int ⊕ (Int ⊕ Unit)) :=
 bif decide (t < (s.length : Int)) then
 (idx s t).bind fun x =>
 bif v == x then
  some (.inr (.inl t))
 else
  some (.inl (w64 (t + 1)))
 else
 some (.inr (.inr ()))
theorem ot (s : List Int) (v : Int) (t : Int) : Lo (dX s v t) (eC s v t):=by
 unfold dX eC
 repeat' (first | with_reducible refine ad ?_ ?_ ?_ ?_ ?_ | with_reducible refine ab ?_ ?_ ?_ ?_ | with_reducible refine aa ?_ ?_ ?_ | with_reducible refine ae ?_ ?_ | with_reducible refine ah ?_ ?_ | with_reducible refine ai ?_ _ | (intro _) | with_reducible exact ag _ | exact af | (dsimp only))
def eP (s : List Int) (v : Int) : Option Int :=
 (itr 4096 (dX s v) 0).bind fun q0 =>
 match q0 with
 | .inl q =>
 some q
 | .inr _ =>
 some (-1)
theorem qa (s : List Int) (v : Int) : Lo (eP s v) (dR s v):=by
 unfold eP dR
 repeat' (first | with_reducible exact ot _ _ _ | with_reducible refine ad ?_ ?_ ?_ ?_ ?_ | with_reducible refine ab ?_ ?_ ?_ ?_ | with_reducible refine aa ?_ ?_ ?_ | with_reducible refine ae ?_ ?_ | with_reducible refine ah ?_ ?_ | with_reducible refine ai ?_ _ | (intro _) | with_reducible exact ag _ | exact af | (dsimp only))
def eE (s : List Int) (i : Int) (j : Int) : Option (List Int):=del s i j
theorem pJ (s : List Int) (i : Int) (j : Int) : Lo (eE s i j) (dj s i j):=by
 unfold eE dj
 repeat' (first | with_reducible refine ad ?_ ?_ ?_ ?_ ?_ | with_reducible refine ab ?_ ?_ ?_ ?_ | with_reducible refine aa ?_ ?_ ?_ | with_reducible refine ae ?_ ?_ | with_reducible refine ah ?_ ?_ | with_reducible refine ai ?_ _ | (intro _) | with_reducible exact ag _ | exact af | (dsimp only))
def oR (ids : List Int) (t : State × Int) : Option ((State × Int) ⊕ State) :=
 bif decide (t.2 < (ids.length : Int)) then
 (
  (idx ids t.2).bind fun x1 =>
  (iu t.1.Conts (fun a' => p_ a'.1 x1)).bind fun k =>
  bif decide (k < 0) then
  some t.1
  else
  (inb k t.1.Conts.length).bind fun i =>
  (t.1.Conts[i]?).bind fun x2 =>
  (sO t.1 x2.App).bind fun i1 =>
  (
   bif decide (i1 ≥ 0) then
   some x2.Master
   else
   some false).bind fun q =>
  bif q then
   (qg t.1 i1).bind fun x3 =>
   some x3
  else
   (oA t.1.Conts k (w64 (k + 1))).bind fun x4 =>
   bif decide (i1 < 0) then
   some (⟨⟨t.1.Conf.Labels,t.1.Conf.Queues⟩,t.1.Nodes,t.1.Apps,x4,t.1.Slots,t.1.Plans,t.1.Now,t.1.Epoch,t.1.Seq⟩ : State)
   else
   (inb i1 t.1.Apps.length).bind fun i2 =>
   (t.1.Apps[i2]?).bind fun x5 =>
   (
    (eP x5.Grants x1).bind fun j =>
    bif decide (j ≥ 0) then
    (eE x5.Grants j (w64 (j + 1))).bind fun x6 =>
    some (⟨x5.Id,x5.State,x5.Queue,x5.User,x5.Prio,⟨x5.Master.Mem,x5.Master.Cores⟩,x5.Asks,x5.Seen,x5.Beat,x6,x5.Kills,x5.Told,x5.Lost⟩ : App)
    else
    (app 8 x5.Kills [x1]).bind fun l =>
    some (⟨x5.Id,x5.State,x5.Queue,x5.User,x5.Prio,⟨x5.Master.Mem,x5.Master.Cores⟩,x5.Asks,x5.Seen,x5.Beat,x5.Grants,l,x5.Told,x5.Lost⟩ : App)).bind fun a =>
   (inb i1 t.1.Apps.length).bind fun i3 =>
   bif Nat.beq i3 i2 then
    (t.1.Apps[i3]?).bind fun x7 =>
    some (⟨⟨t.1.Conf.Labels,t.1.Conf.Queues⟩,t.1.Nodes,List.set t.1.Apps i3 a,x4,t.1.Slots,t.1.Plans,t.1.Now,t.1.Epoch,t.1.Seq⟩ : State)
   else
    none).bind fun s1 =>
 some (.inl (s1,w64 (t.2 + 1)))
 else
 some (.inr t.1)
theorem yy (ids : List Int) (t : State × Int) : Lo (oR ids t) (rN ids t):=by
 unfold oR rN
 repeat' (first | with_reducible refine lm _ _ _ ?_ | with_reducible exact zE _ _ | with_reducible exact xZ _ _ | with_reducible exact za _ _ | with_reducible exact yx _ _ _ | with_reducible exact qa _ _ | with_reducible exact pJ _ _ _ | with_reducible refine ad ?_ ?_ ?_ ?_ ?_ | with_reducible refine ab ?_ ?_ ?_ ?_ | with_reducible refine aa ?_ ?_ ?_ | with_reducible refine ae ?_ ?_ | with_reducible refine ah ?_ ?_ | with_reducible refine ai ?_ _ | (intro _) | with_reducible exact ag _ | exact af | (dsimp only))
def pb (s : State) (ids : List Int) : Option State :=
 (qT s).bind fun x =>
 (itr 4096 (oR ids) (x,0)).bind fun s2 =>
 (qT s2).bind fun x8 =>
 some x8
theorem vC (s : State) (ids : List Int) : Lo (pb s ids) (pz s ids):=by
 unfold pb pz
 repeat' (first | with_reducible exact B3 _ | with_reducible exact yy _ _ | with_reducible refine ad ?_ ?_ ?_ ?_ ?_ | with_reducible refine ab ?_ ?_ ?_ ?_ | with_reducible refine aa ?_ ?_ ?_ | with_reducible refine ae ?_ ?_ | with_reducible refine ah ?_ ?_ | with_reducible refine ai ?_ _ | (intro _) | with_reducible exact ag _ | exact af | (dsimp only))
def mu (x : Cont) (p : Cont) : Option Bool :=
 some (x.Id == p.Id)
theorem wW (x : Cont) (p : Cont) : Lo (mu x p) (lu x p):=by
 unfold mu lu
 repeat' (first | with_reducible refine ad ?_ ?_ ?_ ?_ ?_ | with_reducible refine ab ?_ ?_ ?_ ?_ | with_reducible refine aa ?_ ?_ ?_ | with_reducible refine ae ?_ ?_ | with_reducible refine ah ?_ ?_ | with_reducible refine ai ?_ _ | (intro _) | with_reducible exact ag _ | exact af | (dsimp only))
def oI (c : Cont) (label : Int) (now : Int) : Option Bool :=
 bif c.Label == label then
 bif c.Notice != 0 then
  some (decide ((w64 (now - c.Notice)) ≥ 3))
 else
  some false
 else
 some false
theorem yu (c : Cont) (label : Int) (now : Int) : Lo (oI c label now) (nj c label now):=by
 unfold oI nj
 repeat' (first | with_reducible refine ad ?_ ?_ ?_ ?_ ?_ | with_reducible refine ab ?_ ?_ ?_ ?_ | with_reducible refine aa ?_ ?_ ?_ | with_reducible refine ae ?_ ?_ | with_reducible refine ah ?_ ?_ | with_reducible refine ai ?_ _ | (intro _) | with_reducible exact ag _ | exact af | (dsimp only))
def lY (s : List Share) (f : (TupT fam [.st 16] → Option Bool)) (t : Int) : Option (Int ⊕ (Int ⊕ Unit)) :=
 bif decide (t < (s.length : Int)) then
 (idx s t).bind fun x =>
 (f (x,())).bind fun r =>
 bif r then
  some (.inr (.inl t))
 else
  some (.inl (w64 (t + 1)))
 else
 some (.inr (.inr ()))
theorem wz (s : List Share) (f f_' : (TupT fam [.st 16] → Option Bool)) (h_f : ∀ a,Lo (f a) (f_' a)) (t : Int) : Lo (lY s f t) (nx s f_' t):=by
 unfold lY nx
 repeat' (first | exact h_f _ | with_reducible refine ad ?_ ?_ ?_ ?_ ?_ | with_reducible refine ab ?_ ?_ ?_ ?_ | with_reducible refine aa ?_ ?_ ?_ | with_reducible refine ae ?_ ?_ | with_reducible refine ah ?_ ?_ | with_reducible refine ai ?_ _ | (intro _) | with_reducible exact ag _ | exact af | (dsimp only))
def oS (s : List Share) (f : (TupT fam [.st 16] → Option Bool)) : Option Int :=
 (itr 4096 (lY s f) 0).bind fun q0 =>
 match q0 with
 | .inl q =>
 some q
 | .inr _ =>
 some (-1)
theorem yG (s : List Share) (f f_' : (TupT fam [.st 16] → Option Bool)) (h_f : ∀ a,Lo (f a) (f_' a)) : Lo (oS s f) (nM s f_'):=by
 unfold oS nM
 repeat' (first | with_reducible refine wz _ _ _ ?_ _ | exact h_f _ | with_reducible refine ad ?_ ?_ ?_ ?_ ?_ | with_reducible refine ab ?_ ?_ ?_ ?_ | with_reducible refine aa ?_ ?_ ?_ | with_reducible refine ae ?_ ?_ | with_reducible refine ah ?_ ?_ | with_reducible refine ai ?_ _ | (intro _) | with_reducible exact ag _ | exact af | (dsimp only))
def lG (x : Share) (p : App) : Option Bool :=
 some (x.Path == p.Queue)
theorem vz (x : Share) (p : App) : Lo (lG x p) (kF x p):=by
 unfold lG kF
 repeat' (first | with_reducible refine ad ?_ ?_ ?_ ?_ ?_ | with_reducible refine ab ?_ ?_ ?_ ?_ | with_reducible refine aa ?_ ?_ ?_ | with_reducible refine ae ?_ ?_ | with_reducible refine ah ?_ ?_ | with_reducible refine ai ?_ _ | (intro _) | with_reducible exact ag _ | exact af | (dsimp only))
def ls (s : State) (c : Cont) (t : Int × Int) : Option ((Int × Int) ⊕ Int) :=
 bif decide (t.2 < (s.Conts.length : Int)) then
 (
  (idx s.Conts t.2).bind fun x2 =>
  (
  bif c.Master then
   bif x2.App == c.App then
   bif x2.Id != c.Id then
    some (x2.Label == c.Label)
   else
    some false
   else
   some false
  else
   some false).bind fun q =>
  bif q then
  let used:=w64 (t.1 - x2.Size.Mem)
  some used
  else
  some t.1).bind fun used1 =>
 some (.inl (used1,w64 (t.2 + 1)))
 else
 some (.inr t.1)
theorem vo (s : State) (c : Cont) (t : Int × Int) : Lo (ls s c t) (mP s c t):=by
 unfold ls mP
 repeat' (first | with_reducible refine ad ?_ ?_ ?_ ?_ ?_ | with_reducible refine ab ?_ ?_ ?_ ?_ | with_reducible refine aa ?_ ?_ ?_ | with_reducible refine ae ?_ ?_ | with_reducible refine ah ?_ ?_ | with_reducible refine ai ?_ _ | (intro _) | with_reducible exact ag _ | exact af | (dsimp only))
def nJ (s : State) (c : Cont) : Option Bool :=
 (pg s c.App).bind fun x =>
 (fy s x.1.Queue c.Label).bind fun x1 =>
 (itr 4096 (ls s c) (x1.Mem,0)).bind fun used2 =>
 (js s c.Label).bind fun l =>
 (oS l (fun a' => lG a'.1 x.1)).bind fun i =>
 bif decide (i ≥ 0) then
 (inb i l.length).bind fun i1 =>
 (l[i1]?).bind fun x3 =>
 some (decide (used2 > x3.Mem))
 else
 some false
theorem xI (s : State) (c : Cont) : Lo (nJ s c) (mq s c):=by
 unfold nJ mq
 repeat' (first | with_reducible exact wl _ _ | with_reducible exact kh _ _ _ | with_reducible exact vo _ _ _ | with_reducible exact nq _ _ | with_reducible refine yG _ _ _ ?_ | with_reducible exact vz _ _ | with_reducible refine ad ?_ ?_ ?_ ?_ ?_ | with_reducible refine ab ?_ ?_ ?_ ?_ | with_reducible refine aa ?_ ?_ ?_ | with_reducible refine ae ?_ ?_ | with_reducible refine ah ?_ ?_ | with_reducible refine ai ?_ _ | (intro _) | with_reducible exact ag _ | exact af | (dsimp only))
def lI (label : Int) (x1 : Cont) (s1 : State) : Option State :=
 (iu s1.Conts (fun a' => mu a'.1 x1)).bind fun i =>
 (
 bif decide (i < 0) then
  some true
 else
  (inb i s1.Conts.length).bind fun i1 =>
  (s1.Conts[i1]?).bind fun x2 =>
  (oI x2 label s1.Now).bind fun x3 =>
  some (! x3)).bind fun q =>
 bif q then
 some s1
 else
 (nJ s1 x1).bind fun x4 =>
 bif x4 then
  (pb s1 [x1.Id]).bind fun x5 =>
  some x5
 else
  (inb i s1.Conts.length).bind fun i2 =>
  (s1.Conts[i2]?).bind fun x6 =>
  some (⟨⟨s1.Conf.Labels,s1.Conf.Queues⟩,s1.Nodes,s1.Apps,List.set s1.Conts i2 (⟨x6.Id,x6.App,x6.Node,⟨x6.Size.Mem,x6.Size.Cores⟩,x6.Prio,x6.Label,x6.Master,0⟩ : Cont),s1.Slots,s1.Plans,s1.Now,s1.Epoch,s1.Seq⟩ : State)
theorem vK (label : Int) (x1 : Cont) (s1 : State) : Lo (lI label x1 s1) (n9 label x1 s1):=by
 unfold lI n9
 repeat' (first | with_reducible refine lm _ _ _ ?_ | with_reducible exact wW _ _ | with_reducible exact yu _ _ _ | with_reducible exact xI _ _ | with_reducible exact vC _ _ | with_reducible refine ad ?_ ?_ ?_ ?_ ?_ | with_reducible refine ab ?_ ?_ ?_ ?_ | with_reducible refine aa ?_ ?_ ?_ | with_reducible refine ae ?_ ?_ | with_reducible refine ah ?_ ?_ | with_reducible refine ai ?_ _ | (intro _) | with_reducible exact ag _ | exact af | (dsimp only))
def oJ (s : State) (label : Int) : Option State :=
 (kH s.Conts).bind fun x =>
 (rgB (lI label) x s).bind fun s2 =>
 some s2
theorem yM (s : State) (label : Int) : Lo (oJ s label) (nR s label):=by
 unfold oJ nR
 repeat' (first | with_reducible exact rJ _ | with_reducible exact vK _ _ _ | with_reducible refine Dr (fun _ _ => ?_) _ _ | with_reducible refine ad ?_ ?_ ?_ ?_ ?_ | with_reducible refine ab ?_ ?_ ?_ ?_ | with_reducible refine aa ?_ ?_ ?_ | with_reducible refine ae ?_ ?_ | with_reducible refine ah ?_ ?_ | with_reducible refine ai ?_ _ | (intro _) | with_reducible exact ag _ | exact af | (dsimp only))
def lR (x : Cont) (p : Int) : Option Bool :=
 some (x.Id == p)
theorem wy (x : Cont) (p : Int) : Lo (lR x p) (kG x p):=by
 unfold lR kG
 repeat' (first | with_reducible refine ad ?_ ?_ ?_ ?_ ?_ | with_reducible refine ab ?_ ?_ ?_ ?_ | with_reducible refine aa ?_ ?_ ?_ | with_reducible refine ae ?_ ?_ | with_reducible refine ah ?_ ?_ | with_reducible refine ai ?_ _ | (intro _) | with_reducible exact ag _ | exact af | (dsimp only))
def ox (s : List Cont) (f : (TupT fam [.st 7] → Option Bool)) : Option Bool :=
 (iu s f).bind fun x =>
 some (decide (x ≥ 0))
theorem yt (s : List Cont) (f f_' : (TupT fam [.st 7] → Option Bool)) (h_f : ∀ a,Lo (f a) (f_' a)) : Lo (ox s f) (nA s f_'):=by
 unfold ox nA
 repeat' (first | with_reducible refine lm _ _ _ ?_ | exact h_f _ | with_reducible refine ad ?_ ?_ ?_ ?_ ?_ | with_reducible refine ab ?_ ?_ ?_ ?_ | with_reducible refine aa ?_ ?_ ?_ | with_reducible refine ae ?_ ?_ | with_reducible refine ah ?_ ?_ | with_reducible refine ai ?_ _ | (intro _) | with_reducible exact ag _ | exact af | (dsimp only))
def lV (x : Cont) (p : Cont) : Option Bool :=
 some (x.Id == p.Id)
theorem wh (x : Cont) (p : Cont) : Lo (lV x p) (kM x p):=by
 unfold lV kM
 repeat' (first | with_reducible refine ad ?_ ?_ ?_ ?_ ?_ | with_reducible refine ab ?_ ?_ ?_ ?_ | with_reducible refine aa ?_ ?_ ?_ | with_reducible refine ae ?_ ?_ | with_reducible refine ah ?_ ?_ | with_reducible refine ai ?_ _ | (intro _) | with_reducible exact ag _ | exact af | (dsimp only))
def aD (x : Int) (y : Int) : Option Bool :=
 (d6 x).bind fun x1 =>
 bif x1 then
 (d6 y).bind fun x2 =>
 bif ! x2 then
  some true
 else
  some (decide (x < y))
 else
 some (decide (x < y))
theorem aL (x : Int) (y : Int) : Lo (aD x y) (aH x y):=by
 unfold aD aH
 repeat' (first | with_reducible exact qn _ | with_reducible refine ad ?_ ?_ ?_ ?_ ?_ | with_reducible refine ab ?_ ?_ ?_ ?_ | with_reducible refine aa ?_ ?_ ?_ | with_reducible refine ae ?_ ?_ | with_reducible refine ah ?_ ?_ | with_reducible refine ai ?_ _ | (intro _) | with_reducible exact ag _ | exact af | (dsimp only))
def bR (a : Int) (t1 : List Int × Int) : Option ((List Int × Int) ⊕ List Int) :=
 (
 bif decide (t1.2 > a) then
  (inb t1.2 t1.1.length).bind fun i =>
  (t1.1[i]?).bind fun x =>
  (inb (w64 (t1.2 - 1)) t1.1.length).bind fun i1 =>
  (t1.1[i1]?).bind fun x1 =>
  (aD x x1).bind fun x2 =>
  some x2
 else
  some false).bind fun q =>
 bif q then
 (inb (w64 (t1.2 - 1)) t1.1.length).bind fun i2 =>
 (t1.1[i2]?).bind fun x3 =>
 (inb t1.2 t1.1.length).bind fun i3 =>
 (t1.1[i3]?).bind fun x4 =>
 (inb t1.2 t1.1.length).bind fun i4 =>
 (t1.1[i4]?).bind fun x5 =>
 (inb (w64 (t1.2 - 1)) (List.set t1.1 i4 x3).length).bind fun i5 =>
 ((List.set t1.1 i4 x3)[i5]?).bind fun x6 =>
 some (.inl (List.set (List.set t1.1 i4 x3) i5 x4,w64 (t1.2 - 1)))
 else
 some (.inr t1.1)
theorem kD (a : Int) (t1 : List Int × Int) : Lo (bR a t1) (ck a t1):=by
 unfold bR ck
 repeat' (first | with_reducible exact aL _ _ | with_reducible refine ad ?_ ?_ ?_ ?_ ?_ | with_reducible refine ab ?_ ?_ ?_ ?_ | with_reducible refine aa ?_ ?_ ?_ | with_reducible refine ae ?_ ?_ | with_reducible refine ah ?_ ?_ | with_reducible refine ai ?_ _ | (intro _) | with_reducible exact ag _ | exact af | (dsimp only))
def bT (a : Int) (b : Int) (t : List Int × Int) : Option ((List Int × Int) ⊕ List Int) :=
 bif decide (t.2 < b) then
 (itr 4096 (bR a) (t.1,t.2)).bind fun data1 =>
 some (.inl (data1,w64 (t.2 + 1)))
 else
 some (.inr t.1)
theorem kC (a : Int) (b : Int) (t : List Int × Int) : Lo (bT a b t) (cm a b t):=by
 unfold bT cm
 repeat' (first | with_reducible exact kD _ _ | with_reducible refine ad ?_ ?_ ?_ ?_ ?_ | with_reducible refine ab ?_ ?_ ?_ ?_ | with_reducible refine aa ?_ ?_ ?_ | with_reducible refine ae ?_ ?_ | with_reducible refine ah ?_ ?_ | with_reducible refine ai ?_ _ | (intro _) | with_reducible exact ag _ | exact af | (dsimp only))
def cx (data : List Int) (a : Int) (b : Int) : Option (List Int) :=
 (itr 4096 (bT a b) (data,w64 (a + 1))).bind fun data2 =>
 some data2
theorem lw (data : List Int) (a : Int) (b : Int) : Lo (cx data a b) (bv data a b):=by
 unfold cx bv
 repeat' (first | with_reducible exact kC _ _ _ | with_reducible refine ad ?_ ?_ ?_ ?_ ?_ | with_reducible refine ab ?_ ?_ ?_ ?_ | with_reducible refine aa ?_ ?_ ?_ | with_reducible refine ae ?_ ?_ | with_reducible refine ah ?_ ?_ | with_reducible refine ai ?_ _ | (intro _) | with_reducible exact ag _ | exact af | (dsimp only))
def cQ (hi : Int) (first : Int) (t : List Int × Int) : Option ((List Int × Int) ⊕ (List Int ⊕ List Int)) :=
 let child:=w64 ((w64 (2 * t.2)) + 1)
 bif decide (child ≥ hi) then
 some (.inr (.inr (t.1)))
 else
 (
  (
  bif decide ((w64 (child + 1)) < hi) then
   (inb (w64 (first + child)) t.1.length).bind fun i =>
   (t.1[i]?).bind fun x =>
   (inb (w64 ((w64 (first + child)) + 1)) t.1.length).bind fun i1 =>
   (t.1[i1]?).bind fun x1 =>
   (aD x x1).bind fun x2 =>
   some x2
  else
   some false).bind fun q =>
  bif q then
  some (w64 (child + 1))
  else
  some child).bind fun child1 =>
 (inb (w64 (first + t.2)) t.1.length).bind fun i2 =>
 (t.1[i2]?).bind fun x3 =>
 (inb (w64 (first + child1)) t.1.length).bind fun i3 =>
 (t.1[i3]?).bind fun x4 =>
 (aD x3 x4).bind fun x5 =>
 bif ! x5 then
  some (.inr (.inl (t.1)))
 else
  (inb (w64 (first + child1)) t.1.length).bind fun i4 =>
  (t.1[i4]?).bind fun x6 =>
  (inb (w64 (first + t.2)) t.1.length).bind fun i5 =>
  (t.1[i5]?).bind fun x7 =>
  (inb (w64 (first + t.2)) t.1.length).bind fun i6 =>
  (t.1[i6]?).bind fun x8 =>
  (inb (w64 (first + child1)) (List.set t.1 i6 x6).length).bind fun i7 =>
  ((List.set t.1 i6 x6)[i7]?).bind fun x9 =>
  some (.inl (List.set (List.set t.1 i6 x6) i7 x7,child1))
theorem lZ (hi : Int) (first : Int) (t : List Int × Int) : Lo (cQ hi first t) (du hi first t):=by
 unfold cQ du
 repeat' (first | with_reducible exact aL _ _ | with_reducible refine ad ?_ ?_ ?_ ?_ ?_ | with_reducible refine ab ?_ ?_ ?_ ?_ | with_reducible refine aa ?_ ?_ ?_ | with_reducible refine ae ?_ ?_ | with_reducible refine ah ?_ ?_ | with_reducible refine ai ?_ _ | (intro _) | with_reducible exact ag _ | exact af | (dsimp only))
def bV (data : List Int) (lo : Int) (hi : Int) (first : Int) : Option (List Int) :=
 (itr 4096 (cQ hi first) (data,lo)).bind fun q0 =>
 match q0 with
 | .inl data1 =>
 some data1
 | .inr data2 =>
 some data2
theorem gN (data : List Int) (lo : Int) (hi : Int) (first : Int) : Lo (bV data lo hi first) (bo data lo hi first):=by
 unfold bV bo
 repeat' (first | with_reducible exact lZ _ _ _ | with_reducible refine ad ?_ ?_ ?_ ?_ ?_ | with_reducible refine ab ?_ ?_ ?_ ?_ | with_reducible refine aa ?_ ?_ ?_ | with_reducible refine ae ?_ ?_ | with_reducible refine ah ?_ ?_ | with_reducible refine ai ?_ _ | (intro _) | with_reducible exact ag _ | exact af | (dsimp only))
def cS (a : Int) (t1 : List Int × Int) : Option ((List Int × Int) ⊕ List Int) :=
 bif decide (t1.2 ≥ 0) then
 (inb (w64 (a + t1.2)) t1.1.length).bind fun i2 =>
 (t1.1[i2]?).bind fun x1 =>
 (inb a t1.1.length).bind fun i3 =>
 (t1.1[i3]?).bind fun x2 =>
 (inb a t1.1.length).bind fun i4 =>
 (t1.1[i4]?).bind fun x3 =>
 (inb (w64 (a + t1.2)) (List.set t1.1 i4 x1).length).bind fun i5 =>
 ((List.set t1.1 i4 x1)[i5]?).bind fun x4 =>
 (bV (List.set (List.set t1.1 i4 x1) i5 x2) 0 t1.2 a).bind fun x5 =>
 some (.inl (x5,w64 (t1.2 - 1)))
 else
 some (.inr t1.1)
theorem l_ (a : Int) (t1 : List Int × Int) : Lo (cS a t1) (dD a t1):=by
 unfold cS dD
 repeat' (first | with_reducible exact gN _ _ _ _ | with_reducible refine ad ?_ ?_ ?_ ?_ ?_ | with_reducible refine ab ?_ ?_ ?_ ?_ | with_reducible refine aa ?_ ?_ ?_ | with_reducible refine ae ?_ ?_ | with_reducible refine ah ?_ ?_ | with_reducible refine ai ?_ _ | (intro _) | with_reducible exact ag _ | exact af | (dsimp only))
def cU (a : Int) (b : Int) (t : List Int × Int) : Option ((List Int × Int) ⊕ List Int) :=
 bif decide (t.2 ≥ 0) then
 (bV t.1 t.2 (w64 (b - a)) a).bind fun x =>
 some (.inl (x,w64 (t.2 - 1)))
 else
 some (.inr t.1)
theorem ma (a : Int) (b : Int) (t : List Int × Int) : Lo (cU a b t) (dC a b t):=by
 unfold cU dC
 repeat' (first | with_reducible exact gN _ _ _ _ | with_reducible refine ad ?_ ?_ ?_ ?_ ?_ | with_reducible refine ab ?_ ?_ ?_ ?_ | with_reducible refine aa ?_ ?_ ?_ | with_reducible refine ae ?_ ?_ | with_reducible refine ah ?_ ?_ | with_reducible refine ai ?_ _ | (intro _) | with_reducible exact ag _ | exact af | (dsimp only))
def dP (data : List Int) (a : Int) (b : Int) : Option (List Int) :=
 let i:=w64 (Int.tdiv (w64 ((w64 (b - a)) - 1)) 2)
 (itr 4096 (cU a b) (data,i)).bind fun data1 =>
 let i1:=w64 ((w64 (b - a)) - 1)
 (itr 4096 (cS a) (data1,i1)).bind fun data2 =>
 some data2
theorem n6 (data : List Int) (a : Int) (b : Int) : Lo (dP data a b) (cA data a b):=by
 unfold dP cA
 repeat' (first | with_reducible exact ma _ _ _ | with_reducible exact l_ _ _ | with_reducible refine ad ?_ ?_ ?_ ?_ ?_ | with_reducible refine ab ?_ ?_ ?_ ?_ | with_reducible refine aa ?_ ?_ ?_ | with_reducible refine ae ?_ ?_ | with_reducible refine ah ?_ ?_ | with_reducible refine ai ?_ _ | (intro _) | with_reducible exact ag _ | exact af | (dsimp only))
def qS (x : Int) : Option Int :=
 (nS x).bind fun x1 =>
 some x1
theorem xo (x : Int) : Lo (qS x) (rY x):=by
 unfold qS rY
 repeat' (first | with_reducible exact vd _ | with_reducible refine ad ?_ ?_ ?_ ?_ ?_ | with_reducible refine ab ?_ ?_ ?_ ?_ | with_reducible refine aa ?_ ?_ ?_ | with_reducible refine ae ?_ ?_ | with_reducible refine ah ?_ ?_ | with_reducible refine ai ?_ _ | (intro _) | with_reducible exact ag _ | exact af | (dsimp only))
def gi (length : Int) : Option Int :=
 (qS (IntKind.u64.wrap length)).bind fun x =>
 (nn x).bind fun _ =>
 some (shlK .u64 1 x)
theorem rh (length : Int) : Lo (gi length) (eu length):=by
 unfold gi eu
 repeat' (first | with_reducible exact xo _ | with_reducible refine ad ?_ ?_ ?_ ?_ ?_ | with_reducible refine ab ?_ ?_ ?_ ?_ | with_reducible refine aa ?_ ?_ ?_ | with_reducible refine ae ?_ ?_ | with_reducible refine ah ?_ ?_ | with_reducible refine ai ?_ _ | (intro _) | with_reducible exact ag _ | exact af | (dsimp only))
def hG (r : Int) : Option (Int × Int) :=
 some (xorK .u64 (xorK .u64 (xorK .u64 r (shlK .u64 r 13)) (shrK .u64 (xorK .u64 r (shlK .u64 r 13)) 7)) (shlK .u64 (xorK .u64 (xorK .u64 r (shlK .u64 r 13)) (shrK .u64 (xorK .u64 r (shlK .u64 r 13)) 7)) 17),xorK .u64 (xorK .u64 (xorK .u64 r (shlK .u64 r 13)) (shrK .u64 (xorK .u64 r (shlK .u64 r 13)) 7)) (shlK .u64 (xorK .u64 (xorK .u64 r (shlK .u64 r 13)) (shrK .u64 (xorK .u64 r (shlK .u64 r 13)) 7)) 17))
theorem sy (r : Int) : Lo (hG r) (eO r):=by
 unfold hG eO
 repeat' (first | with_reducible refine ad ?_ ?_ ?_ ?_ ?_ | with_reducible refine ab ?_ ?_ ?_ ?_ | with_reducible refine aa ?_ ?_ ?_ | with_reducible refine ae ?_ ?_ | with_reducible refine ah ?_ ?_ | with_reducible refine ai ?_ _ | (intro _) | with_reducible exact ag _ | exact af | (dsimp only))
def bQ (a : Int) (b : Int) (modulus : Int) (t : List Int × Int × Int) : Option ((List Int × Int × Int) ⊕ List Int) :=
 bif decide (t.2.2 ≤ (w64 ((w64 (a + (w64 ((w64 (Int.tdiv (w64 (b - a)) 4)) * 2)))) + 1))) then
 (hG t.2.1).bind fun x =>
 let other:=w64 (andK .u64 x.1 (IntKind.u64.wrap (modulus - 1)))
 (
  bif decide (other ≥ (w64 (b - a))) then
  let other1:=w64 (other - (w64 (b - a)))
  some other1
  else
  some other).bind fun other2 =>
 (inb (w64 (a + other2)) t.1.length).bind fun i =>
 (t.1[i]?).bind fun x1 =>
 (inb t.2.2 t.1.length).bind fun i1 =>
 (t.1[i1]?).bind fun x2 =>
 (inb t.2.2 t.1.length).bind fun i2 =>
 (t.1[i2]?).bind fun x3 =>
 (inb (w64 (a + other2)) (List.set t.1 i2 x1).length).bind fun i3 =>
 ((List.set t.1 i2 x1)[i3]?).bind fun x4 =>
 some (.inl (List.set (List.set t.1 i2 x1) i3 x2,x.2,w64 (t.2.2 + 1)))
 else
 some (.inr t.1)
theorem kq (a : Int) (b : Int) (modulus : Int) (t : List Int × Int × Int) : Lo (bQ a b modulus t) (ce a b modulus t):=by
 unfold bQ ce
 repeat' (first | with_reducible exact sy _ | with_reducible refine ad ?_ ?_ ?_ ?_ ?_ | with_reducible refine ab ?_ ?_ ?_ ?_ | with_reducible refine aa ?_ ?_ ?_ | with_reducible refine ae ?_ ?_ | with_reducible refine ah ?_ ?_ | with_reducible refine ai ?_ _ | (intro _) | with_reducible exact ag _ | exact af | (dsimp only))
def cw (data : List Int) (a : Int) (b : Int) : Option (List Int) :=
 bif decide ((w64 (b - a)) ≥ 8) then
 (gi (w64 (b - a))).bind fun modulus =>
 let idx_:=w64 ((w64 (a + (w64 ((w64 (Int.tdiv (w64 (b - a)) 4)) * 2)))) - 1)
 (itr 4096 (bQ a b modulus) (data,IntKind.u64.wrap (w64 (b - a)),idx_)).bind fun data1 =>
 some data1
 else
 some data
theorem lB (data : List Int) (a : Int) (b : Int) : Lo (cw data a b) (bw data a b):=by
 unfold cw bw
 repeat' (first | with_reducible exact rh _ | with_reducible exact kq _ _ _ _ | with_reducible refine ad ?_ ?_ ?_ ?_ ?_ | with_reducible refine ab ?_ ?_ ?_ ?_ | with_reducible refine aa ?_ ?_ ?_ | with_reducible refine ae ?_ ?_ | with_reducible refine ah ?_ ?_ | with_reducible refine ai ?_ _ | (intro _) | with_reducible exact ag _ | exact af | (dsimp only))
def br (data : List Int) (a : Int) (b : Int) (swaps : Int) : Option (Int × Int × Int) :=
 (idx data b).bind fun x =>
 (idx data a).bind fun x1 =>
 (aD x x1).bind fun x2 =>
 bif x2 then
 some (b,a,w64 (swaps + 1))
 else
 some (a,b,swaps)
theorem oP (data : List Int) (a : Int) (b : Int) (swaps : Int) : Lo (br data a b swaps) (bc data a b swaps):=by
 unfold br bc
 repeat' (first | with_reducible exact aL _ _ | with_reducible refine ad ?_ ?_ ?_ ?_ ?_ | with_reducible refine ab ?_ ?_ ?_ ?_ | with_reducible refine aa ?_ ?_ ?_ | with_reducible refine ae ?_ ?_ | with_reducible refine ah ?_ ?_ | with_reducible refine ai ?_ _ | (intro _) | with_reducible exact ag _ | exact af | (dsimp only))
def cB (data : List Int) (a : Int) (b : Int) (c : Int) (swaps : Int) : Option (Int × Int) :=
 (br data a b swaps).bind fun x =>
 (br data x.2.1 c x.2.2).bind fun x1 =>
 (br data x.1 x1.1 x1.2.2).bind fun x2 =>
 some (x2.2.1,x2.2.2)
theorem jn (data : List Int) (a : Int) (b : Int) (c : Int) (swaps : Int) : Lo (cB data a b c swaps) (bM data a b c swaps):=by
 unfold cB bM
 repeat' (first | with_reducible exact oP _ _ _ _ | with_reducible refine ad ?_ ?_ ?_ ?_ ?_ | with_reducible refine ab ?_ ?_ ?_ ?_ | with_reducible refine aa ?_ ?_ ?_ | with_reducible refine ae ?_ ?_ | with_reducible refine ah ?_ ?_ | with_reducible refine ai ?_ _ | (intro _) | with_reducible exact ag _ | exact af | (dsimp only))
def aP (data : List Int) (a : Int) (swaps : Int) : Option (Int × Int) :=
 (cB data (w64 (a - 1)) a (w64 (a + 1)) swaps).bind fun x =>
 some (x.1,x.2)
theorem ll (data : List Int) (a : Int) (swaps : Int) : Lo (aP data a swaps) (aI data a swaps):=by
 unfold aP aI
 repeat' (first | with_reducible exact jn _ _ _ _ _ | with_reducible refine ad ?_ ?_ ?_ ?_ ?_ | with_reducible refine ab ?_ ?_ ?_ ?_ | with_reducible refine aa ?_ ?_ ?_ | with_reducible refine ae ?_ ?_ | with_reducible refine ah ?_ ?_ | with_reducible refine ai ?_ _ | (intro _) | with_reducible exact ag _ | exact af | (dsimp only))
def cO (data : List Int) (a : Int) (b : Int) : Option (Int × Int) :=
 let i:=w64 (a + (w64 ((w64 (Int.tdiv (w64 (b - a)) 4)) * 1)))
 let j:=w64 (a + (w64 ((w64 (Int.tdiv (w64 (b - a)) 4)) * 2)))
 let k:=w64 (a + (w64 ((w64 (Int.tdiv (w64 (b - a)) 4)) * 3)))
 (
 bif decide ((w64 (b - a)) ≥ 8) then
  (
  bif decide ((w64 (b - a)) ≥ 50) then
   (aP data i 0).bind fun i1 =>
   (aP data j i1.2).bind fun j1 =>
   (aP data k j1.2).bind fun k1 =>
   some (k1.2,i1.1,j1.1,k1.1)
  else
   some (0,i,j,k)).bind fun q =>
  (cB data q.2.1 q.2.2.1 q.2.2.2 q.1).bind fun j2 =>
  some (j2.2,j2.1)
 else
  some (0,j)).bind fun q1 =>
 bif q1.1 == 0 then
 some (q1.2,1)
 else
 bif q1.1 == 12 then
  some (q1.2,2)
 else
  some (q1.2,0)
theorem me (data : List Int) (a : Int) (b : Int) : Lo (cO data a b) (bO data a b):=by
 unfold cO bO
 repeat' (first | with_reducible exact ll _ _ _ | with_reducible exact jn _ _ _ _ _ | with_reducible refine ad ?_ ?_ ?_ ?_ ?_ | with_reducible refine ab ?_ ?_ ?_ ?_ | with_reducible refine aa ?_ ?_ ?_ | with_reducible refine ae ?_ ?_ | with_reducible refine ah ?_ ?_ | with_reducible refine ai ?_ _ | (intro _) | with_reducible exact ag _ | exact af | (dsimp only))
def b9 (t : List Int × Int × Int) : Option ((List Int × Int × Int) ⊕ List Int) :=
 bif decide (t.2.1 < t.2.2) then
 (inb t.2.2 t.1.length).bind fun i =>
 (t.1[i]?).bind fun x =>
 (inb t.2.1 t.1.length).bind fun i1 =>
 (t.1[i1]?).bind fun x1 =>
 (inb t.2.1 t.1.length).bind fun i2 =>
 (t.1[i2]?).bind fun x2 =>
 (inb t.2.2 (List.set t.1 i2 x).length).bind fun i3 =>
 ((List.set t.1 i2 x)[i3]?).bind fun x3 =>
 some (.inl (List.set (List.set t.1 i2 x) i3 x1,w64 (t.2.1 + 1),w64 (t.2.2 - 1)))
 else
 some (.inr t.1)
theorem kP (t : List Int × Int × Int) : Lo (b9 t) (cu t):=by
 unfold b9 cu
 repeat' (first | with_reducible refine ad ?_ ?_ ?_ ?_ ?_ | with_reducible refine ab ?_ ?_ ?_ ?_ | with_reducible refine aa ?_ ?_ ?_ | with_reducible refine ae ?_ ?_ | with_reducible refine ah ?_ ?_ | with_reducible refine ai ?_ _ | (intro _) | with_reducible exact ag _ | exact af | (dsimp only))
def cI (data : List Int) (a : Int) (b : Int) : Option (List Int) :=
 (itr 4096 b9 (data,a,w64 (b - 1))).bind fun data1 =>
 some data1
theorem lJ (data : List Int) (a : Int) (b : Int) : Lo (cI data a b) (bC data a b):=by
 unfold cI bC
 repeat' (first | with_reducible exact kP _ | with_reducible refine ad ?_ ?_ ?_ ?_ ?_ | with_reducible refine ab ?_ ?_ ?_ ?_ | with_reducible refine aa ?_ ?_ ?_ | with_reducible refine ae ?_ ?_ | with_reducible refine ah ?_ ?_ | with_reducible refine ai ?_ _ | (intro _) | with_reducible exact ag _ | exact af | (dsimp only))
def a7 (b : Int) (t2 : List Int × Int) : Option ((List Int × Int) ⊕ List Int) :=
 bif decide (t2.2 < b) then
 (inb t2.2 t2.1.length).bind fun i14 =>
 (t2.1[i14]?).bind fun x14 =>
 (inb (w64 (t2.2 - 1)) t2.1.length).bind fun i15 =>
 (t2.1[i15]?).bind fun x15 =>
 (aD x14 x15).bind fun x16 =>
 bif ! x16 then
  some (.inr t2.1)
 else
  (inb (w64 (t2.2 - 1)) t2.1.length).bind fun i16 =>
  (t2.1[i16]?).bind fun x17 =>
  (inb t2.2 t2.1.length).bind fun i17 =>
  (t2.1[i17]?).bind fun x18 =>
  (inb t2.2 t2.1.length).bind fun i18 =>
  (t2.1[i18]?).bind fun x19 =>
  (inb (w64 (t2.2 - 1)) (List.set t2.1 i18 x17).length).bind fun i19 =>
  ((List.set t2.1 i18 x17)[i19]?).bind fun x20 =>
  some (.inl (List.set (List.set t2.1 i18 x17) i19 x18,w64 (t2.2 + 1)))
 else
 some (.inr t2.1)
theorem gM (b : Int) (t2 : List Int × Int) : Lo (a7 b t2) (bf b t2):=by
 unfold a7 bf
 repeat' (first | with_reducible exact aL _ _ | with_reducible refine ad ?_ ?_ ?_ ?_ ?_ | with_reducible refine ab ?_ ?_ ?_ ?_ | with_reducible refine aa ?_ ?_ ?_ | with_reducible refine ae ?_ ?_ | with_reducible refine ah ?_ ?_ | with_reducible refine ai ?_ _ | (intro _) | with_reducible exact ag _ | exact af | (dsimp only))
def a_ (t1 : List Int × Int) : Option ((List Int × Int) ⊕ List Int) :=
 bif decide (t1.2 ≥ 1) then
 (inb t1.2 t1.1.length).bind fun i8 =>
 (t1.1[i8]?).bind fun x7 =>
 (inb (w64 (t1.2 - 1)) t1.1.length).bind fun i9 =>
 (t1.1[i9]?).bind fun x8 =>
 (aD x7 x8).bind fun x9 =>
 bif ! x9 then
  some (.inr t1.1)
 else
  (inb (w64 (t1.2 - 1)) t1.1.length).bind fun i10 =>
  (t1.1[i10]?).bind fun x10 =>
  (inb t1.2 t1.1.length).bind fun i11 =>
  (t1.1[i11]?).bind fun x11 =>
  (inb t1.2 t1.1.length).bind fun i12 =>
  (t1.1[i12]?).bind fun x12 =>
  (inb (w64 (t1.2 - 1)) (List.set t1.1 i12 x10).length).bind fun i13 =>
  ((List.set t1.1 i12 x10)[i13]?).bind fun x13 =>
  some (.inl (List.set (List.set t1.1 i12 x10) i13 x11,w64 (t1.2 - 1)))
 else
 some (.inr t1.1)
theorem gU (t1 : List Int × Int) : Lo (a_ t1) (bh t1):=by
 unfold a_ bh
 repeat' (first | with_reducible exact aL _ _ | with_reducible refine ad ?_ ?_ ?_ ?_ ?_ | with_reducible refine ab ?_ ?_ ?_ ?_ | with_reducible refine aa ?_ ?_ ?_ | with_reducible refine ae ?_ ?_ | with_reducible refine ah ?_ ?_ | with_reducible refine ai ?_ _ | (intro _) | with_reducible exact ag _ | exact af | (dsimp only))
def ba (b : Int) (t : List Int × Int × Int) (i : Int) : Option (Int ⊕ Int) :=
 (
 bif decide (i < b) then
  (inb i t.1.length).bind fun i1 =>
  (t.1[i1]?).bind fun x =>
  (inb (w64 (i - 1)) t.1.length).bind fun i2 =>
  (t.1[i2]?).bind fun x1 =>
  (aD x x1).bind fun x2 =>
  some (! x2)
 else
  some false).bind fun q =>
 bif q then
 some (.inl (w64 (i + 1)))
 else
 some (.inr i)
theorem gP (b : Int) (t : List Int × Int × Int) (i : Int) : Lo (ba b t i) (bi b t i):=by
 unfold ba bi
 repeat' (first | with_reducible exact aL _ _ | with_reducible refine ad ?_ ?_ ?_ ?_ ?_ | with_reducible refine ab ?_ ?_ ?_ ?_ | with_reducible refine aa ?_ ?_ ?_ | with_reducible refine ae ?_ ?_ | with_reducible refine ah ?_ ?_ | with_reducible refine ai ?_ _ | (intro _) | with_reducible exact ag _ | exact af | (dsimp only))
def a9 (a : Int) (b : Int) (t : List Int × Int × Int) : Option ((List Int × Int × Int) ⊕ ((List Int × Bool) ⊕ List Int)) :=
 bif decide (t.2.2 < 5) then
 (
  (itr 4096 (ba b t) t.2.1).bind fun i3 =>
  bif i3 == b then
  some (.inr (t.1,true))
  else
  bif decide ((w64 (b - a)) < 50) then
   some (.inr (t.1,false))
  else
   (inb (w64 (i3 - 1)) t.1.length).bind fun i4 =>
   (t.1[i4]?).bind fun x3 =>
   (inb i3 t.1.length).bind fun i5 =>
   (t.1[i5]?).bind fun x4 =>
   (inb i3 t.1.length).bind fun i6 =>
   (t.1[i6]?).bind fun x5 =>
   (inb (w64 (i3 - 1)) (List.set t.1 i6 x3).length).bind fun i7 =>
   ((List.set t.1 i6 x3)[i7]?).bind fun x6 =>
   (
   bif decide ((w64 (i3 - a)) ≥ 2) then
    (itr 4096 a_ (List.set (List.set t.1 i6 x3) i7 x4,w64 (i3 - 1))).bind fun data1 =>
    some data1
   else
    some (List.set (List.set t.1 i6 x3) i7 x4)).bind fun data2 =>
   bif decide ((w64 (b - i3)) ≥ 2) then
   (itr 4096 (a7 b) (data2,w64 (i3 + 1))).bind fun data3 =>
   some (.inl (data3,i3))
   else
   some (.inl (data2,i3)) : Option ((List Int × Int) ⊕ (List Int × Bool))).bind fun q0 =>
 match q0 with
 | .inl q1 =>
  some (.inl (q1.1,q1.2,w64 (t.2.2 + 1)))
 | .inr q2 =>
  some (.inr (.inl (q2.1,q2.2)))
 else
 some (.inr (.inr (t.1)))
theorem gT (a : Int) (b : Int) (t : List Int × Int × Int) : Lo (a9 a b t) (bg a b t):=by
 unfold a9 bg
 repeat' (first | with_reducible exact gP _ _ _ | with_reducible exact gU _ | with_reducible exact gM _ _ | with_reducible refine ad ?_ ?_ ?_ ?_ ?_ | with_reducible refine ab ?_ ?_ ?_ ?_ | with_reducible refine aa ?_ ?_ ?_ | with_reducible refine ae ?_ ?_ | with_reducible refine ah ?_ ?_ | with_reducible refine ai ?_ _ | (intro _) | with_reducible exact ag _ | exact af | (dsimp only))
def bn (data : List Int) (a : Int) (b : Int) : Option (Bool × List Int) :=
 (itr 4096 (a9 a b) (data,w64 (a + 1),0)).bind fun q0 =>
 match q0 with
 | .inl q3 =>
 some (q3.2,q3.1)
 | .inr data4 =>
 some (false,data4)
theorem iR (data : List Int) (a : Int) (b : Int) : Lo (bn data a b) (aT data a b):=by
 unfold bn aT
 repeat' (first | with_reducible exact gT _ _ _ | with_reducible refine ad ?_ ?_ ?_ ?_ ?_ | with_reducible refine ab ?_ ?_ ?_ ?_ | with_reducible refine aa ?_ ?_ ?_ | with_reducible refine ae ?_ ?_ | with_reducible refine ah ?_ ?_ | with_reducible refine ai ?_ _ | (intro _) | with_reducible exact ag _ | exact af | (dsimp only))
def bH (a : Int) (t : List Int × Int × Int) (i7 : Int) (j : Int) : Option (Int ⊕ Int) :=
 (
 bif decide (i7 ≤ j) then
  (inb a t.1.length).bind fun i8 =>
  (t.1[i8]?).bind fun x7 =>
  (inb j t.1.length).bind fun i9 =>
  (t.1[i9]?).bind fun x8 =>
  (aD x7 x8).bind fun x9 =>
  some x9
 else
  some false).bind fun q1 =>
 bif q1 then
 some (.inl (w64 (j - 1)))
 else
 some (.inr j)
theorem kb (a : Int) (t : List Int × Int × Int) (i7 : Int) (j : Int) : Lo (bH a t i7 j) (bX a t i7 j):=by
 unfold bH bX
 repeat' (first | with_reducible exact aL _ _ | with_reducible refine ad ?_ ?_ ?_ ?_ ?_ | with_reducible refine ab ?_ ?_ ?_ ?_ | with_reducible refine aa ?_ ?_ ?_ | with_reducible refine ae ?_ ?_ | with_reducible refine ah ?_ ?_ | with_reducible refine ai ?_ _ | (intro _) | with_reducible exact ag _ | exact af | (dsimp only))
def bK (a : Int) (t : List Int × Int × Int) (i4 : Int) : Option (Int ⊕ Int) :=
 (
 bif decide (i4 ≤ t.2.2) then
  (inb a t.1.length).bind fun i5 =>
  (t.1[i5]?).bind fun x4 =>
  (inb i4 t.1.length).bind fun i6 =>
  (t.1[i6]?).bind fun x5 =>
  (aD x4 x5).bind fun x6 =>
  some (! x6)
 else
  some false).bind fun q =>
 bif q then
 some (.inl (w64 (i4 + 1)))
 else
 some (.inr i4)
theorem ke (a : Int) (t : List Int × Int × Int) (i4 : Int) : Lo (bK a t i4) (bY a t i4):=by
 unfold bK bY
 repeat' (first | with_reducible exact aL _ _ | with_reducible refine ad ?_ ?_ ?_ ?_ ?_ | with_reducible refine ab ?_ ?_ ?_ ?_ | with_reducible refine aa ?_ ?_ ?_ | with_reducible refine ae ?_ ?_ | with_reducible refine ah ?_ ?_ | with_reducible refine ai ?_ _ | (intro _) | with_reducible exact ag _ | exact af | (dsimp only))
def bJ (a : Int) (t : List Int × Int × Int) : Option ((List Int × Int × Int) ⊕ ((List Int × Int))) :=
 (itr 4096 (bK a t) t.2.1).bind fun i7 =>
 (itr 4096 (bH a t i7) t.2.2).bind fun j1 =>
 bif decide (i7 > j1) then
 some (.inr (t.1,i7))
 else
 (inb j1 t.1.length).bind fun i10 =>
 (t.1[i10]?).bind fun x10 =>
 (inb i7 t.1.length).bind fun i11 =>
 (t.1[i11]?).bind fun x11 =>
 (inb i7 t.1.length).bind fun i12 =>
 (t.1[i12]?).bind fun x12 =>
 (inb j1 (List.set t.1 i12 x10).length).bind fun i13 =>
 ((List.set t.1 i12 x10)[i13]?).bind fun x13 =>
 some (.inl (List.set (List.set t.1 i12 x10) i13 x11,w64 (i7 + 1),w64 (j1 - 1)))
theorem j9 (a : Int) (t : List Int × Int × Int) : Lo (bJ a t) (b7 a t):=by
 unfold bJ b7
 repeat' (first | with_reducible exact ke _ _ _ | with_reducible exact kb _ _ _ _ | with_reducible refine ad ?_ ?_ ?_ ?_ ?_ | with_reducible refine ab ?_ ?_ ?_ ?_ | with_reducible refine aa ?_ ?_ ?_ | with_reducible refine ae ?_ ?_ | with_reducible refine ah ?_ ?_ | with_reducible refine ai ?_ _ | (intro _) | with_reducible exact ag _ | exact af | (dsimp only))
def ci (data : List Int) (a : Int) (b : Int) (pivot : Int) : Option (Int × List Int) :=
 (inb pivot data.length).bind fun i =>
 (data[i]?).bind fun x =>
 (inb a data.length).bind fun i1 =>
 (data[i1]?).bind fun x1 =>
 (inb a data.length).bind fun i2 =>
 (data[i2]?).bind fun x2 =>
 (inb pivot (List.set data i2 x).length).bind fun i3 =>
 ((List.set data i2 x)[i3]?).bind fun x3 =>
 (itr 4096 (bJ a) (List.set (List.set data i2 x) i3 x1,w64 (a + 1),w64 (b - 1))).bind fun q2 =>
 some (q2.2,q2.1)
theorem lg (data : List Int) (a : Int) (b : Int) (pivot : Int) : Lo (ci data a b pivot) (bk data a b pivot):=by
 unfold ci bk
 repeat' (first | with_reducible exact j9 _ _ | with_reducible refine ad ?_ ?_ ?_ ?_ ?_ | with_reducible refine ab ?_ ?_ ?_ ?_ | with_reducible refine aa ?_ ?_ ?_ | with_reducible refine ae ?_ ?_ | with_reducible refine ah ?_ ?_ | with_reducible refine ai ?_ _ | (intro _) | with_reducible exact ag _ | exact af | (dsimp only))
def cG (a : Int) (t : List Int × Int × Int) (i21 : Int) (j2 : Int) : Option (Int ⊕ Int) :=
 (
 bif decide (i21 ≤ j2) then
  (inb j2 t.1.length).bind fun i22 =>
  (t.1[i22]?).bind fun x21 =>
  (inb a t.1.length).bind fun i23 =>
  (t.1[i23]?).bind fun x22 =>
  (aD x21 x22).bind fun x23 =>
  some (! x23)
 else
  some false).bind fun q3 =>
 bif q3 then
 some (.inl (w64 (j2 - 1)))
 else
 some (.inr j2)
theorem lK (a : Int) (t : List Int × Int × Int) (i21 : Int) (j2 : Int) : Lo (cG a t i21 j2) (c9 a t i21 j2):=by
 unfold cG c9
 repeat' (first | with_reducible exact aL _ _ | with_reducible refine ad ?_ ?_ ?_ ?_ ?_ | with_reducible refine ab ?_ ?_ ?_ ?_ | with_reducible refine aa ?_ ?_ ?_ | with_reducible refine ae ?_ ?_ | with_reducible refine ah ?_ ?_ | with_reducible refine ai ?_ _ | (intro _) | with_reducible exact ag _ | exact af | (dsimp only))
def cE (a : Int) (t : List Int × Int × Int) (i18 : Int) : Option (Int ⊕ Int) :=
 (
 bif decide (i18 ≤ t.2.2) then
  (inb i18 t.1.length).bind fun i19 =>
  (t.1[i19]?).bind fun x18 =>
  (inb a t.1.length).bind fun i20 =>
  (t.1[i20]?).bind fun x19 =>
  (aD x18 x19).bind fun x20 =>
  some x20
 else
  some false).bind fun q2 =>
 bif q2 then
 some (.inl (w64 (i18 + 1)))
 else
 some (.inr i18)
theorem lW (a : Int) (t : List Int × Int × Int) (i18 : Int) : Lo (cE a t i18) (dg a t i18):=by
 unfold cE dg
 repeat' (first | with_reducible exact aL _ _ | with_reducible refine ad ?_ ?_ ?_ ?_ ?_ | with_reducible refine ab ?_ ?_ ?_ ?_ | with_reducible refine aa ?_ ?_ ?_ | with_reducible refine ae ?_ ?_ | with_reducible refine ah ?_ ?_ | with_reducible refine ai ?_ _ | (intro _) | with_reducible exact ag _ | exact af | (dsimp only))
def cH (a : Int) (t : List Int × Int × Int) : Option ((List Int × Int × Int) ⊕ ((List Int × Int))) :=
 (itr 4096 (cE a t) t.2.1).bind fun i21 =>
 (itr 4096 (cG a t i21) t.2.2).bind fun j3 =>
 bif decide (i21 > j3) then
 some (.inr (t.1,j3))
 else
 (inb j3 t.1.length).bind fun i24 =>
 (t.1[i24]?).bind fun x24 =>
 (inb i21 t.1.length).bind fun i25 =>
 (t.1[i25]?).bind fun x25 =>
 (inb i21 t.1.length).bind fun i26 =>
 (t.1[i26]?).bind fun x26 =>
 (inb j3 (List.set t.1 i26 x24).length).bind fun i27 =>
 ((List.set t.1 i26 x24)[i27]?).bind fun x27 =>
 some (.inl (List.set (List.set t.1 i26 x24) i27 x25,w64 (i21 + 1),w64 (j3 - 1)))
theorem lO (a : Int) (t : List Int × Int × Int) : Lo (cH a t) (df a t):=by
 unfold cH df
 repeat' (first | with_reducible exact lW _ _ _ | with_reducible exact lK _ _ _ _ | with_reducible refine ad ?_ ?_ ?_ ?_ ?_ | with_reducible refine ab ?_ ?_ ?_ ?_ | with_reducible refine aa ?_ ?_ ?_ | with_reducible refine ae ?_ ?_ | with_reducible refine ah ?_ ?_ | with_reducible refine ai ?_ _ | (intro _) | with_reducible exact ag _ | exact af | (dsimp only))
def cF (data : List Int) (a : Int) (x : Int) (x1 : Int) (i2 : Nat) (i3 : Nat) (i7 : Int) (j : Int) : Option (Int ⊕ Int) :=
 (
 bif decide (i7 ≤ j) then
  (inb j (List.set (List.set data i2 x) i3 x1).length).bind fun i8 =>
  ((List.set (List.set data i2 x) i3 x1)[i8]?).bind fun x7 =>
  (inb a (List.set (List.set data i2 x) i3 x1).length).bind fun i9 =>
  ((List.set (List.set data i2 x) i3 x1)[i9]?).bind fun x8 =>
  (aD x7 x8).bind fun x9 =>
  some (! x9)
 else
  some false).bind fun q1 =>
 bif q1 then
 some (.inl (w64 (j - 1)))
 else
 some (.inr j)
theorem lQ (data : List Int) (a : Int) (x : Int) (x1 : Int) (i2 : Nat) (i3 : Nat) (i7 : Int) (j : Int) : Lo (cF data a x x1 i2 i3 i7 j) (da data a x x1 i2 i3 i7 j):=by
 unfold cF da
 repeat' (first | with_reducible exact aL _ _ | with_reducible refine ad ?_ ?_ ?_ ?_ ?_ | with_reducible refine ab ?_ ?_ ?_ ?_ | with_reducible refine aa ?_ ?_ ?_ | with_reducible refine ae ?_ ?_ | with_reducible refine ah ?_ ?_ | with_reducible refine ai ?_ _ | (intro _) | with_reducible exact ag _ | exact af | (dsimp only))
def cL (data : List Int) (a : Int) (b : Int) (x : Int) (x1 : Int) (i2 : Nat) (i3 : Nat) (i4 : Int) : Option (Int ⊕ Int) :=
 (
 bif decide (i4 ≤ (w64 (b - 1))) then
  (inb i4 (List.set (List.set data i2 x) i3 x1).length).bind fun i5 =>
  ((List.set (List.set data i2 x) i3 x1)[i5]?).bind fun x4 =>
  (inb a (List.set (List.set data i2 x) i3 x1).length).bind fun i6 =>
  ((List.set (List.set data i2 x) i3 x1)[i6]?).bind fun x5 =>
  (aD x4 x5).bind fun x6 =>
  some x6
 else
  some false).bind fun q =>
 bif q then
 some (.inl (w64 (i4 + 1)))
 else
 some (.inr i4)
theorem lF (data : List Int) (a : Int) (b : Int) (x : Int) (x1 : Int) (i2 : Nat) (i3 : Nat) (i4 : Int) : Lo (cL data a b x x1 i2 i3 i4) (c_ data a b x x1 i2 i3 i4):=by
 unfold cL c_
 repeat' (first | with_reducible exact aL _ _ | with_reducible refine ad ?_ ?_ ?_ ?_ ?_ | with_reducible refine ab ?_ ?_ ?_ ?_ | with_reducible refine aa ?_ ?_ ?_ | with_reducible refine ae ?_ ?_ | with_reducible refine ah ?_ ?_ | with_reducible refine ai ?_ _ | (intro _) | with_reducible exact ag _ | exact af | (dsimp only))
def dw (data : List Int) (a : Int) (b : Int) (pivot : Int) : Option (Int × Bool × List Int) :=
 (inb pivot data.length).bind fun i =>
 (data[i]?).bind fun x =>
 (inb a data.length).bind fun i1 =>
 (data[i1]?).bind fun x1 =>
 (inb a data.length).bind fun i2 =>
 (data[i2]?).bind fun x2 =>
 (inb pivot (List.set data i2 x).length).bind fun i3 =>
 ((List.set data i2 x)[i3]?).bind fun x3 =>
 (itr 4096 (cL data a b x x1 i2 i3) (w64 (a + 1))).bind fun i7 =>
 (itr 4096 (cF data a x x1 i2 i3 i7) (w64 (b - 1))).bind fun j1 =>
 bif decide (i7 > j1) then
 (inb a (List.set (List.set data i2 x) i3 x1).length).bind fun i10 =>
 ((List.set (List.set data i2 x) i3 x1)[i10]?).bind fun x10 =>
 (inb j1 (List.set (List.set data i2 x) i3 x1).length).bind fun i11 =>
 ((List.set (List.set data i2 x) i3 x1)[i11]?).bind fun x11 =>
 (inb j1 (List.set (List.set data i2 x) i3 x1).length).bind fun i12 =>
 ((List.set (List.set data i2 x) i3 x1)[i12]?).bind fun x12 =>
 (inb a (List.set (List.set (List.set data i2 x) i3 x1) i12 x10).length).bind fun i13 =>
 ((List.set (List.set (List.set data i2 x) i3 x1) i12 x10)[i13]?).bind fun x13 =>
 some (j1,true,List.set (List.set (List.set (List.set data i2 x) i3 x1) i12 x10) i13 x11)
 else
 (inb j1 (List.set (List.set data i2 x) i3 x1).length).bind fun i14 =>
 ((List.set (List.set data i2 x) i3 x1)[i14]?).bind fun x14 =>
 (inb i7 (List.set (List.set data i2 x) i3 x1).length).bind fun i15 =>
 ((List.set (List.set data i2 x) i3 x1)[i15]?).bind fun x15 =>
 (inb i7 (List.set (List.set data i2 x) i3 x1).length).bind fun i16 =>
 ((List.set (List.set data i2 x) i3 x1)[i16]?).bind fun x16 =>
 (inb j1 (List.set (List.set (List.set data i2 x) i3 x1) i16 x14).length).bind fun i17 =>
 ((List.set (List.set (List.set data i2 x) i3 x1) i16 x14)[i17]?).bind fun x17 =>
 (itr 4096 (cH a) (List.set (List.set (List.set (List.set data i2 x) i3 x1) i16 x14) i17 x15,w64 (i7 + 1),w64 (j1 - 1))).bind fun q4 =>
 (inb a q4.1.length).bind fun i28 =>
 (q4.1[i28]?).bind fun x28 =>
 (inb q4.2 q4.1.length).bind fun i29 =>
 (q4.1[i29]?).bind fun x29 =>
 (inb q4.2 q4.1.length).bind fun i30 =>
 (q4.1[i30]?).bind fun x30 =>
 (inb a (List.set q4.1 i30 x28).length).bind fun i31 =>
 ((List.set q4.1 i30 x28)[i31]?).bind fun x31 =>
 some (q4.2,false,List.set (List.set q4.1 i30 x28) i31 x29)
theorem mZ (data : List Int) (a : Int) (b : Int) (pivot : Int) : Lo (dw data a b pivot) (cg data a b pivot):=by
 unfold dw cg
 repeat' (first | with_reducible exact lF _ _ _ _ _ _ _ _ | with_reducible exact lQ _ _ _ _ _ _ _ _ | with_reducible exact lO _ _ | with_reducible refine ad ?_ ?_ ?_ ?_ ?_ | with_reducible refine ab ?_ ?_ ?_ ?_ | with_reducible refine aa ?_ ?_ ?_ | with_reducible refine ae ?_ ?_ | with_reducible refine ah ?_ ?_ | with_reducible refine ai ?_ _ | (intro _) | with_reducible exact ag _ | exact af | (dsimp only))
def cJ (self : (List Int) → Int → Int → Int → Option (List Int)) (t : List Int × Int × Int × Int × Bool × Bool) : Option ((List Int × Int × Int × Int × Bool × Bool) ⊕ List Int) :=
 let length:=w64 (t.2.2.1 - t.2.1)
 bif decide (length ≤ 12) then
 (cx t.1 t.2.1 t.2.2.1).bind fun x =>
 some (.inr x)
 else
 bif t.2.2.2.1 == 0 then
  (dP t.1 t.2.1 t.2.2.1).bind fun x1 =>
  some (.inr x1)
 else
  (
  bif ! t.2.2.2.2.1 then
   (cw t.1 t.2.1 t.2.2.1).bind fun x2 =>
   some (x2,w64 (t.2.2.2.1 - 1))
  else
   some (t.1,t.2.2.2.1)).bind fun q =>
  (cO q.1 t.2.1 t.2.2.1).bind fun x3 =>
  (
  bif x3.2 == 2 then
   (cI q.1 t.2.1 t.2.2.1).bind fun x4 =>
   let pivot:=w64 ((w64 (t.2.2.1 - 1)) - (w64 (x3.1 - t.2.1)))
   some (x4,pivot,1)
  else
   some (q.1,x3.1,x3.2)).bind fun q1 =>
  (
  (
   bif t.2.2.2.2.1 then
   bif t.2.2.2.2.2 then
    some (q1.2.2 == 1)
   else
    some false
   else
   some false).bind fun q2 =>
  bif q2 then
   (bn q1.1 t.2.1 t.2.2.1).bind fun x5 =>
   bif x5.1 then
   some (.inr (x5.2))
   else
   some (.inl (x5.2))
  else
   some (.inl (q1.1)) : Option (List Int ⊕ List Int)).bind fun q0 =>
  match q0 with
  | .inl data1 =>
  (
   bif decide (t.2.1 > 0) then
   (inb (w64 (t.2.1 - 1)) data1.length).bind fun i =>
   (data1[i]?).bind fun x6 =>
   (inb q1.2.1 data1.length).bind fun i1 =>
   (data1[i1]?).bind fun x7 =>
   (aD x6 x7).bind fun x8 =>
   some (! x8)
   else
   some false).bind fun q3 =>
  bif q3 then
   (ci data1 t.2.1 t.2.2.1 q1.2.1).bind fun mid =>
   some (.inl (mid.2,mid.1,t.2.2.1,q.2,t.2.2.2.2.1,t.2.2.2.2.2))
  else
   (dw data1 t.2.1 t.2.2.1 q1.2.1).bind fun x9 =>
   let leftLen:=w64 (x9.1 - t.2.1)
   let rightLen:=w64 (t.2.2.1 - x9.1)
   bif decide (leftLen < rightLen) then
   let wasBalanced:=decide (leftLen ≥ (w64 (Int.tdiv length 8)))
   (self x9.2.2 t.2.1 x9.1 q.2).bind fun x10 =>
   some (.inl (x10,w64 (x9.1 + 1),t.2.2.1,q.2,wasBalanced,x9.2.1))
   else
   let wasBalanced1:=decide (rightLen ≥ (w64 (Int.tdiv length 8)))
   (self x9.2.2 (w64 (x9.1 + 1)) t.2.2.1 q.2).bind fun x11 =>
   some (.inl (x11,t.2.1,x9.1,q.2,wasBalanced1,x9.2.1))
  | .inr data2 =>
  some (.inr data2)
theorem lL (self self_' : (List Int) → Int → Int → Int → Option (List Int)) (h_self : ∀ (a0 : (List Int)) (a1 : Int) (a2 : Int) (a3 : Int),Lo (self a0 a1 a2 a3) (self_' a0 a1 a2 a3)) (t : List Int × Int × Int × Int × Bool × Bool) : Lo (cJ self t) (de self_' t):=by
 unfold cJ de
 repeat' (first | with_reducible exact lw _ _ _ | with_reducible exact n6 _ _ _ | with_reducible exact lB _ _ _ | with_reducible exact me _ _ _ | with_reducible exact lJ _ _ _ | with_reducible exact iR _ _ _ | with_reducible exact aL _ _ | with_reducible exact lg _ _ _ _ | with_reducible exact mZ _ _ _ _ | with_reducible refine h_self _ _ _ _ | with_reducible refine ad ?_ ?_ ?_ ?_ ?_ | with_reducible refine ab ?_ ?_ ?_ ?_ | with_reducible refine aa ?_ ?_ ?_ | with_reducible refine ae ?_ ?_ | with_reducible refine ah ?_ ?_ | with_reducible refine ai ?_ _ | (intro _) | with_reducible exact ag _ | exact af | (dsimp only))
def dn (self : (List Int) → Int → Int → Int → Option (List Int)) (data : List Int) (a : Int) (b : Int) (limit : Int) : Option (List Int) :=
 (itr 4096 (cJ self) (data,a,b,limit,true,true)).bind fun data3 =>
 some data3
theorem mY (self self_' : (List Int) → Int → Int → Int → Option (List Int)) (h_self : ∀ (a0 : (List Int)) (a1 : Int) (a2 : Int) (a3 : Int),Lo (self a0 a1 a2 a3) (self_' a0 a1 a2 a3)) (data : List Int) (a : Int) (b : Int) (limit : Int) : Lo (dn self data a b limit) (dY self_' data a b limit):=by
 unfold dn dY
 repeat' (first | with_reducible refine lL _ _ ?_ _ | with_reducible refine h_self _ _ _ _ | with_reducible refine ad ?_ ?_ ?_ ?_ ?_ | with_reducible refine ab ?_ ?_ ?_ ?_ | with_reducible refine aa ?_ ?_ ?_ | with_reducible refine ae ?_ ?_ | with_reducible refine ah ?_ ?_ | with_reducible refine ai ?_ _ | (intro _) | with_reducible exact ag _ | exact af | (dsimp only))
def bP : Nat → (List Int) → Int → Int → Int → Option (List Int)
 | 0 => fun _ _ _ _ => none
 | n + 1 => dn (bP n)
theorem f_ : ∀ (n : Nat),∀ (a0 : List Int) (a1 : Int) (a2 : Int) (a3 : Int),Lo (bP n a0 a1 a2 a3) (bj n a0 a1 a2 a3)
 | 0 => fun _ _ _ _ => af
 | n + 1 => fun a0 a1 a2 a3 => mY (bP n) (bj n) (f_ n) a0 a1 a2 a3
def d4 (a0 : List Int) (a1 : Int) (a2 : Int) (a3 : Int) : Option (List Int):=bP 64 a0 a1 a2 a3
theorem ou (a0 : List Int) (a1 : Int) (a2 : Int) (a3 : Int) : Lo (d4 a0 a1 a2 a3) (cN a0 a1 a2 a3):=by
 unfold d4 cN
 repeat' (first | with_reducible refine f_ _ _ _ _ _ | with_reducible refine ad ?_ ?_ ?_ ?_ ?_ | with_reducible refine ab ?_ ?_ ?_ ?_ | with_reducible refine aa ?_ ?_ ?_ | with_reducible refine ae ?_ ?_ | with_reducible refine ah ?_ ?_ | with_reducible refine ai ?_ _ | (intro _) | with_reducible exact ag _ | exact af | (dsimp only))
def fD (x : List Int) : Option (List Int) :=
 (qS (IntKind.u64.wrap (x.length : Int))).bind fun x1 =>
 (d4 x 0 (x.length : Int) x1).bind fun x2 =>
 some x2
theorem qt (x : List Int) : Lo (fD x) (d8 x):=by
 unfold fD d8
 repeat' (first | with_reducible exact xo _ | with_reducible exact ou _ _ _ _ | with_reducible refine ad ?_ ?_ ?_ ?_ ?_ | with_reducible refine ab ?_ ?_ ?_ ?_ | with_reducible refine aa ?_ ?_ ?_ | with_reducible refine ae ?_ ?_ | with_reducible refine ah ?_ ?_ | with_reducible refine ai ?_ _ | (intro _) | with_reducible exact ag _ | exact af | (dsimp only))
def kT (s : State) (t3 : State) (t4 : List Int × Int) : Option ((List Int × Int) ⊕ List Int) :=
 bif decide (t4.2 < (s.Conts.length : Int)) then
 (
  (idx s.Conts t4.2).bind fun x5 =>
  (ox t3.Conts (fun a' => lV a'.1 x5)).bind fun x6 =>
  bif ! x6 then
  (app 8 t4.1 [x5.Id]).bind fun l =>
  some l
  else
  some t4.1).bind fun gone =>
 some (.inl (gone,w64 (t4.2 + 1)))
 else
 some (.inr t4.1)
theorem vr (s : State) (t3 : State) (t4 : List Int × Int) : Lo (kT s t3 t4) (mE s t3 t4):=by
 unfold kT mE
 repeat' (first | with_reducible refine yt _ _ _ ?_ | with_reducible exact wh _ _ | with_reducible refine ad ?_ ?_ ?_ ?_ ?_ | with_reducible refine ab ?_ ?_ ?_ ?_ | with_reducible refine aa ?_ ?_ ?_ | with_reducible refine ae ?_ ?_ | with_reducible refine ah ?_ ?_ | with_reducible refine ai ?_ _ | (intro _) | with_reducible exact ag _ | exact af | (dsimp only))
def kY (x2 : List Int) (t1 : State × Int) : Option ((State × Int) ⊕ State) :=
 bif decide (t1.2 < (x2.length : Int)) then
 (inb t1.2 x2.length).bind fun i =>
 (x2[i]?).bind fun x3 =>
 (iu t1.1.Conts (fun a' => lR a'.1 x3)).bind fun i1 =>
 (inb i1 t1.1.Conts.length).bind fun i2 =>
 (t1.1.Conts[i2]?).bind fun x4 =>
 some (.inl ((⟨⟨t1.1.Conf.Labels,t1.1.Conf.Queues⟩,t1.1.Nodes,t1.1.Apps,List.set t1.1.Conts i2 (⟨x4.Id,x4.App,x4.Node,⟨x4.Size.Mem,x4.Size.Cores⟩,x4.Prio,x4.Label,x4.Master,imax t1.1.Now 1⟩ : Cont),t1.1.Slots,t1.1.Plans,t1.1.Now,t1.1.Epoch,t1.1.Seq⟩ : State),w64 (t1.2 + 1)))
 else
 some (.inr t1.1)
theorem vj (x2 : List Int) (t1 : State × Int) : Lo (kY x2 t1) (mr x2 t1):=by
 unfold kY mr
 repeat' (first | with_reducible refine lm _ _ _ ?_ | with_reducible exact wy _ _ | with_reducible refine ad ?_ ?_ ?_ ?_ ?_ | with_reducible refine ab ?_ ?_ ?_ ?_ | with_reducible refine aa ?_ ?_ ?_ | with_reducible refine ae ?_ ?_ | with_reducible refine ah ?_ ?_ | with_reducible refine ai ?_ _ | (intro _) | with_reducible exact ag _ | exact af | (dsimp only))
def lp (s : State) (t : State × Int) : Option ((State × Int) ⊕ State) :=
 bif decide (t.2 < (s.Conf.Labels.length : Int)) then
 (oJ t.1 t.2).bind fun x1 =>
 (lz x1 t.2).bind fun x2 =>
 (itr 4096 (kY x2) (x1,0)).bind fun t2 =>
 some (.inl (t2,w64 (t.2 + 1)))
 else
 some (.inr t.1)
theorem vl (s : State) (t : State × Int) : Lo (lp s t) (my s t):=by
 unfold lp my
 repeat' (first | with_reducible exact yM _ _ | with_reducible exact sW _ _ | with_reducible exact vj _ _ | with_reducible refine ad ?_ ?_ ?_ ?_ ?_ | with_reducible refine ab ?_ ?_ ?_ ?_ | with_reducible refine aa ?_ ?_ ?_ | with_reducible refine ae ?_ ?_ | with_reducible refine ah ?_ ?_ | with_reducible refine ai ?_ _ | (intro _) | with_reducible exact ag _ | exact af | (dsimp only))
def dv (s : State) : Option (State × List Int) :=
 (pb s []).bind fun x =>
 (itr 4096 (lp s) (x,0)).bind fun t3 =>
 (itr 4096 (kT s t3) ([],0)).bind fun gone1 =>
 (fD gone1).bind fun x7 =>
 some (t3,x7)
theorem rP (s : State) : Lo (dv s) (dJ s):=by
 unfold dv dJ
 repeat' (first | with_reducible exact vC _ _ | with_reducible exact vl _ _ | with_reducible exact vr _ _ _ | with_reducible exact qt _ | with_reducible refine ad ?_ ?_ ?_ ?_ ?_ | with_reducible refine ab ?_ ?_ ?_ ?_ | with_reducible refine aa ?_ ?_ ?_ | with_reducible refine ae ?_ ?_ | with_reducible refine ah ?_ ?_ | with_reducible refine ai ?_ _ | (intro _) | with_reducible exact ag _ | exact af | (dsimp only))
def g3 (x2 : Queue) (x3 : Queue) (k : Int) : Option (Int ⊕ (Bool ⊕ Unit)) :=
 bif decide (k < (x2.Caps.length : Int)) then
 (idx x2.Caps k).bind fun x4 =>
 (idx x3.Caps k).bind fun x5 =>
 bif ! ((x4.Least == x5.Least) && (x4.Most == x5.Most)) then
  some (.inr (.inl false))
 else
  some (.inl (w64 (k + 1)))
 else
 some (.inr (.inr ()))
theorem sr (x2 : Queue) (x3 : Queue) (k : Int) : Lo (g3 x2 x3 k) (jL x2 x3 k):=by
 unfold g3 jL
 repeat' (first | with_reducible refine ad ?_ ?_ ?_ ?_ ?_ | with_reducible refine ab ?_ ?_ ?_ ?_ | with_reducible refine aa ?_ ?_ ?_ | with_reducible refine ae ?_ ?_ | with_reducible refine ah ?_ ?_ | with_reducible refine ai ?_ _ | (intro _) | with_reducible exact ag _ | exact af | (dsimp only))
def ii (a : Conf) (b : Conf) (i1 : Int) : Option (Int ⊕ (Bool ⊕ Unit)) :=
 bif decide (i1 < (a.Queues.length : Int)) then
 (idx a.Queues i1).bind fun x2 =>
 (idx b.Queues i1).bind fun x3 =>
 (
  bif ! (x2.Path == x3.Path) then
  some true
  else
  bif x2.User != x3.User then
   some true
  else
   some ((x2.Caps.length : Int) != (x3.Caps.length : Int))).bind fun q2 =>
 bif q2 then
  some (.inr (.inl false))
 else
  (itr 4096 (g3 x2 x3) 0).bind fun q0 =>
  match q0 with
  | .inl q3 =>
  some (.inr (.inl q3))
  | .inr _ =>
  some (.inl (w64 (i1 + 1)))
 else
 some (.inr (.inr ()))
theorem sw (a : Conf) (b : Conf) (i1 : Int) : Lo (ii a b i1) (jX a b i1):=by
 unfold ii jX
 repeat' (first | with_reducible exact sr _ _ _ | with_reducible refine ad ?_ ?_ ?_ ?_ ?_ | with_reducible refine ab ?_ ?_ ?_ ?_ | with_reducible refine aa ?_ ?_ ?_ | with_reducible refine ae ?_ ?_ | with_reducible refine ah ?_ ?_ | with_reducible refine ai ?_ _ | (intro _) | with_reducible exact ag _ | exact af | (dsimp only))
def hH (a : Conf) (b : Conf) (i : Int) : Option (Int ⊕ (Bool ⊕ Unit)) :=
 bif decide (i < (a.Labels.length : Int)) then
 (idx a.Labels i).bind fun x =>
 (idx b.Labels i).bind fun x1 =>
 bif ! (x == x1) then
  some (.inr (.inl false))
 else
  some (.inl (w64 (i + 1)))
 else
 some (.inr (.inr ()))
theorem so (a : Conf) (b : Conf) (i : Int) : Lo (hH a b i) (jY a b i):=by
 unfold hH jY
 repeat' (first | with_reducible refine ad ?_ ?_ ?_ ?_ ?_ | with_reducible refine ab ?_ ?_ ?_ ?_ | with_reducible refine aa ?_ ?_ ?_ | with_reducible refine ae ?_ ?_ | with_reducible refine ah ?_ ?_ | with_reducible refine ai ?_ _ | (intro _) | with_reducible exact ag _ | exact af | (dsimp only))
def kz (a : Conf) (b : Conf) : Option Bool :=
 (
 bif (a.Labels.length : Int) != (b.Labels.length : Int) then
  some true
 else
  some ((a.Queues.length : Int) != (b.Queues.length : Int))).bind fun q =>
 bif q then
 some false
 else
 (itr 4096 (hH a b) 0).bind fun q0 =>
 match q0 with
 | .inl q1 =>
  some q1
 | .inr _ =>
  (itr 4096 (ii a b) 0).bind fun q0 =>
  match q0 with
  | .inl q4 =>
  some q4
  | .inr _ =>
  some true
theorem uL (a : Conf) (b : Conf) : Lo (kz a b) (iK a b):=by
 unfold kz iK
 repeat' (first | with_reducible exact so _ _ _ | with_reducible exact sw _ _ _ | with_reducible refine ad ?_ ?_ ?_ ?_ ?_ | with_reducible refine ab ?_ ?_ ?_ ?_ | with_reducible refine aa ?_ ?_ ?_ | with_reducible refine ae ?_ ?_ | with_reducible refine ah ?_ ?_ | with_reducible refine ai ?_ _ | (intro _) | with_reducible exact ag _ | exact af | (dsimp only))
def gk (a : List Int) (b : List Int) (i : Int) : Option (Int ⊕ (Bool ⊕ Unit)) :=
 bif decide (i < (a.length : Int)) then
 (idx a i).bind fun x =>
 (idx b i).bind fun x1 =>
 bif x != x1 then
  some (.inr (.inl false))
 else
  some (.inl (w64 (i + 1)))
 else
 some (.inr (.inr ()))
theorem rA (a : List Int) (b : List Int) (i : Int) : Lo (gk a b i) (jl a b i):=by
 unfold gk jl
 repeat' (first | with_reducible refine ad ?_ ?_ ?_ ?_ ?_ | with_reducible refine ab ?_ ?_ ?_ ?_ | with_reducible refine aa ?_ ?_ ?_ | with_reducible refine ae ?_ ?_ | with_reducible refine ah ?_ ?_ | with_reducible refine ai ?_ _ | (intro _) | with_reducible exact ag _ | exact af | (dsimp only))
def co (a : List Int) (b : List Int) : Option Bool :=
 bif (a.length : Int) != (b.length : Int) then
 some false
 else
 (itr 4096 (gk a b) 0).bind fun q0 =>
 match q0 with
 | .inl q =>
  some q
 | .inr _ =>
  some true
theorem tY (a : List Int) (b : List Int) : Lo (co a b) (b_ a b):=by
 unfold co b_
 repeat' (first | with_reducible exact rA _ _ _ | with_reducible refine ad ?_ ?_ ?_ ?_ ?_ | with_reducible refine ab ?_ ?_ ?_ ?_ | with_reducible refine aa ?_ ?_ ?_ | with_reducible refine ae ?_ ?_ | with_reducible refine ah ?_ ?_ | with_reducible refine ai ?_ _ | (intro _) | with_reducible exact ag _ | exact af | (dsimp only))
def iz (a : App) (b : App) (i : Int) : Option (Int ⊕ (Bool ⊕ Unit)) :=
 bif decide (i < (a.Asks.length : Int)) then
 (idx a.Asks i).bind fun x =>
 (idx b.Asks i).bind fun x1 =>
 bif ! ((x.Prio == x1.Prio) && ((x.Label == x1.Label) && (((x.Size.Mem == x1.Size.Mem) && (x.Size.Cores == x1.Size.Cores)) && ((x.Count == x1.Count) && ((x.Node == x1.Node) && ((x.Rack == x1.Rack) && (x.Missed == x1.Missed))))))) then
  some (.inr (.inl false))
 else
  some (.inl (w64 (i + 1)))
 else
 some (.inr (.inr ()))
theorem sC (a : App) (b : App) (i : Int) : Lo (iz a b i) (j8 a b i):=by
 unfold iz j8
 repeat' (first | with_reducible refine ad ?_ ?_ ?_ ?_ ?_ | with_reducible refine ab ?_ ?_ ?_ ?_ | with_reducible refine aa ?_ ?_ ?_ | with_reducible refine ae ?_ ?_ | with_reducible refine ah ?_ ?_ | with_reducible refine ai ?_ _ | (intro _) | with_reducible exact ag _ | exact af | (dsimp only))
def ko (a : App) (b : App) : Option Bool :=
 (
 bif a.Id != b.Id then
  some true
 else
  bif a.State != b.State then
  some true
  else
  bif ! (a.Queue == b.Queue) then
   some true
  else
   bif a.User != b.User then
   some true
   else
   bif a.Prio != b.Prio then
    some true
   else
    bif ! ((a.Master.Mem == b.Master.Mem) && (a.Master.Cores == b.Master.Cores)) then
    some true
    else
    bif a.Seen != b.Seen then
     some true
    else
     bif a.Beat != b.Beat then
     some true
     else
     some ((a.Asks.length : Int) != (b.Asks.length : Int))).bind fun q =>
 bif q then
 some false
 else
 (itr 4096 (iz a b) 0).bind fun q0 =>
 match q0 with
 | .inl q1 =>
  some q1
 | .inr _ =>
  (co a.Grants b.Grants).bind fun x2 =>
  bif x2 then
  (co a.Kills b.Kills).bind fun x3 =>
  bif x3 then
   (co a.Told b.Told).bind fun x4 =>
   bif x4 then
   (co a.Lost b.Lost).bind fun x5 =>
   some x5
   else
   some false
  else
   some false
  else
  some false
theorem uE (a : App) (b : App) : Lo (ko a b) (iG a b):=by
 unfold ko iG
 repeat' (first | with_reducible exact sC _ _ _ | with_reducible exact tY _ _ | with_reducible refine ad ?_ ?_ ?_ ?_ ?_ | with_reducible refine ab ?_ ?_ ?_ ?_ | with_reducible refine aa ?_ ?_ ?_ | with_reducible refine ae ?_ ?_ | with_reducible refine ah ?_ ?_ | with_reducible refine ai ?_ _ | (intro _) | with_reducible exact ag _ | exact af | (dsimp only))
def gb (a : State) (b : State) (t4 : Bool × Int) : Option ((Bool × Int) ⊕ Bool) :=
 bif decide (t4.2 < (a.Plans.length : Int)) then
 (
  bif t4.1 then
  (idx a.Plans t4.2).bind fun x10 =>
  (idx b.Plans t4.2).bind fun x11 =>
  let ok11:=(x10.Id == x11.Id) && ((x10.Label == x11.Label) && ((x10.From == x11.From) && ((x10.Until == x11.Until) && ((x10.Need.Mem == x11.Need.Mem) && (x10.Need.Cores == x11.Need.Cores)))))
  some ok11
  else
  some false).bind fun ok12 =>
 some (.inl (ok12,w64 (t4.2 + 1)))
 else
 some (.inr t4.1)
theorem sg (a : State) (b : State) (t4 : Bool × Int) : Lo (gb a b t4) (iZ a b t4):=by
 unfold gb iZ
 repeat' (first | with_reducible refine ad ?_ ?_ ?_ ?_ ?_ | with_reducible refine ab ?_ ?_ ?_ ?_ | with_reducible refine aa ?_ ?_ ?_ | with_reducible refine ae ?_ ?_ | with_reducible refine ah ?_ ?_ | with_reducible refine ai ?_ _ | (intro _) | with_reducible exact ag _ | exact af | (dsimp only))
def gC (a : State) (b : State) (t3 : Bool × Int) : Option ((Bool × Int) ⊕ Bool) :=
 bif decide (t3.2 < (a.Slots.length : Int)) then
 (
  bif t3.1 then
  (idx a.Slots t3.2).bind fun x8 =>
  (idx b.Slots t3.2).bind fun x9 =>
  let ok8:=(x8.Node == x9.Node) && ((x8.App == x9.App) && (x8.Prio == x9.Prio))
  some ok8
  else
  some false).bind fun ok9 =>
 some (.inl (ok9,w64 (t3.2 + 1)))
 else
 some (.inr t3.1)
theorem rG (a : State) (b : State) (t3 : Bool × Int) : Lo (gC a b t3) (iU a b t3):=by
 unfold gC iU
 repeat' (first | with_reducible refine ad ?_ ?_ ?_ ?_ ?_ | with_reducible refine ab ?_ ?_ ?_ ?_ | with_reducible refine aa ?_ ?_ ?_ | with_reducible refine ae ?_ ?_ | with_reducible refine ah ?_ ?_ | with_reducible refine ai ?_ _ | (intro _) | with_reducible exact ag _ | exact af | (dsimp only))
def gp (a : State) (b : State) (t2 : Bool × Int) : Option ((Bool × Int) ⊕ Bool) :=
 bif decide (t2.2 < (a.Conts.length : Int)) then
 (
  bif t2.1 then
  (idx a.Conts t2.2).bind fun x6 =>
  (idx b.Conts t2.2).bind fun x7 =>
  let ok5:=(x6.Id == x7.Id) && ((x6.App == x7.App) && ((x6.Node == x7.Node) && (((x6.Size.Mem == x7.Size.Mem) && (x6.Size.Cores == x7.Size.Cores)) && ((x6.Prio == x7.Prio) && ((x6.Label == x7.Label) && ((x6.Master == x7.Master) && (x6.Notice == x7.Notice)))))))
  some ok5
  else
  some false).bind fun ok6 =>
 some (.inl (ok6,w64 (t2.2 + 1)))
 else
 some (.inr t2.1)
theorem rO (a : State) (b : State) (t2 : Bool × Int) : Lo (gp a b t2) (jg a b t2):=by
 unfold gp jg
 repeat' (first | with_reducible refine ad ?_ ?_ ?_ ?_ ?_ | with_reducible refine ab ?_ ?_ ?_ ?_ | with_reducible refine aa ?_ ?_ ?_ | with_reducible refine ae ?_ ?_ | with_reducible refine ah ?_ ?_ | with_reducible refine ai ?_ _ | (intro _) | with_reducible exact ag _ | exact af | (dsimp only))
def gd (a : State) (b : State) (t1 : Bool × Int) : Option ((Bool × Int) ⊕ Bool) :=
 bif decide (t1.2 < (a.Apps.length : Int)) then
 (
  bif t1.1 then
  (idx a.Apps t1.2).bind fun x3 =>
  (idx b.Apps t1.2).bind fun x4 =>
  (ko x3 x4).bind fun x5 =>
  some x5
  else
  some false).bind fun ok3 =>
 some (.inl (ok3,w64 (t1.2 + 1)))
 else
 some (.inr t1.1)
theorem rI (a : State) (b : State) (t1 : Bool × Int) : Lo (gd a b t1) (ji a b t1):=by
 unfold gd ji
 repeat' (first | with_reducible exact uE _ _ | with_reducible refine ad ?_ ?_ ?_ ?_ ?_ | with_reducible refine ab ?_ ?_ ?_ ?_ | with_reducible refine aa ?_ ?_ ?_ | with_reducible refine ae ?_ ?_ | with_reducible refine ah ?_ ?_ | with_reducible refine ai ?_ _ | (intro _) | with_reducible exact ag _ | exact af | (dsimp only))
def gF (a : State) (b : State) (t : Bool × Int) : Option ((Bool × Int) ⊕ Bool) :=
 bif decide (t.2 < (a.Nodes.length : Int)) then
 (
  bif t.1 then
  (idx a.Nodes t.2).bind fun x1 =>
  (idx b.Nodes t.2).bind fun x2 =>
  let ok:=(x1.Id == x2.Id) && ((x1.Label == x2.Label) && ((x1.Rack == x2.Rack) && (((x1.Cap.Mem == x2.Cap.Mem) && (x1.Cap.Cores == x2.Cap.Cores)) && ((x1.Seen == x2.Seen) && ((x1.Beat == x2.Beat) && (x1.Up == x2.Up))))))
  some ok
  else
  some false).bind fun ok1 =>
 some (.inl (ok1,w64 (t.2 + 1)))
 else
 some (.inr t.1)
theorem rD (a : State) (b : State) (t : Bool × Int) : Lo (gF a b t) (iQ a b t):=by
 unfold gF iQ
 repeat' (first | with_reducible refine ad ?_ ?_ ?_ ?_ ?_ | with_reducible refine ab ?_ ?_ ?_ ?_ | with_reducible refine aa ?_ ?_ ?_ | with_reducible refine ae ?_ ?_ | with_reducible refine ah ?_ ?_ | with_reducible refine ai ?_ _ | (intro _) | with_reducible exact ag _ | exact af | (dsimp only))
def jT (a : State) (b : State) : Option Bool :=
 (
 (kz a.Conf b.Conf).bind fun x =>
 bif ! x then
  some true
 else
  bif a.Now != b.Now then
  some true
  else
  bif a.Epoch != b.Epoch then
   some true
  else
   bif a.Seq != b.Seq then
   some true
   else
   bif (a.Nodes.length : Int) != (b.Nodes.length : Int) then
    some true
   else
    bif (a.Apps.length : Int) != (b.Apps.length : Int) then
    some true
    else
    bif (a.Conts.length : Int) != (b.Conts.length : Int) then
     some true
    else
     bif (a.Slots.length : Int) != (b.Slots.length : Int) then
     some true
     else
     some ((a.Plans.length : Int) != (b.Plans.length : Int))).bind fun q =>
 bif q then
 some false
 else
 (itr 4096 (gF a b) (true,0)).bind fun ok2 =>
 (itr 4096 (gd a b) (ok2,0)).bind fun ok4 =>
 (itr 4096 (gp a b) (ok4,0)).bind fun ok7 =>
 (itr 4096 (gC a b) (ok7,0)).bind fun ok10 =>
 (itr 4096 (gb a b) (ok10,0)).bind fun ok13 =>
 some ok13
theorem uh (a : State) (b : State) : Lo (jT a b) (gW a b):=by
 unfold jT gW
 repeat' (first | with_reducible exact uL _ _ | with_reducible exact rD _ _ _ | with_reducible exact rI _ _ _ | with_reducible exact rO _ _ _ | with_reducible exact rG _ _ _ | with_reducible exact sg _ _ _ | with_reducible refine ad ?_ ?_ ?_ ?_ ?_ | with_reducible refine ab ?_ ?_ ?_ ?_ | with_reducible refine aa ?_ ?_ ?_ | with_reducible refine ae ?_ ?_ | with_reducible refine ah ?_ ?_ | with_reducible refine ai ?_ _ | (intro _) | with_reducible exact ag _ | exact af | (dsimp only))
def dW : Option State :=
 some (⟨⟨[([] : List UInt8)],[(⟨([114,111,111,116] : List UInt8),[(⟨10000,10000⟩ : Cap)],10000⟩ : Queue)]⟩,[],[],[],[],[],0,0,0⟩ : State)
theorem nk : Lo (dW) (dH):=by
 unfold dW dH
 repeat' (first | with_reducible refine ad ?_ ?_ ?_ ?_ ?_ | with_reducible refine ab ?_ ?_ ?_ ?_ | with_reducible refine aa ?_ ?_ ?_ | with_reducible refine ae ?_ ?_ | with_reducible refine ah ?_ ?_ | with_reducible refine ai ?_ _ | (intro _) | with_reducible exact ag _ | exact af | (dsimp only))
def ew : Option Bool :=
 (dW).bind fun x =>
 (dv x).bind fun x1 =>
 (jT x x1.1).bind fun x2 =>
 bif x2 then
 bif (x1.2.length : Int) == 0 then
  (lz x 0).bind fun x3 =>
  bif (x3.length : Int) == 0 then
  some ((x1.1.Conf.Queues.length : Int) == 1)
  else
  some false
 else
  some false
 else
 some false
theorem tp : Lo (ew) (dV):=by
 unfold ew dV
 repeat' (first | with_reducible exact nk  | with_reducible exact rP _ | with_reducible exact uh _ _ | with_reducible exact sW _ _ | with_reducible refine ad ?_ ?_ ?_ ?_ ?_ | with_reducible refine ab ?_ ?_ ?_ ?_ | with_reducible refine aa ?_ ?_ ?_ | with_reducible refine ae ?_ ?_ | with_reducible refine ah ?_ ?_ | with_reducible refine ai ?_ _ | (intro _) | with_reducible exact ag _ | exact af | (dsimp only))
def bE (at_ : Int) (n : Int) : Option Int :=
 (nz n).bind fun _ =>
 (
 bif decide ((Int.tmod at_ n) < 0) then
  let k:=w64 ((Int.tmod at_ n) + n)
  some k
 else
  some (Int.tmod at_ n)).bind fun k1 =>
 some k1
theorem sD (at_ : Int) (n : Int) : Lo (bE at_ n) (au at_ n):=by
 unfold bE au
 repeat' (first | with_reducible refine ad ?_ ?_ ?_ ?_ ?_ | with_reducible refine ab ?_ ?_ ?_ ?_ | with_reducible refine aa ?_ ?_ ?_ | with_reducible refine ae ?_ ?_ | with_reducible refine ah ?_ ?_ | with_reducible refine ai ?_ _ | (intro _) | with_reducible exact ag _ | exact af | (dsimp only))
def gG (s : State) (id_ : Int) (t : App × Int) : Option ((App × Int) ⊕ ((App × Bool) ⊕ App)) :=
 bif decide (t.2 < (s.Apps.length : Int)) then
 (idx s.Apps t.2).bind fun x =>
 bif x.Id == id_ then
  (idx s.Apps t.2).bind fun x1 =>
  some (.inr (.inl (x1,true)))
 else
  some (.inl (t.1,w64 (t.2 + 1)))
 else
 some (.inr (.inr (t.1)))
theorem si (s : State) (id_ : Int) (t : App × Int) : Lo (gG s id_ t) (iP s id_ t):=by
 unfold gG iP
 repeat' (first | with_reducible refine ad ?_ ?_ ?_ ?_ ?_ | with_reducible refine ab ?_ ?_ ?_ ?_ | with_reducible refine aa ?_ ?_ ?_ | with_reducible refine ae ?_ ?_ | with_reducible refine ah ?_ ?_ | with_reducible refine ai ?_ _ | (intro _) | with_reducible exact ag _ | exact af | (dsimp only))
def cf (s : State) (id_ : Int) : Option (App × Bool) :=
 (itr 4096 (gG s id_) ((⟨0,0,[],0,0,⟨0,0⟩,[],0,0,[],[],[],[]⟩ : App),0)).bind fun q0 =>
 match q0 with
 | .inl q =>
 some (q.1,q.2)
 | .inr q1 =>
 some ((⟨0,0,[],0,0,⟨0,0⟩,[],0,0,[],[],[],[]⟩ : App),false)
theorem iT (s : State) (id_ : Int) : Lo (cf s id_) (b8 s id_):=by
 unfold cf b8
 repeat' (first | with_reducible exact si _ _ _ | with_reducible refine ad ?_ ?_ ?_ ?_ ?_ | with_reducible refine ab ?_ ?_ ?_ ?_ | with_reducible refine aa ?_ ?_ ?_ | with_reducible refine ae ?_ ?_ | with_reducible refine ah ?_ ?_ | with_reducible refine ai ?_ _ | (intro _) | with_reducible exact ag _ | exact af | (dsimp only))
def aZ (a : App) : Option Bool :=
 bif a.State == 1 then
 some true
 else
 some (a.State == 2)
theorem mU (a : App) : Lo (aZ a) (aY a):=by
 unfold aZ aY
 repeat' (first | with_reducible refine ad ?_ ?_ ?_ ?_ ?_ | with_reducible refine ab ?_ ?_ ?_ ?_ | with_reducible refine aa ?_ ?_ ?_ | with_reducible refine ae ?_ ?_ | with_reducible refine ah ?_ ?_ | with_reducible refine ai ?_ _ | (intro _) | with_reducible exact ag _ | exact af | (dsimp only))
def sH (s : State) (id_ : Int) (t1 : List Slot × Int) : Option ((List Slot × Int) ⊕ List Slot) :=
 bif decide (t1.2 < (s.Slots.length : Int)) then
 (
  (idx s.Slots t1.2).bind fun x3 =>
  bif x3.App != id_ then
  (idx s.Slots t1.2).bind fun x4 =>
  (app 24 t1.1 [x4]).bind fun l2 =>
  some l2
  else
  some t1.1).bind fun slots =>
 some (.inl (slots,w64 (t1.2 + 1)))
 else
 some (.inr t1.1)
def sE (s : State) (id_ : Int) (t : List Cont × List Int × Int) : Option ((List Cont × List Int × Int) ⊕ ((List Cont × List Int))) :=
 bif decide (t.2.2 < (s.Conts.length : Int)) then
 (
  (idx s.Conts t.2.2).bind fun x =>
  bif x.App == id_ then
  (idx s.Conts t.2.2).bind fun x1 =>
  (app 8 t.2.1 [x1.Id]).bind fun l =>
  some (t.1,l)
  else
  (idx s.Conts t.2.2).bind fun x2 =>
  (app 72 t.1 [x2]).bind fun l1 =>
  some (l1,t.2.1)).bind fun q =>
 some (.inl (q.1,q.2,w64 (t.2.2 + 1)))
 else
 some (.inr (t.1,t.2.1))
def u5 (s : State) (id_ : Int) : Option (State × List Int) :=
 (itr 4096 (sE s id_) ([],[],0)).bind fun q1 =>
 (itr 4096 (sH s id_) ([],0)).bind fun slots1 =>
 some ((⟨⟨s.Conf.Labels,s.Conf.Queues⟩,s.Nodes,s.Apps,q1.1,slots1,s.Plans,s.Now,s.Epoch,s.Seq⟩ : State),q1.2)
def s_ (s : State) (a : App) (k : Int) : Option (Int ⊕ Int) :=
 (
 bif decide (k < (s.Apps.length : Int)) then
  (idx s.Apps k).bind fun x =>
  some (decide (x.Id < a.Id))
 else
  some false).bind fun q =>
 bif q then
 some (.inl (w64 (k + 1)))
 else
 some (.inr k)
def vk (s : State) (a : App) : Option State :=
 (itr 4096 (s_ s a) 0).bind fun k1 =>
 (slc s.Apps 0 k1).bind fun l =>
 (app 200 [] l).bind fun l1 =>
 (app 200 l1 [a]).bind fun l2 =>
 (
 (
  bif decide (k1 < (s.Apps.length : Int)) then
  (idx s.Apps k1).bind fun x1 =>
  some (x1.Id == a.Id)
  else
  some false).bind fun q1 =>
 bif q1 then
  some (w64 (k1 + 1))
 else
  some k1).bind fun k2 =>
 (slc s.Apps k2 (s.Apps.length : Int)).bind fun l3 =>
 (app 200 l2 l3).bind fun l4 =>
 some (⟨⟨s.Conf.Labels,s.Conf.Queues⟩,s.Nodes,l4,s.Conts,s.Slots,s.Plans,s.Now,s.Epoch,s.Seq⟩ : State)
def vi (s : State) (id_ : Int) (state : Int) : Option (State × List Int) :=
 (cf s id_).bind fun x =>
 (
 bif ! x.2 then
  some true
 else
  (aZ x.1).bind fun x1 =>
  some (! x1)).bind fun q =>
 bif q then
 some (s,[])
 else
 (vk s (⟨x.1.Id,state,x.1.Queue,x.1.User,x.1.Prio,⟨x.1.Master.Mem,x.1.Master.Cores⟩,[],x.1.Seen,x.1.Beat,[],[],[],[]⟩ : App)).bind fun x2 =>
 (u5 x2 id_).bind fun x3 =>
 some (x3.1,x3.2)
def m0 (x3 : State × List Int) (t1 : Int × Int) : Option ((Int × Int) ⊕ Int) :=
 bif decide (t1.2 < (x3.1.Conts.length : Int)) then
 (
  (inb t1.2 x3.1.Conts.length).bind fun i =>
  (x3.1.Conts[i]?).bind fun x4 =>
  bif x4.Notice == 5 then
  some (w64 (t1.1 + 1))
  else
  some t1.1).bind fun n =>
 some (.inl (n,w64 (t1.2 + 1)))
 else
 some (.inr t1.1)
def mX (units1 : Int) (t : State × Int) : Option ((State × Int) ⊕ State) :=
 bif decide (t.2 ≤ units1) then
 (app 72 t.1.Conts [(⟨t.2,1,1,⟨1,1⟩,0,0,t.2 == 1,0⟩ : Cont)]).bind fun l1 =>
 some (.inl ((⟨⟨t.1.Conf.Labels,t.1.Conf.Queues⟩,t.1.Nodes,t.1.Apps,l1,t.1.Slots,t.1.Plans,t.1.Now,t.1.Epoch,t.1.Seq⟩ : State),w64 (t.2 + 1)))
 else
 some (.inr t.1)
def zc (units : Int) (wait : Int) (gone : Bool) : Option Bool :=
 (ew).bind fun x =>
 bif ! x then
 some false
 else
 (bE units 8).bind fun x1 =>
 let units1:=w64 (2 * (w64 (1 + x1)))
 (dW).bind fun x2 =>
 (app 48 x2.Conf.Queues [(⟨([114,111,111,116,46,97] : List UInt8),[(⟨5000,10000⟩ : Cap)],1000000⟩ : Queue),(⟨([114,111,111,116,46,98] : List UInt8),[(⟨5000,10000⟩ : Cap)],1000000⟩ : Queue)]).bind fun l =>
 (itr 4096 (mX units1) ((⟨⟨x2.Conf.Labels,l⟩,[(⟨1,0,0,⟨units1,units1⟩,0,0,true⟩ : Node)],[(⟨1,2,([114,111,111,116,46,97] : List UInt8),0,0,⟨1,1⟩,[],0,0,[],[],[],[]⟩ : App),(⟨2,1,([114,111,111,116,46,98] : List UInt8),0,0,⟨1,1⟩,[(⟨0,0,⟨1,1⟩,1,(-1),(-1),0⟩ : Ask)],0,0,[],[],[],[]⟩ : App)],x2.Conts,x2.Slots,x2.Plans,x2.Now,x2.Epoch,x2.Seq⟩ : State),1)).bind fun s =>
 (dv (⟨⟨s.Conf.Labels,s.Conf.Queues⟩,s.Nodes,s.Apps,s.Conts,s.Slots,s.Plans,5,s.Epoch,s.Seq⟩ : State)).bind fun x3 =>
 (itr 4096 (m0 x3) (0,0)).bind fun n1 =>
 (
  bif (x3.2.length : Int) != 0 then
  some true
  else
  bif n1 != 1 then
   some true
  else
   (inb (w64 (units1 - 1)) x3.1.Conts.length).bind fun i1 =>
   (x3.1.Conts[i1]?).bind fun x5 =>
   some (x5.Notice != 5)).bind fun q =>
 bif q then
  some false
 else
  (
  bif gone then
   (vi x3.1 2 4).bind fun x6 =>
   some x6.1
  else
   some x3.1).bind fun s1 =>
  (bE wait 7).bind fun wait1 =>
  (dv (⟨⟨s1.Conf.Labels,s1.Conf.Queues⟩,s1.Nodes,s1.Apps,s1.Conts,s1.Slots,s1.Plans,w64 (5 + wait1),s1.Epoch,s1.Seq⟩ : State)).bind fun x7 =>
  bif decide (wait1 < 3) then
  bif (x7.2.length : Int) == 0 then
   bif (x7.1.Conts.length : Int) == units1 then
   (inb (w64 (units1 - 1)) x7.1.Conts.length).bind fun i2 =>
   (x7.1.Conts[i2]?).bind fun x8 =>
   some (x8.Notice == 5)
   else
   some false
  else
   some false
  else
  bif gone then
   bif (x7.2.length : Int) == 0 then
   bif (x7.1.Conts.length : Int) == units1 then
    (inb (w64 (units1 - 1)) x7.1.Conts.length).bind fun i3 =>
    (x7.1.Conts[i3]?).bind fun x9 =>
    some (x9.Notice == 0)
   else
    some false
   else
   some false
  else
   bif (x7.2.length : Int) == 1 then
   (inb 0 x7.2.length).bind fun i4 =>
   (x7.2[i4]?).bind fun x10 =>
   bif x10 == units1 then
    some ((x7.1.Conts.length : Int) == (w64 (units1 - 1)))
   else
    some false
   else
   some false
def ip (s : List UInt8) (i : Int) : Option (Int ⊕ (Bool ⊕ Unit)) :=
 bif decide (i < (s.length : Int)) then
 (idx s i).bind fun ch =>
 (
  bif decide ((ch.toNat : Int) < 97) then
  bif decide ((ch.toNat : Int) < 48) then
   some ((ch.toNat : Int) != 45)
  else
   bif decide ((ch.toNat : Int) > 57) then
   some ((ch.toNat : Int) != 45)
   else
   some false
  else
  bif decide ((ch.toNat : Int) > 122) then
   bif decide ((ch.toNat : Int) < 48) then
   some ((ch.toNat : Int) != 45)
   else
   bif decide ((ch.toNat : Int) > 57) then
    some ((ch.toNat : Int) != 45)
   else
    some false
  else
   some false).bind fun q1 =>
 bif q1 then
  some (.inr (.inl false))
 else
  some (.inl (w64 (i + 1)))
 else
 some (.inr (.inr ()))
theorem sK (s : List UInt8) (i : Int) : Lo (ip s i) (jJ s i):=by
 unfold ip jJ
 repeat' (first | with_reducible refine ad ?_ ?_ ?_ ?_ ?_ | with_reducible refine ab ?_ ?_ ?_ ?_ | with_reducible refine aa ?_ ?_ ?_ | with_reducible refine ae ?_ ?_ | with_reducible refine ah ?_ ?_ | with_reducible refine ai ?_ _ | (intro _) | with_reducible exact ag _ | exact af | (dsimp only))
def fY (s : List UInt8) : Option Bool :=
 (
 bif decide ((s.length : Int) < 1) then
  some true
 else
  some (decide ((s.length : Int) > 12))).bind fun q =>
 bif q then
 some false
 else
 (itr 4096 (ip s) 0).bind fun q0 =>
 match q0 with
 | .inl q2 =>
  some q2
 | .inr _ =>
  some true
theorem m8 (s : List UInt8) : Lo (fY s) (eG s):=by
 unfold fY eG
 repeat' (first | with_reducible exact sK _ _ | with_reducible refine ad ?_ ?_ ?_ ?_ ?_ | with_reducible refine ab ?_ ?_ ?_ ?_ | with_reducible refine aa ?_ ?_ ?_ | with_reducible refine ae ?_ ?_ | with_reducible refine ah ?_ ?_ | with_reducible refine ai ?_ _ | (intro _) | with_reducible exact ag _ | exact af | (dsimp only))
def fp (c : Conf) (i1 : Int) (k : Int) : Option (Int ⊕ (Int ⊕ Unit)) :=
 bif decide (k < i1) then
 (idx c.Labels i1).bind fun x3 =>
 (idx c.Labels k).bind fun x4 =>
 bif x3 == x4 then
  some (.inr (.inl 7))
 else
  some (.inl (w64 (k + 1)))
 else
 some (.inr (.inr ()))
theorem qE (c : Conf) (i1 : Int) (k : Int) : Lo (fp c i1 k) (g9 c i1 k):=by
 unfold fp g9
 repeat' (first | with_reducible refine ad ?_ ?_ ?_ ?_ ?_ | with_reducible refine ab ?_ ?_ ?_ ?_ | with_reducible refine aa ?_ ?_ ?_ | with_reducible refine ae ?_ ?_ | with_reducible refine ah ?_ ?_ | with_reducible refine ai ?_ _ | (intro _) | with_reducible exact ag _ | exact af | (dsimp only))
def fw (c : Conf) (i1 : Int) : Option (Int ⊕ (Int ⊕ Unit)) :=
 bif decide (i1 < (c.Labels.length : Int)) then
 (itr 4096 (fp c i1) 1).bind fun q0 =>
 match q0 with
 | .inl q2 =>
  some (.inr (.inl q2))
 | .inr _ =>
  some (.inl (w64 (i1 + 1)))
 else
 some (.inr (.inr ()))
theorem qI (c : Conf) (i1 : Int) : Lo (fw c i1) (h_ c i1):=by
 unfold fw h_
 repeat' (first | with_reducible exact qE _ _ _ | with_reducible refine ad ?_ ?_ ?_ ?_ ?_ | with_reducible refine ab ?_ ?_ ?_ ?_ | with_reducible refine aa ?_ ?_ ?_ | with_reducible refine ae ?_ ?_ | with_reducible refine ah ?_ ?_ | with_reducible refine ai ?_ _ | (intro _) | with_reducible exact ag _ | exact af | (dsimp only))
def fG (c : Conf) (i : Int) : Option (Int ⊕ (Int ⊕ Unit)) :=
 bif decide (i < (c.Labels.length : Int)) then
 (idx c.Labels i).bind fun x1 =>
 (fY x1).bind fun x2 =>
 bif ! x2 then
  some (.inr (.inl 12))
 else
  some (.inl (w64 (i + 1)))
 else
 some (.inr (.inr ()))
theorem qy (c : Conf) (i : Int) : Lo (fG c i) (hF c i):=by
 unfold fG hF
 repeat' (first | with_reducible exact m8 _ | with_reducible refine ad ?_ ?_ ?_ ?_ ?_ | with_reducible refine ab ?_ ?_ ?_ ?_ | with_reducible refine aa ?_ ?_ ?_ | with_reducible refine ae ?_ ?_ | with_reducible refine ah ?_ ?_ | with_reducible refine ai ?_ _ | (intro _) | with_reducible exact ag _ | exact af | (dsimp only))
def et (c : Conf) : Option Int :=
 (
 bif decide ((c.Labels.length : Int) < 1) then
  some true
 else
  bif decide ((c.Labels.length : Int) > 3) then
  some true
  else
  some (decide ((c.Queues.length : Int) > 16))).bind fun q =>
 bif q then
 some 4
 else
 (idx c.Labels 0).bind fun x =>
 bif ! (x == ([] : List UInt8)) then
  some 12
 else
  (itr 4096 (fG c) 1).bind fun q0 =>
  match q0 with
  | .inl q1 =>
  some q1
  | .inr _ =>
  (itr 4096 (fw c) 1).bind fun q0 =>
  match q0 with
  | .inl q3 =>
   some q3
  | .inr _ =>
   some 0
theorem tf (c : Conf) : Lo (et c) (dT c):=by
 unfold et dT
 repeat' (first | with_reducible exact qy _ _ | with_reducible exact qI _ _ | with_reducible refine ad ?_ ?_ ?_ ?_ ?_ | with_reducible refine ab ?_ ?_ ?_ ?_ | with_reducible refine aa ?_ ?_ ?_ | with_reducible refine ae ?_ ?_ | with_reducible refine ah ?_ ?_ | with_reducible refine ai ?_ _ | (intro _) | with_reducible exact ag _ | exact af | (dsimp only))
def iw (c : Conf) (path : List UInt8) (t : Queue × Int) : Option ((Queue × Int) ⊕ ((Queue × Bool) ⊕ Queue)) :=
 bif decide (t.2 < (c.Queues.length : Int)) then
 (idx c.Queues t.2).bind fun x =>
 bif x.Path == path then
  (idx c.Queues t.2).bind fun x1 =>
  (app 16 [] x1.Caps).bind fun l =>
  some (.inr (.inl ((⟨x1.Path,l,x1.User⟩ : Queue),true)))
 else
  some (.inl (t.1,w64 (t.2 + 1)))
 else
 some (.inr (.inr (t.1)))
theorem su (c : Conf) (path : List UInt8) (t : Queue × Int) : Lo (iw c path t) (jV c path t):=by
 unfold iw jV
 repeat' (first | with_reducible refine ad ?_ ?_ ?_ ?_ ?_ | with_reducible refine ab ?_ ?_ ?_ ?_ | with_reducible refine aa ?_ ?_ ?_ | with_reducible refine ae ?_ ?_ | with_reducible refine ah ?_ ?_ | with_reducible refine ai ?_ _ | (intro _) | with_reducible exact ag _ | exact af | (dsimp only))
def dS (c : Conf) (path : List UInt8) : Option (Queue × Bool) :=
 (itr 4096 (iw c path) ((⟨[],[],0⟩ : Queue),0)).bind fun q0 =>
 match q0 with
 | .inl q =>
 some (q.1,q.2)
 | .inr q1 =>
 some ((⟨[],[],0⟩ : Queue),false)
theorem jO (c : Conf) (path : List UInt8) : Lo (dS c path) (dG c path):=by
 unfold dS dG
 repeat' (first | with_reducible exact su _ _ _ | with_reducible refine ad ?_ ?_ ?_ ?_ ?_ | with_reducible refine ab ?_ ?_ ?_ ?_ | with_reducible refine aa ?_ ?_ ?_ | with_reducible refine ae ?_ ?_ | with_reducible refine ah ?_ ?_ | with_reducible refine ai ?_ _ | (intro _) | with_reducible exact ag _ | exact af | (dsimp only))
def gc (path : List UInt8) (k1 : Int) : Option (Int ⊕ Int) :=
 (
 bif decide (k1 ≥ 0) then
  (idx path k1).bind fun ch =>
  some ((ch.toNat : Int) != 46)
 else
  some false).bind fun q =>
 bif q then
 some (.inl (w64 (k1 - 1)))
 else
 some (.inr k1)
theorem rS (path : List UInt8) (k1 : Int) : Lo (gc path k1) (jh path k1):=by
 unfold gc jh
 repeat' (first | with_reducible refine ad ?_ ?_ ?_ ?_ ?_ | with_reducible refine ab ?_ ?_ ?_ ?_ | with_reducible refine aa ?_ ?_ ?_ | with_reducible refine ae ?_ ?_ | with_reducible refine ah ?_ ?_ | with_reducible refine ai ?_ _ | (intro _) | with_reducible exact ag _ | exact af | (dsimp only))
def dB (path : List UInt8) : Option (List UInt8) :=
 let k:=w64 ((path.length : Int) - 1)
 (itr 4096 (gc path) k).bind fun k2 =>
 bif decide (k2 < 0) then
 some ([] : List UInt8)
 else
 (slc path 0 k2).bind fun s =>
 some s
theorem iX (path : List UInt8) : Lo (dB path) (cW path):=by
 unfold dB cW
 repeat' (first | with_reducible exact rS _ _ | with_reducible refine ad ?_ ?_ ?_ ?_ ?_ | with_reducible refine ab ?_ ?_ ?_ ?_ | with_reducible refine aa ?_ ?_ ?_ | with_reducible refine ae ?_ ?_ | with_reducible refine ah ?_ ?_ | with_reducible refine ai ?_ _ | (intro _) | with_reducible exact ag _ | exact af | (dsimp only))
def fH (s : List UInt8) (t : Int × Int × Int) : Option ((Int × Int × Int) ⊕ (Bool ⊕ Int)) :=
 bif decide (t.2.2 ≤ (s.length : Int)) then
 (
  (
  bif decide (t.2.2 < (s.length : Int)) then
   (idx s t.2.2).bind fun ch =>
   some ((ch.toNat : Int) != 46)
  else
   some false).bind fun q =>
  bif q then
  some (.inl (t.1,t.2.1))
  else
  (
   (slc s t.1 t.2.2).bind fun s1 =>
   (fY s1).bind fun x =>
   bif ! x then
   some true
   else
   bif t.2.1 == 0 then
    (slc s t.1 t.2.2).bind fun s2 =>
    some (! (s2 == ([114,111,111,116] : List UInt8)))
   else
    some false).bind fun q1 =>
  bif q1 then
   some (.inr false)
  else
   some (.inl (w64 (t.2.2 + 1),w64 (t.2.1 + 1))) : Option ((Int × Int) ⊕ Bool)).bind fun q0 =>
 match q0 with
 | .inl q2 =>
  some (.inl (q2.1,q2.2,w64 (t.2.2 + 1)))
 | .inr q3 =>
  some (.inr (.inl q3))
 else
 some (.inr (.inr (t.2.1)))
theorem qC (s : List UInt8) (t : Int × Int × Int) : Lo (fH s t) (iA s t):=by
 unfold fH iA
 repeat' (first | with_reducible exact m8 _ | with_reducible refine ad ?_ ?_ ?_ ?_ ?_ | with_reducible refine ab ?_ ?_ ?_ ?_ | with_reducible refine aa ?_ ?_ ?_ | with_reducible refine ae ?_ ?_ | with_reducible refine ah ?_ ?_ | with_reducible refine ai ?_ _ | (intro _) | with_reducible exact ag _ | exact af | (dsimp only))
def je (s : List UInt8) : Option Bool :=
 (itr 4096 (fH s) (0,0,0)).bind fun q0 =>
 match q0 with
 | .inl q4 =>
 some q4
 | .inr n =>
 some (decide (n ≤ 4))
theorem tJ (s : List UInt8) : Lo (je s) (fQ s):=by
 unfold je fQ
 repeat' (first | with_reducible exact qC _ _ | with_reducible refine ad ?_ ?_ ?_ ?_ ?_ | with_reducible refine ab ?_ ?_ ?_ ?_ | with_reducible refine aa ?_ ?_ ?_ | with_reducible refine ae ?_ ?_ | with_reducible refine ah ?_ ?_ | with_reducible refine ai ?_ _ | (intro _) | with_reducible exact ag _ | exact af | (dsimp only))
def gm (x : Queue) (k : Int) : Option (Int ⊕ (Int ⊕ Unit)) :=
 bif decide (k < (x.Caps.length : Int)) then
 (idx x.Caps k).bind fun x5 =>
 (
  bif decide (x5.Least < 0) then
  some true
  else
  bif decide (x5.Least > 10000) then
   some true
  else
   bif decide (x5.Most < 0) then
   some true
   else
   bif decide (x5.Most > 10000) then
    some true
   else
    some (decide (x5.Least > x5.Most))).bind fun q3 =>
 bif q3 then
  some (.inr (.inl 1))
 else
  some (.inl (w64 (k + 1)))
 else
 some (.inr (.inr ()))
theorem se (x : Queue) (k : Int) : Lo (gm x k) (jq x k):=by
 unfold gm jq
 repeat' (first | with_reducible refine ad ?_ ?_ ?_ ?_ ?_ | with_reducible refine ab ?_ ?_ ?_ ?_ | with_reducible refine aa ?_ ?_ ?_ | with_reducible refine ae ?_ ?_ | with_reducible refine ah ?_ ?_ | with_reducible refine ai ?_ _ | (intro _) | with_reducible exact ag _ | exact af | (dsimp only))
def fe (c : Conf) (i : Int) : Option Int :=
 (idx c.Queues i).bind fun x =>
 (je x.Path).bind fun x1 =>
 bif ! x1 then
 some 12
 else
 (
  bif decide (i > 0) then
  (idx c.Queues (w64 (i - 1))).bind fun x2 =>
  some (strLe x.Path x2.Path)
  else
  some false).bind fun q =>
 bif q then
  some 7
 else
  (dB x.Path).bind fun x3 =>
  (dS c x3).bind fun x4 =>
  (
  bif decide (i > 0) then
   some (! x4.2)
  else
   some false).bind fun q1 =>
  bif q1 then
  some 12
  else
  (
   bif decide (x.User < 1) then
   some true
   else
   bif decide (x.User > 1000000) then
    some true
   else
    some ((x.Caps.length : Int) != (c.Labels.length : Int))).bind fun q2 =>
  bif q2 then
   some 1
  else
   (itr 4096 (gm x) 0).bind fun q0 =>
   match q0 with
   | .inl q4 =>
   some q4
   | .inr _ =>
   some 0
theorem ul (c : Conf) (i : Int) : Lo (fe c i) (ef c i):=by
 unfold fe ef
 repeat' (first | with_reducible exact tJ _ | with_reducible exact iX _ | with_reducible exact jO _ _ | with_reducible exact se _ _ | with_reducible refine ad ?_ ?_ ?_ ?_ ?_ | with_reducible refine ab ?_ ?_ ?_ ?_ | with_reducible refine aa ?_ ?_ ?_ | with_reducible refine ae ?_ ?_ | with_reducible refine ah ?_ ?_ | with_reducible refine ai ?_ _ | (intro _) | with_reducible exact ag _ | exact af | (dsimp only))
def hZ (c : Conf) (path : List UInt8) (t : List (List UInt8) × Int) : Option ((List (List UInt8) × Int) ⊕ List (List UInt8)) :=
 bif decide (t.2 < (c.Queues.length : Int)) then
 (
  (
  bif ! (path == ([] : List UInt8)) then
   (idx c.Queues t.2).bind fun x =>
   (dB x.Path).bind fun x1 =>
   some (x1 == path)
  else
   some false).bind fun q =>
  bif q then
  (idx c.Queues t.2).bind fun x2 =>
  (app 16 t.1 [x2.Path]).bind fun l =>
  some l
  else
  some t.1).bind fun l1 =>
 some (.inl (l1,w64 (t.2 + 1)))
 else
 some (.inr t.1)
theorem sF (c : Conf) (path : List UInt8) (t : List (List UInt8) × Int) : Lo (hZ c path t) (jE c path t):=by
 unfold hZ jE
 repeat' (first | with_reducible exact iX _ | with_reducible refine ad ?_ ?_ ?_ ?_ ?_ | with_reducible refine ab ?_ ?_ ?_ ?_ | with_reducible refine aa ?_ ?_ ?_ | with_reducible refine ae ?_ ?_ | with_reducible refine ah ?_ ?_ | with_reducible refine ai ?_ _ | (intro _) | with_reducible exact ag _ | exact af | (dsimp only))
def fR (c : Conf) (path : List UInt8) : Option (List (List UInt8)) :=
 (itr 4096 (hZ c path) ([],0)).bind fun l2 =>
 some l2
theorem nG (c : Conf) (path : List UInt8) : Lo (fR c path) (eH c path):=by
 unfold fR eH
 repeat' (first | with_reducible exact sF _ _ _ | with_reducible refine ad ?_ ?_ ?_ ?_ ?_ | with_reducible refine ab ?_ ?_ ?_ ?_ | with_reducible refine aa ?_ ?_ ?_ | with_reducible refine ae ?_ ?_ | with_reducible refine ah ?_ ?_ | with_reducible refine ai ?_ _ | (intro _) | with_reducible exact ag _ | exact af | (dsimp only))
def il (c : Conf) (kids : List (List UInt8)) (k : Int) (t : Int × Int) : Option ((Int × Int) ⊕ Int) :=
 bif decide (t.2 < (kids.length : Int)) then
 (inb t.2 kids.length).bind fun i1 =>
 (kids[i1]?).bind fun x1 =>
 (dS c x1).bind fun x2 =>
 (inb k x2.1.Caps.length).bind fun i2 =>
 (x2.1.Caps[i2]?).bind fun x3 =>
 let n:=w64 (t.1 + x3.Least)
 some (.inl (n,w64 (t.2 + 1)))
 else
 some (.inr t.1)
theorem sm (c : Conf) (kids : List (List UInt8)) (k : Int) (t : Int × Int) : Lo (il c kids k t) (jR c kids k t):=by
 unfold il jR
 repeat' (first | with_reducible exact jO _ _ | with_reducible refine ad ?_ ?_ ?_ ?_ ?_ | with_reducible refine ab ?_ ?_ ?_ ?_ | with_reducible refine aa ?_ ?_ ?_ | with_reducible refine ae ?_ ?_ | with_reducible refine ah ?_ ?_ | with_reducible refine ai ?_ _ | (intro _) | with_reducible exact ag _ | exact af | (dsimp only))
def gZ (c : Conf) (kids : List (List UInt8)) (k : Int) : Option (Int ⊕ (Bool ⊕ Unit)) :=
 (
 bif decide (k < (c.Labels.length : Int)) then
  some (decide ((kids.length : Int) > 0))
 else
  some false).bind fun q =>
 bif q then
 (itr 4096 (il c kids k) (0,0)).bind fun n1 =>
 bif n1 != 10000 then
  some (.inr (.inl false))
 else
  some (.inl (w64 (k + 1)))
 else
 some (.inr (.inr ()))
theorem sI (c : Conf) (kids : List (List UInt8)) (k : Int) : Lo (gZ c kids k) (jC c kids k):=by
 unfold gZ jC
 repeat' (first | with_reducible exact sm _ _ _ _ | with_reducible refine ad ?_ ?_ ?_ ?_ ?_ | with_reducible refine ab ?_ ?_ ?_ ?_ | with_reducible refine aa ?_ ?_ ?_ | with_reducible refine ae ?_ ?_ | with_reducible refine ah ?_ ?_ | with_reducible refine ai ?_ _ | (intro _) | with_reducible exact ag _ | exact af | (dsimp only))
def iB (c : Conf) (i : Int) : Option (Int ⊕ (Bool ⊕ Unit)) :=
 bif decide (i < (c.Queues.length : Int)) then
 (idx c.Queues i).bind fun x =>
 (fR c x.Path).bind fun kids =>
 (itr 4096 (gZ c kids) 0).bind fun q0 =>
 match q0 with
 | .inl q1 =>
  some (.inr (.inl q1))
 | .inr _ =>
  some (.inl (w64 (i + 1)))
 else
 some (.inr (.inr ()))
theorem sG (c : Conf) (i : Int) : Lo (iB c i) (jF c i):=by
 unfold iB jF
 repeat' (first | with_reducible exact nG _ _ | with_reducible exact sI _ _ _ | with_reducible refine ad ?_ ?_ ?_ ?_ ?_ | with_reducible refine ab ?_ ?_ ?_ ?_ | with_reducible refine aa ?_ ?_ ?_ | with_reducible refine ae ?_ ?_ | with_reducible refine ah ?_ ?_ | with_reducible refine ai ?_ _ | (intro _) | with_reducible exact ag _ | exact af | (dsimp only))
def ku (c : Conf) : Option Bool :=
 (itr 4096 (iB c) 0).bind fun q0 =>
 match q0 with
 | .inl q2 =>
 some q2
 | .inr _ =>
 some true
theorem uN (c : Conf) : Lo (ku c) (iH c):=by
 unfold ku iH
 repeat' (first | with_reducible exact sG _ _ | with_reducible refine ad ?_ ?_ ?_ ?_ ?_ | with_reducible refine ab ?_ ?_ ?_ ?_ | with_reducible refine aa ?_ ?_ ?_ | with_reducible refine ae ?_ ?_ | with_reducible refine ah ?_ ?_ | with_reducible refine ai ?_ _ | (intro _) | with_reducible exact ag _ | exact af | (dsimp only))
def gE (c : Conf) (k : Int) : Option (Int ⊕ (Int ⊕ Unit)) :=
 bif decide (k < (c.Labels.length : Int)) then
 (idx c.Queues 0).bind fun x5 =>
 (idx x5.Caps k).bind fun x6 =>
 bif ! ((x6.Least == 10000) && (x6.Most == 10000)) then
  some (.inr (.inl 13))
 else
  some (.inl (w64 (k + 1)))
 else
 some (.inr (.inr ()))
theorem sc (c : Conf) (k : Int) : Lo (gE c k) (jd c k):=by
 unfold gE jd
 repeat' (first | with_reducible refine ad ?_ ?_ ?_ ?_ ?_ | with_reducible refine ab ?_ ?_ ?_ ?_ | with_reducible refine aa ?_ ?_ ?_ | with_reducible refine ae ?_ ?_ | with_reducible refine ah ?_ ?_ | with_reducible refine ai ?_ _ | (intro _) | with_reducible exact ag _ | exact af | (dsimp only))
def gA (c : Conf) (i : Int) : Option (Int ⊕ (Int ⊕ Unit)) :=
 bif decide (i < (c.Queues.length : Int)) then
 (fe c i).bind fun x3 =>
 bif x3 != 0 then
  (fe c i).bind fun x4 =>
  some (.inr (.inl x4))
 else
  some (.inl (w64 (i + 1)))
 else
 some (.inr (.inr ()))
theorem rC (c : Conf) (i : Int) : Lo (gA c i) (iS c i):=by
 unfold gA iS
 repeat' (first | with_reducible exact ul _ _ | with_reducible refine ad ?_ ?_ ?_ ?_ ?_ | with_reducible refine ab ?_ ?_ ?_ ?_ | with_reducible refine aa ?_ ?_ ?_ | with_reducible refine ae ?_ ?_ | with_reducible refine ah ?_ ?_ | with_reducible refine ai ?_ _ | (intro _) | with_reducible exact ag _ | exact af | (dsimp only))
def j7 (c : Conf) : Option Int :=
 (et c).bind fun x =>
 bif x != 0 then
 (et c).bind fun x1 =>
 some x1
 else
 (
  bif (c.Queues.length : Int) == 0 then
  some true
  else
  (idx c.Queues 0).bind fun x2 =>
  some (! (x2.Path == ([114,111,111,116] : List UInt8)))).bind fun q =>
 bif q then
  some 12
 else
  (itr 4096 (gA c) 0).bind fun q0 =>
  match q0 with
  | .inl q1 =>
  some q1
  | .inr _ =>
  (itr 4096 (gE c) 0).bind fun q0 =>
  match q0 with
  | .inl q2 =>
   some q2
  | .inr _ =>
   (ku c).bind fun x7 =>
   bif ! x7 then
   some 13
   else
   some 0
theorem ug (c : Conf) : Lo (j7 c) (gK c):=by
 unfold j7 gK
 repeat' (first | with_reducible exact tf _ | with_reducible exact rC _ _ | with_reducible exact sc _ _ | with_reducible exact uN _ | with_reducible refine ad ?_ ?_ ?_ ?_ ?_ | with_reducible refine ab ?_ ?_ ?_ ?_ | with_reducible refine aa ?_ ?_ ?_ | with_reducible refine ae ?_ ?_ | with_reducible refine ah ?_ ?_ | with_reducible refine ai ?_ _ | (intro _) | with_reducible exact ag _ | exact af | (dsimp only))
def bL (v : Vec) : Option Bool :=
 bif decide (v.Mem ≥ 0) then
 bif decide (v.Mem ≤ 1125899906842624) then
  bif decide (v.Cores ≥ 0) then
  some (decide (v.Cores ≤ 1125899906842624))
  else
  some false
 else
  some false
 else
 some false
theorem dz (v : Vec) : Lo (bL v) (bG v):=by
 unfold bL bG
 repeat' (first | with_reducible refine ad ?_ ?_ ?_ ?_ ?_ | with_reducible refine ab ?_ ?_ ?_ ?_ | with_reducible refine aa ?_ ?_ ?_ | with_reducible refine ae ?_ ?_ | with_reducible refine ah ?_ ?_ | with_reducible refine ai ?_ _ | (intro _) | with_reducible exact ag _ | exact af | (dsimp only))
def gy (s : State) (t3 : Bool × Int) (t4 : Bool × Int) : Option ((Bool × Int) ⊕ Bool) :=
 (idx s.Apps t3.2).bind fun x8 =>
 bif decide (t4.2 < (x8.Asks.length : Int)) then
 (
  bif t4.1 then
  (idx s.Apps t3.2).bind fun x9 =>
  (idx x9.Asks t4.2).bind fun x10 =>
  (bL x10.Size).bind fun x11 =>
  some x11
  else
  some false).bind fun ok7 =>
 some (.inl (ok7,w64 (t4.2 + 1)))
 else
 some (.inr t4.1)
theorem rH (s : State) (t3 : Bool × Int) (t4 : Bool × Int) : Lo (gy s t3 t4) (jf s t3 t4):=by
 unfold gy jf
 repeat' (first | with_reducible exact dz _ | with_reducible refine ad ?_ ?_ ?_ ?_ ?_ | with_reducible refine ab ?_ ?_ ?_ ?_ | with_reducible refine aa ?_ ?_ ?_ | with_reducible refine ae ?_ ?_ | with_reducible refine ah ?_ ?_ | with_reducible refine ai ?_ _ | (intro _) | with_reducible exact ag _ | exact af | (dsimp only))
def gz (s : State) (t3 : Bool × Int) : Option ((Bool × Int) ⊕ Bool) :=
 bif decide (t3.2 < (s.Apps.length : Int)) then
 (
  bif t3.1 then
  (idx s.Apps t3.2).bind fun x6 =>
  (bL x6.Master).bind fun x7 =>
  some x7
  else
  some false).bind fun ok6 =>
 (itr 4096 (gy s t3) (ok6,0)).bind fun ok8 =>
 some (.inl (ok8,w64 (t3.2 + 1)))
 else
 some (.inr t3.1)
theorem rb (s : State) (t3 : Bool × Int) : Lo (gz s t3) (iV s t3):=by
 unfold gz iV
 repeat' (first | with_reducible exact dz _ | with_reducible exact rH _ _ _ | with_reducible refine ad ?_ ?_ ?_ ?_ ?_ | with_reducible refine ab ?_ ?_ ?_ ?_ | with_reducible refine aa ?_ ?_ ?_ | with_reducible refine ae ?_ ?_ | with_reducible refine ah ?_ ?_ | with_reducible refine ai ?_ _ | (intro _) | with_reducible exact ag _ | exact af | (dsimp only))
def gD (s : State) (t2 : Bool × Int) : Option ((Bool × Int) ⊕ Bool) :=
 bif decide (t2.2 < (s.Plans.length : Int)) then
 (
  bif t2.1 then
  (idx s.Plans t2.2).bind fun x4 =>
  (bL x4.Need).bind fun x5 =>
  some x5
  else
  some false).bind fun ok4 =>
 some (.inl (ok4,w64 (t2.2 + 1)))
 else
 some (.inr t2.1)
theorem rB (s : State) (t2 : Bool × Int) : Lo (gD s t2) (jt s t2):=by
 unfold gD jt
 repeat' (first | with_reducible exact dz _ | with_reducible refine ad ?_ ?_ ?_ ?_ ?_ | with_reducible refine ab ?_ ?_ ?_ ?_ | with_reducible refine aa ?_ ?_ ?_ | with_reducible refine ae ?_ ?_ | with_reducible refine ah ?_ ?_ | with_reducible refine ai ?_ _ | (intro _) | with_reducible exact ag _ | exact af | (dsimp only))
def gx (s : State) (t1 : Bool × Int) : Option ((Bool × Int) ⊕ Bool) :=
 bif decide (t1.2 < (s.Conts.length : Int)) then
 (
  bif t1.1 then
  (idx s.Conts t1.2).bind fun x2 =>
  (bL x2.Size).bind fun x3 =>
  some x3
  else
  some false).bind fun ok2 =>
 some (.inl (ok2,w64 (t1.2 + 1)))
 else
 some (.inr t1.1)
theorem rn (s : State) (t1 : Bool × Int) : Lo (gx s t1) (ja s t1):=by
 unfold gx ja
 repeat' (first | with_reducible exact dz _ | with_reducible refine ad ?_ ?_ ?_ ?_ ?_ | with_reducible refine ab ?_ ?_ ?_ ?_ | with_reducible refine aa ?_ ?_ ?_ | with_reducible refine ae ?_ ?_ | with_reducible refine ah ?_ ?_ | with_reducible refine ai ?_ _ | (intro _) | with_reducible exact ag _ | exact af | (dsimp only))
def gv (s : State) (t : Bool × Int) : Option ((Bool × Int) ⊕ Bool) :=
 bif decide (t.2 < (s.Nodes.length : Int)) then
 (
  bif t.1 then
  (idx s.Nodes t.2).bind fun x =>
  (bL x.Cap).bind fun x1 =>
  some x1
  else
  some false).bind fun ok =>
 some (.inl (ok,w64 (t.2 + 1)))
 else
 some (.inr t.1)
theorem rQ (s : State) (t : Bool × Int) : Lo (gv s t) (jc s t):=by
 unfold gv jc
 repeat' (first | with_reducible exact dz _ | with_reducible refine ad ?_ ?_ ?_ ?_ ?_ | with_reducible refine ab ?_ ?_ ?_ ?_ | with_reducible refine aa ?_ ?_ ?_ | with_reducible refine ae ?_ ?_ | with_reducible refine ah ?_ ?_ | with_reducible refine ai ?_ _ | (intro _) | with_reducible exact ag _ | exact af | (dsimp only))
def jH (s : State) : Option Bool :=
 (itr 4096 (gv s) (true,0)).bind fun ok1 =>
 (itr 4096 (gx s) (ok1,0)).bind fun ok3 =>
 (itr 4096 (gD s) (ok3,0)).bind fun ok5 =>
 (itr 4096 (gz s) (ok5,0)).bind fun ok9 =>
 some ok9
theorem tN (s : State) : Lo (jH s) (gR s):=by
 unfold jH gR
 repeat' (first | with_reducible exact rQ _ _ | with_reducible exact rn _ _ | with_reducible exact rB _ _ | with_reducible exact rb _ _ | with_reducible refine ad ?_ ?_ ?_ ?_ ?_ | with_reducible refine ab ?_ ?_ ?_ ?_ | with_reducible refine aa ?_ ?_ ?_ | with_reducible refine ae ?_ ?_ | with_reducible refine ah ?_ ?_ | with_reducible refine ai ?_ _ | (intro _) | with_reducible exact ag _ | exact af | (dsimp only))
def fd (s : State) (t4 : Bool × Int) : Option ((Bool × Int) ⊕ Bool) :=
 bif decide (t4.2 < (s.Plans.length : Int)) then
 (
  bif t4.1 then
  (idx s.Plans (w64 (t4.2 - 1))).bind fun x8 =>
  (idx s.Plans t4.2).bind fun x9 =>
  let ok12:=decide (x8.Id < x9.Id)
  some ok12
  else
  some false).bind fun ok13 =>
 some (.inl (ok13,w64 (t4.2 + 1)))
 else
 some (.inr t4.1)
theorem qc (s : State) (t4 : Bool × Int) : Lo (fd s t4) (gj s t4):=by
 unfold fd gj
 repeat' (first | with_reducible refine ad ?_ ?_ ?_ ?_ ?_ | with_reducible refine ab ?_ ?_ ?_ ?_ | with_reducible refine aa ?_ ?_ ?_ | with_reducible refine ae ?_ ?_ | with_reducible refine ah ?_ ?_ | with_reducible refine ai ?_ _ | (intro _) | with_reducible exact ag _ | exact af | (dsimp only))
def fb (s : State) (t3 : Bool × Int) : Option ((Bool × Int) ⊕ Bool) :=
 bif decide (t3.2 < (s.Slots.length : Int)) then
 (
  bif t3.1 then
  (idx s.Slots (w64 (t3.2 - 1))).bind fun x6 =>
  (idx s.Slots t3.2).bind fun x7 =>
  let ok9:=decide (x6.Node < x7.Node)
  some ok9
  else
  some false).bind fun ok10 =>
 some (.inl (ok10,w64 (t3.2 + 1)))
 else
 some (.inr t3.1)
theorem qj (s : State) (t3 : Bool × Int) : Lo (fb s t3) (gf s t3):=by
 unfold fb gf
 repeat' (first | with_reducible refine ad ?_ ?_ ?_ ?_ ?_ | with_reducible refine ab ?_ ?_ ?_ ?_ | with_reducible refine aa ?_ ?_ ?_ | with_reducible refine ae ?_ ?_ | with_reducible refine ah ?_ ?_ | with_reducible refine ai ?_ _ | (intro _) | with_reducible exact ag _ | exact af | (dsimp only))
def eN (s : State) (t2 : Bool × Int) : Option ((Bool × Int) ⊕ Bool) :=
 bif decide (t2.2 < (s.Conts.length : Int)) then
 (
  bif t2.1 then
  (idx s.Conts (w64 (t2.2 - 1))).bind fun x4 =>
  (idx s.Conts t2.2).bind fun x5 =>
  let ok6:=decide (x4.Id < x5.Id)
  some ok6
  else
  some false).bind fun ok7 =>
 some (.inl (ok7,w64 (t2.2 + 1)))
 else
 some (.inr t2.1)
theorem pP (s : State) (t2 : Bool × Int) : Lo (eN s t2) (gw s t2):=by
 unfold eN gw
 repeat' (first | with_reducible refine ad ?_ ?_ ?_ ?_ ?_ | with_reducible refine ab ?_ ?_ ?_ ?_ | with_reducible refine aa ?_ ?_ ?_ | with_reducible refine ae ?_ ?_ | with_reducible refine ah ?_ ?_ | with_reducible refine ai ?_ _ | (intro _) | with_reducible exact ag _ | exact af | (dsimp only))
def eX (s : State) (t1 : Bool × Int) : Option ((Bool × Int) ⊕ Bool) :=
 bif decide (t1.2 < (s.Apps.length : Int)) then
 (
  bif t1.1 then
  (idx s.Apps (w64 (t1.2 - 1))).bind fun x2 =>
  (idx s.Apps t1.2).bind fun x3 =>
  let ok3:=decide (x2.Id < x3.Id)
  some ok3
  else
  some false).bind fun ok4 =>
 some (.inl (ok4,w64 (t1.2 + 1)))
 else
 some (.inr t1.1)
theorem pX (s : State) (t1 : Bool × Int) : Lo (eX s t1) (gr s t1):=by
 unfold eX gr
 repeat' (first | with_reducible refine ad ?_ ?_ ?_ ?_ ?_ | with_reducible refine ab ?_ ?_ ?_ ?_ | with_reducible refine aa ?_ ?_ ?_ | with_reducible refine ae ?_ ?_ | with_reducible refine ah ?_ ?_ | with_reducible refine ai ?_ _ | (intro _) | with_reducible exact ag _ | exact af | (dsimp only))
def e_ (s : State) (t : Bool × Int) : Option ((Bool × Int) ⊕ Bool) :=
 bif decide (t.2 < (s.Nodes.length : Int)) then
 (
  bif t.1 then
  (idx s.Nodes (w64 (t.2 - 1))).bind fun x =>
  (idx s.Nodes t.2).bind fun x1 =>
  let ok:=decide (x.Id < x1.Id)
  some ok
  else
  some false).bind fun ok1 =>
 some (.inl (ok1,w64 (t.2 + 1)))
 else
 some (.inr t.1)
theorem p9 (s : State) (t : Bool × Int) : Lo (e_ s t) (gH s t):=by
 unfold e_ gH
 repeat' (first | with_reducible refine ad ?_ ?_ ?_ ?_ ?_ | with_reducible refine ab ?_ ?_ ?_ ?_ | with_reducible refine aa ?_ ?_ ?_ | with_reducible refine ae ?_ ?_ | with_reducible refine ah ?_ ?_ | with_reducible refine ai ?_ _ | (intro _) | with_reducible exact ag _ | exact af | (dsimp only))
def ic (s : State) : Option Bool :=
 (
 bif decide ((s.Nodes.length : Int) > 12) then
  some true
 else
  bif decide ((s.Apps.length : Int) > 16) then
  some true
  else
  bif decide ((s.Conts.length : Int) > 200) then
   some true
  else
   some (decide ((s.Plans.length : Int) > 12))).bind fun q =>
 bif q then
 some false
 else
 (itr 4096 (e_ s) (true,1)).bind fun ok2 =>
 (itr 4096 (eX s) (ok2,1)).bind fun ok5 =>
 (itr 4096 (eN s) (ok5,1)).bind fun ok8 =>
 (itr 4096 (fb s) (ok8,1)).bind fun ok11 =>
 (itr 4096 (fd s) (ok11,1)).bind fun ok14 =>
 some ok14
theorem sv (s : State) : Lo (ic s) (fa s):=by
 unfold ic fa
 repeat' (first | with_reducible exact p9 _ _ | with_reducible exact pX _ _ | with_reducible exact pP _ _ | with_reducible exact qj _ _ | with_reducible exact qc _ _ | with_reducible refine ad ?_ ?_ ?_ ?_ ?_ | with_reducible refine ab ?_ ?_ ?_ ?_ | with_reducible refine aa ?_ ?_ ?_ | with_reducible refine ae ?_ ?_ | with_reducible refine ah ?_ ?_ | with_reducible refine ai ?_ _ | (intro _) | with_reducible exact ag _ | exact af | (dsimp only))
def fP (a : Vec) (b : Vec) : Option Vec :=
 some (⟨w64 (a.Mem + b.Mem),w64 (a.Cores + b.Cores)⟩ : Vec)
theorem nU (a : Vec) (b : Vec) : Lo (fP a b) (eJ a b):=by
 unfold fP eJ
 repeat' (first | with_reducible refine ad ?_ ?_ ?_ ?_ ?_ | with_reducible refine ab ?_ ?_ ?_ ?_ | with_reducible refine aa ?_ ?_ ?_ | with_reducible refine ae ?_ ?_ | with_reducible refine ah ?_ ?_ | with_reducible refine ai ?_ _ | (intro _) | with_reducible exact ag _ | exact af | (dsimp only))
def ia (s : State) (id_ : Int) (t : Vec × Int) : Option ((Vec × Int) ⊕ Vec) :=
 bif decide (t.2 < (s.Conts.length : Int)) then
 (
  (idx s.Conts t.2).bind fun x =>
  bif x.Node == id_ then
  (idx s.Conts t.2).bind fun x1 =>
  (fP t.1 x1.Size).bind fun x2 =>
  some x2
  else
  some t.1).bind fun v =>
 some (.inl (v,w64 (t.2 + 1)))
 else
 some (.inr t.1)
theorem sA (s : State) (id_ : Int) (t : Vec × Int) : Lo (ia s id_ t) (jQ s id_ t):=by
 unfold ia jQ
 repeat' (first | with_reducible exact nU _ _ | with_reducible refine ad ?_ ?_ ?_ ?_ ?_ | with_reducible refine ab ?_ ?_ ?_ ?_ | with_reducible refine aa ?_ ?_ ?_ | with_reducible refine ae ?_ ?_ | with_reducible refine ah ?_ ?_ | with_reducible refine ai ?_ _ | (intro _) | with_reducible exact ag _ | exact af | (dsimp only))
def ky (s : State) (id_ : Int) : Option Vec :=
 (itr 4096 (ia s id_) ((⟨0,0⟩ : Vec),0)).bind fun v1 =>
 some v1
theorem uH (s : State) (id_ : Int) : Lo (ky s id_) (iE s id_):=by
 unfold ky iE
 repeat' (first | with_reducible exact sA _ _ _ | with_reducible refine ad ?_ ?_ ?_ ?_ ?_ | with_reducible refine ab ?_ ?_ ?_ ?_ | with_reducible refine aa ?_ ?_ ?_ | with_reducible refine ae ?_ ?_ | with_reducible refine ah ?_ ?_ | with_reducible refine ai ?_ _ | (intro _) | with_reducible exact ag _ | exact af | (dsimp only))
def iy (s : State) (i : Int) : Option (Int ⊕ (Bool ⊕ Unit)) :=
 bif decide (i < (s.Nodes.length : Int)) then
 (idx s.Nodes i).bind fun x =>
 (ky s x.Id).bind fun x1 =>
 (
  (idx s.Nodes i).bind fun x2 =>
  bif decide (x1.Mem > x2.Cap.Mem) then
  some true
  else
  (idx s.Nodes i).bind fun x3 =>
  some (decide (x1.Cores > x3.Cap.Cores))).bind fun q =>
 bif q then
  some (.inr (.inl false))
 else
  some (.inl (w64 (i + 1)))
 else
 some (.inr (.inr ()))
theorem sL (s : State) (i : Int) : Lo (iy s i) (jB s i):=by
 unfold iy jB
 repeat' (first | with_reducible exact uH _ _ | with_reducible refine ad ?_ ?_ ?_ ?_ ?_ | with_reducible refine ab ?_ ?_ ?_ ?_ | with_reducible refine aa ?_ ?_ ?_ | with_reducible refine ae ?_ ?_ | with_reducible refine ah ?_ ?_ | with_reducible refine ai ?_ _ | (intro _) | with_reducible exact ag _ | exact af | (dsimp only))
def kt (s : State) : Option Bool :=
 (itr 4096 (iy s) 0).bind fun q0 =>
 match q0 with
 | .inl q1 =>
 some q1
 | .inr _ =>
 some true
theorem uJ (s : State) : Lo (kt s) (iI s):=by
 unfold kt iI
 repeat' (first | with_reducible exact sL _ _ | with_reducible refine ad ?_ ?_ ?_ ?_ ?_ | with_reducible refine ab ?_ ?_ ?_ ?_ | with_reducible refine aa ?_ ?_ ?_ | with_reducible refine ae ?_ ?_ | with_reducible refine ah ?_ ?_ | with_reducible refine ai ?_ _ | (intro _) | with_reducible exact ag _ | exact af | (dsimp only))
def iC (s : State) (id_ : Int) (t : Node × Int) : Option ((Node × Int) ⊕ ((Node × Bool) ⊕ Node)) :=
 bif decide (t.2 < (s.Nodes.length : Int)) then
 (idx s.Nodes t.2).bind fun x =>
 bif x.Id == id_ then
  (idx s.Nodes t.2).bind fun x1 =>
  some (.inr (.inl (x1,true)))
 else
  some (.inl (t.1,w64 (t.2 + 1)))
 else
 some (.inr (.inr (t.1)))
theorem sx (s : State) (id_ : Int) (t : Node × Int) : Lo (iC s id_ t) (jK s id_ t):=by
 unfold iC jK
 repeat' (first | with_reducible refine ad ?_ ?_ ?_ ?_ ?_ | with_reducible refine ab ?_ ?_ ?_ ?_ | with_reducible refine aa ?_ ?_ ?_ | with_reducible refine ae ?_ ?_ | with_reducible refine ah ?_ ?_ | with_reducible refine ai ?_ _ | (intro _) | with_reducible exact ag _ | exact af | (dsimp only))
def fO (s : State) (id_ : Int) : Option (Node × Bool) :=
 (itr 4096 (iC s id_) ((⟨0,0,0,⟨0,0⟩,0,0,false⟩ : Node),0)).bind fun q0 =>
 match q0 with
 | .inl q =>
 some (q.1,q.2)
 | .inr q1 =>
 some ((⟨0,0,0,⟨0,0⟩,0,0,false⟩ : Node),false)
theorem n8 (s : State) (id_ : Int) : Lo (fO s id_) (eM s id_):=by
 unfold fO eM
 repeat' (first | with_reducible exact sx _ _ _ | with_reducible refine ad ?_ ?_ ?_ ?_ ?_ | with_reducible refine ab ?_ ?_ ?_ ?_ | with_reducible refine aa ?_ ?_ ?_ | with_reducible refine ae ?_ ?_ | with_reducible refine ah ?_ ?_ | with_reducible refine ai ?_ _ | (intro _) | with_reducible exact ag _ | exact af | (dsimp only))
def eD (s : State) (app_ : Int) (t : Int × Int × Int) : Option ((Int × Int × Int) ⊕ ((Int × Int))) :=
 bif decide (t.2.2 < (s.Conts.length : Int)) then
 (
  (idx s.Conts t.2.2).bind fun x =>
  bif x.App == app_ then
  (idx s.Conts t.2.2).bind fun x1 =>
  bif x1.Master then
   some (w64 (t.1 + 1),w64 (t.2.1 + 1))
  else
   some (t.1,w64 (t.2.1 + 1))
  else
  some (t.1,t.2.1)).bind fun q =>
 some (.inl (q.1,q.2,w64 (t.2.2 + 1)))
 else
 some (.inr (t.1,t.2.1))
theorem pM (s : State) (app_ : Int) (t : Int × Int × Int) : Lo (eD s app_ t) (ft s app_ t):=by
 unfold eD ft
 repeat' (first | with_reducible refine ad ?_ ?_ ?_ ?_ ?_ | with_reducible refine ab ?_ ?_ ?_ ?_ | with_reducible refine aa ?_ ?_ ?_ | with_reducible refine ae ?_ ?_ | with_reducible refine ah ?_ ?_ | with_reducible refine ai ?_ _ | (intro _) | with_reducible exact ag _ | exact af | (dsimp only))
def gu (s : State) (app_ : Int) : Option (Int × Int) :=
 (itr 4096 (eD s app_) (0,0,0)).bind fun q1 =>
 some (q1.1,q1.2)
theorem rj (s : State) (app_ : Int) : Lo (gu s app_) (er s app_):=by
 unfold gu er
 repeat' (first | with_reducible exact pM _ _ _ | with_reducible refine ad ?_ ?_ ?_ ?_ ?_ | with_reducible refine ab ?_ ?_ ?_ ?_ | with_reducible refine aa ?_ ?_ ?_ | with_reducible refine ae ?_ ?_ | with_reducible refine ah ?_ ?_ | with_reducible refine ai ?_ _ | (intro _) | with_reducible exact ag _ | exact af | (dsimp only))
def cD (c : Conf) (path : List UInt8) : Option Bool :=
 (dS c path).bind fun x =>
 bif x.2 then
 (fR c path).bind fun x1 =>
 some ((x1.length : Int) == 0)
 else
 some false
theorem u1 (c : Conf) (path : List UInt8) : Lo (cD c path) (cv c path):=by
 unfold cD cv
 repeat' (first | with_reducible exact jO _ _ | with_reducible exact nG _ _ | with_reducible refine ad ?_ ?_ ?_ ?_ ?_ | with_reducible refine ab ?_ ?_ ?_ ?_ | with_reducible refine aa ?_ ?_ ?_ | with_reducible refine ae ?_ ?_ | with_reducible refine ah ?_ ?_ | with_reducible refine ai ?_ _ | (intro _) | with_reducible exact ag _ | exact af | (dsimp only))
def fF (s : State) (i2 : Int) : Option (Int ⊕ (Bool ⊕ Unit)) :=
 bif decide (i2 < (s.Slots.length : Int)) then
 (idx s.Slots i2).bind fun x18 =>
 (fO s x18.Node).bind fun x19 =>
 (
  bif ! x19.2 then
  some true
  else
  some (! x19.1.Up)).bind fun q5 =>
 bif q5 then
  some (.inr (.inl false))
 else
  some (.inl (w64 (i2 + 1)))
 else
 some (.inr (.inr ()))
theorem qv (s : State) (i2 : Int) : Lo (fF s i2) (ie s i2):=by
 unfold fF ie
 repeat' (first | with_reducible exact n8 _ _ | with_reducible refine ad ?_ ?_ ?_ ?_ ?_ | with_reducible refine ab ?_ ?_ ?_ ?_ | with_reducible refine aa ?_ ?_ ?_ | with_reducible refine ae ?_ ?_ | with_reducible refine ah ?_ ?_ | with_reducible refine ai ?_ _ | (intro _) | with_reducible exact ag _ | exact af | (dsimp only))
def fM (s : State) (i1 : Int) : Option (Int ⊕ (Bool ⊕ Unit)) :=
 bif decide (i1 < (s.Apps.length : Int)) then
 (idx s.Apps i1).bind fun x8 =>
 (gu s x8.Id).bind fun x9 =>
 (
  bif x8.State == 2 then
  bif x9.1 != 1 then
   some true
  else
   bif x8.State == 1 then
   bif x9.2 != 0 then
    some true
   else
    (aZ x8).bind fun x10 =>
    bif x10 then
    (cD s.Conf x8.Queue).bind fun x11 =>
    some (! x11)
    else
    some false
   else
   (aZ x8).bind fun x12 =>
   bif x12 then
    (cD s.Conf x8.Queue).bind fun x13 =>
    some (! x13)
   else
    some false
  else
  bif x8.State == 1 then
   bif x9.2 != 0 then
   some true
   else
   (aZ x8).bind fun x14 =>
   bif x14 then
    (cD s.Conf x8.Queue).bind fun x15 =>
    some (! x15)
   else
    some false
  else
   (aZ x8).bind fun x16 =>
   bif x16 then
   (cD s.Conf x8.Queue).bind fun x17 =>
   some (! x17)
   else
   some false).bind fun q3 =>
 bif q3 then
  some (.inr (.inl false))
 else
  some (.inl (w64 (i1 + 1)))
 else
 some (.inr (.inr ()))
theorem qu (s : State) (i1 : Int) : Lo (fM s i1) (iD s i1):=by
 unfold fM iD
 repeat' (first | with_reducible exact rj _ _ | with_reducible exact mU _ | with_reducible exact u1 _ _ | with_reducible refine ad ?_ ?_ ?_ ?_ ?_ | with_reducible refine ab ?_ ?_ ?_ ?_ | with_reducible refine aa ?_ ?_ ?_ | with_reducible refine ae ?_ ?_ | with_reducible refine ah ?_ ?_ | with_reducible refine ai ?_ _ | (intro _) | with_reducible exact ag _ | exact af | (dsimp only))
def fu (s : State) (i : Int) : Option (Int ⊕ (Bool ⊕ Unit)) :=
 bif decide (i < (s.Conts.length : Int)) then
 (idx s.Conts i).bind fun x4 =>
 (cf s x4.App).bind fun x5 =>
 (fO s x4.Node).bind fun x6 =>
 (
  bif ! x5.2 then
  some true
  else
  (aZ x5.1).bind fun x7 =>
  bif ! x7 then
   some true
  else
   bif ! x6.2 then
   some true
   else
   bif ! x6.1.Up then
    some true
   else
    bif x6.1.Label != x4.Label then
    some true
    else
    bif decide (x4.Notice < 0) then
     some true
    else
     some (decide (x4.Notice > (imax s.Now 1)))).bind fun q1 =>
 bif q1 then
  some (.inr (.inl false))
 else
  some (.inl (w64 (i + 1)))
 else
 some (.inr (.inr ()))
theorem qX (s : State) (i : Int) : Lo (fu s i) (hP s i):=by
 unfold fu hP
 repeat' (first | with_reducible exact iT _ _ | with_reducible exact n8 _ _ | with_reducible exact mU _ | with_reducible refine ad ?_ ?_ ?_ ?_ ?_ | with_reducible refine ab ?_ ?_ ?_ ?_ | with_reducible refine aa ?_ ?_ ?_ | with_reducible refine ae ?_ ?_ | with_reducible refine ah ?_ ?_ | with_reducible refine ai ?_ _ | (intro _) | with_reducible exact ag _ | exact af | (dsimp only))
def iN (s : State) : Option Bool :=
 (
 (j7 s.Conf).bind fun x =>
 bif x != 0 then
  some true
 else
  (jH s).bind fun x1 =>
  bif ! x1 then
  some true
  else
  (ic s).bind fun x2 =>
  bif ! x2 then
   some true
  else
   (kt s).bind fun x3 =>
   some (! x3)).bind fun q =>
 bif q then
 some false
 else
 (itr 4096 (fu s) 0).bind fun q0 =>
 match q0 with
 | .inl q2 =>
  some q2
 | .inr _ =>
  (itr 4096 (fM s) 0).bind fun q0 =>
  match q0 with
  | .inl q4 =>
  some q4
  | .inr _ =>
  (itr 4096 (fF s) 0).bind fun q0 =>
  match q0 with
  | .inl q6 =>
   some q6
  | .inr _ =>
   some true
theorem tF (s : State) : Lo (iN s) (fV s):=by
 unfold iN fV
 repeat' (first | with_reducible exact ug _ | with_reducible exact tN _ | with_reducible exact sv _ | with_reducible exact uJ _ | with_reducible exact qX _ _ | with_reducible exact qu _ _ | with_reducible exact qv _ _ | with_reducible refine ad ?_ ?_ ?_ ?_ ?_ | with_reducible refine ab ?_ ?_ ?_ ?_ | with_reducible refine aa ?_ ?_ ?_ | with_reducible refine ae ?_ ?_ | with_reducible refine ah ?_ ?_ | with_reducible refine ai ?_ _ | (intro _) | with_reducible exact ag _ | exact af | (dsimp only))
def jG (t : List UInt8 × List (List UInt8)) : Option ((List UInt8 × List (List UInt8)) ⊕ List (List UInt8)) :=
 bif ! (t.1 == ([] : List UInt8)) then
 (app 16 t.2 [t.1]).bind fun l =>
 (dB t.1).bind fun path1 =>
 some (.inl (path1,l))
 else
 some (.inr t.2)
theorem ua (t : List UInt8 × List (List UInt8)) : Lo (jG t) (lh t):=by
 unfold jG lh
 repeat' (first | with_reducible exact iX _ | with_reducible refine ad ?_ ?_ ?_ ?_ ?_ | with_reducible refine ab ?_ ?_ ?_ ?_ | with_reducible refine aa ?_ ?_ ?_ | with_reducible refine ae ?_ ?_ | with_reducible refine ah ?_ ?_ | with_reducible refine ai ?_ _ | (intro _) | with_reducible exact ag _ | exact af | (dsimp only))
def lH (path : List UInt8) : Option (List (List UInt8)) :=
 (itr 4096 jG (path,[])).bind fun l1 =>
 some l1
theorem vW (path : List UInt8) : Lo (lH path) (kN path):=by
 unfold lH kN
 repeat' (first | with_reducible exact ua _ | with_reducible refine ad ?_ ?_ ?_ ?_ ?_ | with_reducible refine ab ?_ ?_ ?_ ?_ | with_reducible refine aa ?_ ?_ ?_ | with_reducible refine ae ?_ ?_ | with_reducible refine ah ?_ ?_ | with_reducible refine ai ?_ _ | (intro _) | with_reducible exact ag _ | exact af | (dsimp only))
def fr (path : List UInt8) (up : List (List UInt8)) (i : Int) : Option (Int ⊕ (Bool ⊕ Unit)) :=
 bif decide (i < (up.length : Int)) then
 (inb i up.length).bind fun i1 =>
 (up[i1]?).bind fun x =>
 bif x == path then
  some (.inr (.inl true))
 else
  some (.inl (w64 (i + 1)))
 else
 some (.inr (.inr ()))
theorem qU (path : List UInt8) (up : List (List UInt8)) (i : Int) : Lo (fr path up i) (hU path up i):=by
 unfold fr hU
 repeat' (first | with_reducible refine ad ?_ ?_ ?_ ?_ ?_ | with_reducible refine ab ?_ ?_ ?_ ?_ | with_reducible refine aa ?_ ?_ ?_ | with_reducible refine ae ?_ ?_ | with_reducible refine ah ?_ ?_ | with_reducible refine ai ?_ _ | (intro _) | with_reducible exact ag _ | exact af | (dsimp only))
def ju (leaf : List UInt8) (path : List UInt8) : Option Bool :=
 (lH leaf).bind fun up =>
 (itr 4096 (fr path up) 0).bind fun q0 =>
 match q0 with
 | .inl q =>
 some q
 | .inr _ =>
 some false
theorem tC (leaf : List UInt8) (path : List UInt8) : Lo (ju leaf path) (fW leaf path):=by
 unfold ju fW
 repeat' (first | with_reducible exact vW _ | with_reducible exact qU _ _ _ | with_reducible refine ad ?_ ?_ ?_ ?_ ?_ | with_reducible refine ab ?_ ?_ ?_ ?_ | with_reducible refine aa ?_ ?_ ?_ | with_reducible refine ae ?_ ?_ | with_reducible refine ah ?_ ?_ | with_reducible refine ai ?_ _ | (intro _) | with_reducible exact ag _ | exact af | (dsimp only))
def gn (s : State) (path : List UInt8) (label : Int) (all : Bool) (user : Int) (t : Vec × Int) : Option ((Vec × Int) ⊕ Vec) :=
 bif decide (t.2 < (s.Conts.length : Int)) then
 (
  (idx s.Conts t.2).bind fun x =>
  (cf s x.App).bind fun x1 =>
  (
  bif x1.2 then
   (idx s.Conts t.2).bind fun x2 =>
   bif x2.Label == label then
   (ju x1.1.Queue path).bind fun x3 =>
   bif x3 then
    bif all then
    some true
    else
    some (x1.1.User == user)
   else
    some false
   else
   some false
  else
   some false).bind fun q =>
  bif q then
  (idx s.Conts t.2).bind fun x4 =>
  (fP t.1 x4.Size).bind fun x5 =>
  some x5
  else
  some t.1).bind fun v =>
 some (.inl (v,w64 (t.2 + 1)))
 else
 some (.inr t.1)
theorem rT (s : State) (path : List UInt8) (label : Int) (all : Bool) (user : Int) (t : Vec × Int) : Lo (gn s path label all user t) (jo s path label all user t):=by
 unfold gn jo
 repeat' (first | with_reducible exact iT _ _ | with_reducible exact tC _ _ | with_reducible exact nU _ _ | with_reducible refine ad ?_ ?_ ?_ ?_ ?_ | with_reducible refine ab ?_ ?_ ?_ ?_ | with_reducible refine aa ?_ ?_ ?_ | with_reducible refine ae ?_ ?_ | with_reducible refine ah ?_ ?_ | with_reducible refine ai ?_ _ | (intro _) | with_reducible exact ag _ | exact af | (dsimp only))
def jD (s : State) (path : List UInt8) (label : Int) (all : Bool) (user : Int) : Option Vec :=
 (itr 4096 (gn s path label all user) ((⟨0,0⟩ : Vec),0)).bind fun v1 =>
 some v1
theorem tW (s : State) (path : List UInt8) (label : Int) (all : Bool) (user : Int) : Lo (jD s path label all user) (gJ s path label all user):=by
 unfold jD gJ
 repeat' (first | with_reducible exact rT _ _ _ _ _ _ | with_reducible refine ad ?_ ?_ ?_ ?_ ?_ | with_reducible refine ab ?_ ?_ ?_ ?_ | with_reducible refine aa ?_ ?_ ?_ | with_reducible refine ae ?_ ?_ | with_reducible refine ah ?_ ?_ | with_reducible refine ai ?_ _ | (intro _) | with_reducible exact ag _ | exact af | (dsimp only))
def eW (s : State) (path : List UInt8) (label : Int) : Option Vec :=
 (jD s path label true 0).bind fun x =>
 some x
theorem uo (s : State) (path : List UInt8) (label : Int) : Lo (eW s path label) (eg s path label):=by
 unfold eW eg
 repeat' (first | with_reducible exact tW _ _ _ _ _ | with_reducible refine ad ?_ ?_ ?_ ?_ ?_ | with_reducible refine ab ?_ ?_ ?_ ?_ | with_reducible refine aa ?_ ?_ ?_ | with_reducible refine ae ?_ ?_ | with_reducible refine ah ?_ ?_ | with_reducible refine ai ?_ _ | (intro _) | with_reducible exact ag _ | exact af | (dsimp only))
def iq (units : Int) (t : State × Int) : Option ((State × Int) ⊕ State) :=
 bif decide (t.2 < units) then
 (app 72 t.1.Conts [(⟨t.2,1,1,⟨1,1⟩,0,0,t.2 == 1,0⟩ : Cont)]).bind fun l1 =>
 some (.inl ((⟨⟨t.1.Conf.Labels,t.1.Conf.Queues⟩,t.1.Nodes,t.1.Apps,l1,t.1.Slots,t.1.Plans,t.1.Now,t.1.Epoch,t.1.Seq⟩ : State),w64 (t.2 + 1)))
 else
 some (.inr t.1)
theorem sn (units : Int) (t : State × Int) : Lo (iq units t) (jS units t):=by
 unfold iq jS
 repeat' (first | with_reducible refine ad ?_ ?_ ?_ ?_ ?_ | with_reducible refine ab ?_ ?_ ?_ ?_ | with_reducible refine aa ?_ ?_ ?_ | with_reducible refine ae ?_ ?_ | with_reducible refine ah ?_ ?_ | with_reducible refine ai ?_ _ | (intro _) | with_reducible exact ag _ | exact af | (dsimp only))
def kE (units : Int) (wants : Int) (least : Int) : Option State :=
 (dW).bind fun x =>
 (app 48 x.Conf.Queues [(⟨([114,111,111,116,46,97] : List UInt8),[(⟨w64 (10000 - least),10000⟩ : Cap)],1000000⟩ : Queue),(⟨([114,111,111,116,46,98] : List UInt8),[(⟨least,10000⟩ : Cap)],1000000⟩ : Queue)]).bind fun l =>
 (
 bif decide (wants > 0) then
  (inb 1 [(⟨1,2,([114,111,111,116,46,97] : List UInt8),0,0,⟨1,1⟩,[],10,0,[],[],[],[]⟩ : App),(⟨2,2,([114,111,111,116,46,98] : List UInt8),0,0,⟨1,1⟩,[],10,0,[],[],[],[]⟩ : App)].length).bind fun i =>
  ([(⟨1,2,([114,111,111,116,46,97] : List UInt8),0,0,⟨1,1⟩,[],10,0,[],[],[],[]⟩ : App),(⟨2,2,([114,111,111,116,46,98] : List UInt8),0,0,⟨1,1⟩,[],10,0,[],[],[],[]⟩ : App)][i]?).bind fun x1 =>
  some (⟨⟨x.Conf.Labels,l⟩,[(⟨1,0,0,⟨units,units⟩,10,0,true⟩ : Node)],List.set [(⟨1,2,([114,111,111,116,46,97] : List UInt8),0,0,⟨1,1⟩,[],10,0,[],[],[],[]⟩ : App),(⟨2,2,([114,111,111,116,46,98] : List UInt8),0,0,⟨1,1⟩,[],10,0,[],[],[],[]⟩ : App)] i (⟨x1.Id,x1.State,x1.Queue,x1.User,x1.Prio,⟨x1.Master.Mem,x1.Master.Cores⟩,[(⟨1,0,⟨1,1⟩,wants,(-1),(-1),0⟩ : Ask)],x1.Seen,x1.Beat,x1.Grants,x1.Kills,x1.Told,x1.Lost⟩ : App),x.Conts,x.Slots,x.Plans,10,x.Epoch,x.Seq⟩ : State)
 else
  some (⟨⟨x.Conf.Labels,l⟩,[(⟨1,0,0,⟨units,units⟩,10,0,true⟩ : Node)],[(⟨1,2,([114,111,111,116,46,97] : List UInt8),0,0,⟨1,1⟩,[],10,0,[],[],[],[]⟩ : App),(⟨2,2,([114,111,111,116,46,98] : List UInt8),0,0,⟨1,1⟩,[],10,0,[],[],[],[]⟩ : App)],x.Conts,x.Slots,x.Plans,10,x.Epoch,x.Seq⟩ : State)).bind fun s =>
 (itr 4096 (iq units) (s,1)).bind fun s1 =>
 (app 72 s1.Conts [(⟨units,2,1,⟨1,1⟩,0,0,true,0⟩ : Cont)]).bind fun l2 =>
 some (⟨⟨s1.Conf.Labels,s1.Conf.Queues⟩,s1.Nodes,s1.Apps,l2,s1.Slots,s1.Plans,s1.Now,s1.Epoch,units⟩ : State)
theorem uP (units : Int) (wants : Int) (least : Int) : Lo (kE units wants least) (iJ units wants least):=by
 unfold kE iJ
 repeat' (first | with_reducible exact nk  | with_reducible exact sn _ _ | with_reducible refine ad ?_ ?_ ?_ ?_ ?_ | with_reducible refine ab ?_ ?_ ?_ ?_ | with_reducible refine aa ?_ ?_ ?_ | with_reducible refine ae ?_ ?_ | with_reducible refine ah ?_ ?_ | with_reducible refine ai ?_ _ | (intro _) | with_reducible exact ag _ | exact af | (dsimp only))
def aC (units : Int) (wants : Int) : Option Bool :=
 (ew).bind fun x =>
 bif ! x then
 some false
 else
 (bE units 7).bind fun x1 =>
 let units1:=w64 (2 * (w64 (3 + x1)))
 (bE wants (w64 ((w64 (Int.tdiv units1 2)) - 1))).bind fun x2 =>
 (kE units1 (w64 (1 + x2)) 5000).bind fun x3 =>
 (dv x3).bind fun x4 =>
 (dv (⟨⟨x4.1.Conf.Labels,x4.1.Conf.Queues⟩,x4.1.Nodes,x4.1.Apps,x4.1.Conts,x4.1.Slots,x4.1.Plans,w64 (x4.1.Now + 3),x4.1.Epoch,x4.1.Seq⟩ : State)).bind fun x5 =>
 (
  bif (x4.2.length : Int) != 0 then
  some true
  else
  bif (x5.2.length : Int) != (w64 (1 + x2)) then
   some true
  else
   some ((x5.1.Conts.length : Int) != (w64 (units1 - (w64 (1 + x2)))))).bind fun q =>
 bif q then
  some false
 else
  (cf x5.1 1).bind fun x6 =>
  (eW x5.1 ([114,111,111,116,46,97] : List UInt8) 0).bind fun x7 =>
  bif x7.Mem == (w64 ((w64 (units1 - 1)) - (w64 (1 + x2)))) then
  (eW x5.1 ([114,111,111,116,46,98] : List UInt8) 0).bind fun x8 =>
  bif x8.Mem == 1 then
   bif (x6.1.Kills.length : Int) == (w64 (1 + x2)) then
   (iN x5.1).bind fun x9 =>
   some x9
   else
   some false
  else
   some false
  else
  some false
theorem aK (units : Int) (wants : Int) : Lo (aC units wants) (ao units wants):=by
 unfold aC ao
 repeat' (first | with_reducible exact tp  | with_reducible exact sD _ _ | with_reducible exact uP _ _ _ | with_reducible exact rP _ | with_reducible exact iT _ _ | with_reducible exact uo _ _ _ | with_reducible exact tF _ | with_reducible refine ad ?_ ?_ ?_ ?_ ?_ | with_reducible refine ab ?_ ?_ ?_ ?_ | with_reducible refine aa ?_ ?_ ?_ | with_reducible refine ae ?_ ?_ | with_reducible refine ah ?_ ?_ | with_reducible refine ai ?_ _ | (intro _) | with_reducible exact ag _ | exact af | (dsimp only))
end Go.Fx.D
