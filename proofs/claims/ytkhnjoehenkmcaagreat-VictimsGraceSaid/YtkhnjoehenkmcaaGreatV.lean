/-
  The same functions with a bound on the rounds of their loops; that they give what the others give (printed by a program). Conditions: none.
-/
import Derived.Test.YtkhnjoehenkmcaaGreatD
import Derived.Test.YtkhnjoehenkmcaaGreatFxD
namespace Go.Fx.D
open Go Go.Fx
set_option linter.unusedVariables false
set_option linter.unusedSimpArgs false
set_option maxRecDepth 100000
def dK (k : Looker) (c : Cont) : Option Looker :=
 let e:=mget (fun x => c.Id == x.k) k.noticed (⟨c.Id,0⟩ : Ent4_IntInt)
 let e1:=mget (fun x2 => c.Id == x2.k) k.leaf (⟨c.Id,[]⟩ : Ent2_IntListUInt8)
 let e2:=mget (fun x3 => e1.v == x3.k) k.over (⟨e1.v,0⟩ : Ent0_ListUInt8Int)
 some (⟨⟨⟨k.s.Conf.Labels,k.s.Conf.Queues⟩,k.s.Nodes,k.s.Apps,k.s.Conts,k.s.Slots,k.s.Plans,k.s.Now,k.s.Epoch,k.s.Seq⟩,k.label,mput (fun x4 => e1.v == x4.k) k.over (⟨e1.v,w64 (e2.v - c.Size.Mem)⟩ : Ent0_ListUInt8Int),k.leaf,mput (fun x1 => c.Id == x1.k) k.noticed (⟨c.Id,w64 (e.v + 1)⟩ : Ent4_IntInt),w64 (k.gone + c.Size.Mem)⟩ : Looker)
theorem iU (k : Looker) (c : Cont) : Lo (dK k c) (cR k c):=by
 unfold dK cR
 repeat' (first | with_reducible refine ad ?_ ?_ ?_ ?_ ?_ | with_reducible refine ae ?_ ?_ ?_ ?_ | with_reducible refine ab ?_ ?_ ?_ | with_reducible refine ag ?_ ?_ | with_reducible refine aj ?_ ?_ | with_reducible refine ak ?_ _ | (intro _) | with_reducible exact ai _ | exact ah | (dsimp only))
def eb (v : Vec) : Option Bool :=
 bif decide (v.Mem ≥ 0) then
 bif decide (v.Mem ≤ 1125899906842624) then
  bif decide (v.Cores ≥ 0) then
  some (decide (v.Cores ≤ 1125899906842624))
  else
  some false
 else
  some false
 else
 some false
theorem kN (v : Vec) : Lo (eb v) (eo v):=by
 unfold eb eo
 repeat' (first | with_reducible refine ad ?_ ?_ ?_ ?_ ?_ | with_reducible refine ae ?_ ?_ ?_ ?_ | with_reducible refine ab ?_ ?_ ?_ | with_reducible refine ag ?_ ?_ | with_reducible refine aj ?_ ?_ | with_reducible refine ak ?_ _ | (intro _) | with_reducible exact ai _ | exact ah | (dsimp only))
def nh (v : Vec) : Option (Vec × Int) :=
 (eb v).bind fun x =>
 bif ! x then
 some ((⟨0,0⟩ : Vec),11)
 else
 some (v,0)
theorem uW (v : Vec) : Lo (nh v) (nQ v):=by
 unfold nh nQ
 repeat' (first | with_reducible exact kN _ | with_reducible refine ad ?_ ?_ ?_ ?_ ?_ | with_reducible refine ae ?_ ?_ ?_ ?_ | with_reducible refine ab ?_ ?_ ?_ | with_reducible refine ag ?_ ?_ | with_reducible refine aj ?_ ?_ | with_reducible refine ak ?_ _ | (intro _) | with_reducible exact ai _ | exact ah | (dsimp only))
def lH (a : Vec) (b : Vec) : Option (Vec × Int) :=
 (
 (eb a).bind fun x =>
 bif ! x then
  some true
 else
  (eb b).bind fun x1 =>
  some (! x1)).bind fun q =>
 bif q then
 some ((⟨0,0⟩ : Vec),1)
 else
 (nh (⟨w64 (a.Mem + b.Mem),w64 (a.Cores + b.Cores)⟩ : Vec)).bind fun x2 =>
 some (x2.1,x2.2)
theorem rz (a : Vec) (b : Vec) : Lo (lH a b) (mA a b):=by
 unfold lH mA
 repeat' (first | with_reducible exact kN _ | with_reducible exact uW _ | with_reducible refine ad ?_ ?_ ?_ ?_ ?_ | with_reducible refine ae ?_ ?_ ?_ ?_ | with_reducible refine ab ?_ ?_ ?_ | with_reducible refine ag ?_ ?_ | with_reducible refine aj ?_ ?_ | with_reducible refine ak ?_ _ | (intro _) | with_reducible exact ai _ | exact ah | (dsimp only))
def m6 (l : List Vec) (t : Vec × Int) : Option ((Vec × Int) ⊕ Vec) :=
 bif decide (t.2 < (l.length : Int)) then
 (idx l t.2).bind fun x =>
 (lH t.1 x).bind fun x1 =>
 some (.inl (x1.1,w64 (t.2 + 1)))
 else
 some (.inr t.1)
theorem xz (l : List Vec) (t : Vec × Int) : Lo (m6 l t) (qp l t):=by
 unfold m6 qp
 repeat' (first | with_reducible exact rz _ _ | with_reducible refine ad ?_ ?_ ?_ ?_ ?_ | with_reducible refine ae ?_ ?_ ?_ ?_ | with_reducible refine ab ?_ ?_ ?_ | with_reducible refine ag ?_ ?_ | with_reducible refine aj ?_ ?_ | with_reducible refine ak ?_ _ | (intro _) | with_reducible exact ai _ | exact ah | (dsimp only))
def rr (l : List Vec) : Option Vec :=
 (itr 4096 (m6 l) ((⟨0,0⟩ : Vec),0)).bind fun out =>
 some out
theorem zJ (l : List Vec) : Lo (rr l) (qR l):=by
 unfold rr qR
 repeat' (first | with_reducible exact xz _ _ | with_reducible refine ad ?_ ?_ ?_ ?_ ?_ | with_reducible refine ae ?_ ?_ ?_ ?_ | with_reducible refine ab ?_ ?_ ?_ | with_reducible refine ag ?_ ?_ | with_reducible refine aj ?_ ?_ | with_reducible refine ak ?_ _ | (intro _) | with_reducible exact ai _ | exact ah | (dsimp only))
def kH (s : State) (label : Int) (t : List Vec × Int) : Option ((List Vec × Int) ⊕ List Vec) :=
 bif decide (t.2 < (s.Nodes.length : Int)) then
 (
  (idx s.Nodes t.2).bind fun x =>
  (
  bif x.Up then
   some (x.Label == label)
  else
   some false).bind fun q =>
  bif q then
  (app 16 t.1 [x.Cap]).bind fun l =>
  some l
  else
  some t.1).bind fun l1 =>
 some (.inl (l1,w64 (t.2 + 1)))
 else
 some (.inr t.1)
theorem vZ (s : State) (label : Int) (t : List Vec × Int) : Lo (kH s label t) (mv s label t):=by
 unfold kH mv
 repeat' (first | with_reducible refine ad ?_ ?_ ?_ ?_ ?_ | with_reducible refine ae ?_ ?_ ?_ ?_ | with_reducible refine ab ?_ ?_ ?_ | with_reducible refine ag ?_ ?_ | with_reducible refine aj ?_ ?_ | with_reducible refine ak ?_ _ | (intro _) | with_reducible exact ai _ | exact ah | (dsimp only))
def ii (s : State) (label : Int) : Option Vec :=
 (itr 4096 (kH s label) ([],0)).bind fun l2 =>
 (rr l2).bind fun x1 =>
 some x1
theorem mW (s : State) (label : Int) : Lo (ii s label) (iu s label):=by
 unfold ii iu
 repeat' (first | with_reducible exact vZ _ _ _ | with_reducible exact zJ _ | with_reducible refine ad ?_ ?_ ?_ ?_ ?_ | with_reducible refine ae ?_ ?_ ?_ ?_ | with_reducible refine ab ?_ ?_ ?_ | with_reducible refine ag ?_ ?_ | with_reducible refine aj ?_ ?_ | with_reducible refine ak ?_ _ | (intro _) | with_reducible exact ai _ | exact ah | (dsimp only))
def gN (v : View) (c : Cont) (t : App × Int) : Option ((App × Int) ⊕ ((App × Bool) ⊕ App)) :=
 bif decide (t.2 < (v.s.Apps.length : Int)) then
 (idx v.s.Apps t.2).bind fun x =>
 bif x.Id == c.App then
  some (.inr (.inl (x,true)))
 else
  some (.inl (t.1,w64 (t.2 + 1)))
 else
 some (.inr (.inr (t.1)))
theorem rV (v : View) (c : Cont) (t : App × Int) : Lo (gN v c t) (iH v c t):=by
 unfold gN iH
 repeat' (first | with_reducible refine ad ?_ ?_ ?_ ?_ ?_ | with_reducible refine ae ?_ ?_ ?_ ?_ | with_reducible refine ab ?_ ?_ ?_ | with_reducible refine ag ?_ ?_ | with_reducible refine aj ?_ ?_ | with_reducible refine ak ?_ _ | (intro _) | with_reducible exact ai _ | exact ah | (dsimp only))
def jg (v : View) (c : Cont) : Option (App × Bool) :=
 (itr 4096 (gN v c) ((⟨0,0,[],0,0,⟨0,0⟩,[],0,0,[],[],[],[]⟩ : App),0)).bind fun q0 =>
 match q0 with
 | .inl q =>
 some (q.1,q.2)
 | .inr q1 =>
 some ((⟨0,0,[],0,0,⟨0,0⟩,[],0,0,[],[],[],[]⟩ : App),false)
theorem uj (v : View) (c : Cont) : Lo (jg v c) (gX v c):=by
 unfold jg gX
 repeat' (first | with_reducible exact rV _ _ _ | with_reducible refine ad ?_ ?_ ?_ ?_ ?_ | with_reducible refine ae ?_ ?_ ?_ ?_ | with_reducible refine ab ?_ ?_ ?_ | with_reducible refine ag ?_ ?_ | with_reducible refine aj ?_ ?_ | with_reducible refine ak ?_ _ | (intro _) | with_reducible exact ai _ | exact ah | (dsimp only))
def fg (s : List UInt8) (prefix_ : List UInt8) : Option Bool :=
 bif decide ((s.length : Int) ≥ (prefix_.length : Int)) then
 (slc s 0 (prefix_.length : Int)).bind fun s1 =>
 some (s1 == prefix_)
 else
 some false
theorem pU (s : List UInt8) (prefix_ : List UInt8) : Lo (fg s prefix_) (ef s prefix_):=by
 unfold fg ef
 repeat' (first | with_reducible refine ad ?_ ?_ ?_ ?_ ?_ | with_reducible refine ae ?_ ?_ ?_ ?_ | with_reducible refine ab ?_ ?_ ?_ | with_reducible refine ag ?_ ?_ | with_reducible refine aj ?_ ?_ | with_reducible refine ak ?_ _ | (intro _) | with_reducible exact ai _ | exact ah | (dsimp only))
def iy (s : List UInt8) (prefix_ : List UInt8) : Option Bool :=
 (fg s prefix_).bind fun x =>
 some x
theorem sT (s : List UInt8) (prefix_ : List UInt8) : Lo (iy s prefix_) (gj s prefix_):=by
 unfold iy gj
 repeat' (first | with_reducible exact pU _ _ | with_reducible refine ad ?_ ?_ ?_ ?_ ?_ | with_reducible refine ae ?_ ?_ ?_ ?_ | with_reducible refine ab ?_ ?_ ?_ | with_reducible refine ag ?_ ?_ | with_reducible refine aj ?_ ?_ | with_reducible refine ak ?_ _ | (intro _) | with_reducible exact ai _ | exact ah | (dsimp only))
def hH (v : View) (a : App) : Option Bool :=
 (
 bif a.Queue == v.path then
  some true
 else
  (cat v.path ([46] : List UInt8)).bind fun s =>
  (iy a.Queue s).bind fun x =>
  some x).bind fun below =>
 bif below then
 bif v.user == (-1) then
  some true
 else
  some (a.User == v.user)
 else
 some false
theorem oz (v : View) (a : App) : Lo (hH v a) (gE v a):=by
 unfold hH gE
 repeat' (first | with_reducible exact sT _ _ | with_reducible refine ad ?_ ?_ ?_ ?_ ?_ | with_reducible refine ae ?_ ?_ ?_ ?_ | with_reducible refine ab ?_ ?_ ?_ | with_reducible refine ag ?_ ?_ | with_reducible refine aj ?_ ?_ | with_reducible refine ak ?_ _ | (intro _) | with_reducible exact ai _ | exact ah | (dsimp only))
def gZ (v : View) (t : Vec × Int) : Option ((Vec × Int) ⊕ Vec) :=
 bif decide (t.2 < (v.s.Conts.length : Int)) then
 (
  (idx v.s.Conts t.2).bind fun x =>
  (jg v x).bind fun x1 =>
  (
  bif x1.2 then
   bif x.Label == v.label then
   (hH v x1.1).bind fun x2 =>
   some x2
   else
   some false
  else
   some false).bind fun q =>
  bif q then
  (lH t.1 x.Size).bind fun x3 =>
  some x3.1
  else
  some t.1).bind fun out =>
 some (.inl (out,w64 (t.2 + 1)))
 else
 some (.inr t.1)
theorem sd (v : View) (t : Vec × Int) : Lo (gZ v t) (jh v t):=by
 unfold gZ jh
 repeat' (first | with_reducible exact uj _ _ | with_reducible exact oz _ _ | with_reducible exact rz _ _ | with_reducible refine ad ?_ ?_ ?_ ?_ ?_ | with_reducible refine ae ?_ ?_ ?_ ?_ | with_reducible refine ab ?_ ?_ ?_ | with_reducible refine ag ?_ ?_ | with_reducible refine aj ?_ ?_ | with_reducible refine ak ?_ _ | (intro _) | with_reducible exact ai _ | exact ah | (dsimp only))
def jI (v : View) : Option Vec :=
 (itr 4096 (gZ v) ((⟨0,0⟩ : Vec),0)).bind fun out1 =>
 some out1
theorem vv (v : View) : Lo (jI v) (iO v):=by
 unfold jI iO
 repeat' (first | with_reducible exact sd _ _ | with_reducible refine ad ?_ ?_ ?_ ?_ ?_ | with_reducible refine ae ?_ ?_ ?_ ?_ | with_reducible refine ab ?_ ?_ ?_ | with_reducible refine ag ?_ ?_ | with_reducible refine aj ?_ ?_ | with_reducible refine ak ?_ _ | (intro _) | with_reducible exact ai _ | exact ah | (dsimp only))
def eR (s : State) (path : List UInt8) (label : Int) : Option Vec :=
 (jI (⟨⟨⟨s.Conf.Labels,s.Conf.Queues⟩,s.Nodes,s.Apps,s.Conts,s.Slots,s.Plans,s.Now,s.Epoch,s.Seq⟩,path,label,(-1)⟩ : View)).bind fun x =>
 some x
theorem ic (s : State) (path : List UInt8) (label : Int) : Lo (eR s path label) (fN s path label):=by
 unfold eR fN
 repeat' (first | with_reducible exact vv _ | with_reducible refine ad ?_ ?_ ?_ ?_ ?_ | with_reducible refine ae ?_ ?_ ?_ ?_ | with_reducible refine ab ?_ ?_ ?_ | with_reducible refine ag ?_ ?_ | with_reducible refine aj ?_ ?_ | with_reducible refine ak ?_ _ | (intro _) | with_reducible exact ai _ | exact ah | (dsimp only))
def cJ (s : List UInt8) (c : Int) (i1 : Int) : Option (Int ⊕ (Int ⊕ Unit)) :=
 bif decide (i1 ≥ 0) then
 (idx s i1).bind fun ch =>
 bif (ch.toNat : Int) == c then
  some (.inr (.inl i1))
 else
  some (.inl (w64 (i1 - 1)))
 else
 some (.inr (.inr ()))
theorem jX (s : List UInt8) (c : Int) (i1 : Int) : Lo (cJ s c i1) (du s c i1):=by
 unfold cJ du
 repeat' (first | with_reducible refine ad ?_ ?_ ?_ ?_ ?_ | with_reducible refine ae ?_ ?_ ?_ ?_ | with_reducible refine ab ?_ ?_ ?_ | with_reducible refine ag ?_ ?_ | with_reducible refine aj ?_ ?_ | with_reducible refine ak ?_ _ | (intro _) | with_reducible exact ai _ | exact ah | (dsimp only))
def dI (s : List UInt8) (c : Int) : Option Int :=
 let i:=w64 ((s.length : Int) - 1)
 (itr 4096 (cJ s c) i).bind fun q0 =>
 match q0 with
 | .inl q =>
 some q
 | .inr _ =>
 some (-1)
theorem mf (s : List UInt8) (c : Int) : Lo (dI s c) (cv s c):=by
 unfold dI cv
 repeat' (first | with_reducible exact jX _ _ _ | with_reducible refine ad ?_ ?_ ?_ ?_ ?_ | with_reducible refine ae ?_ ?_ ?_ ?_ | with_reducible refine ab ?_ ?_ ?_ | with_reducible refine ag ?_ ?_ | with_reducible refine aj ?_ ?_ | with_reducible refine ak ?_ _ | (intro _) | with_reducible exact ai _ | exact ah | (dsimp only))
def cU (t1 : Int × Int × Int) : Option ((Int × Int × Int) ⊕ Int) :=
 bif decide (t1.2.2 > 0) then
 (
  bif (andK .i64 t1.2.2 1) != 0 then
  let pow:=IntKind.u32.wrap (t1.1 * t1.2.1)
  some pow
  else
  some t1.1).bind fun pow1 =>
 let sq:=IntKind.u32.wrap (t1.2.1 * t1.2.1)
 some (.inl (pow1,sq,shrK .i64 t1.2.2 1))
 else
 some (.inr t1.1)
theorem kR (t1 : Int × Int × Int) : Lo (cU t1) (dG t1):=by
 unfold cU dG
 repeat' (first | with_reducible refine ad ?_ ?_ ?_ ?_ ?_ | with_reducible refine ae ?_ ?_ ?_ ?_ | with_reducible refine ab ?_ ?_ ?_ | with_reducible refine ag ?_ ?_ | with_reducible refine aj ?_ ?_ | with_reducible refine ak ?_ _ | (intro _) | with_reducible exact ai _ | exact ah | (dsimp only))
def cW (sep : List UInt8) (t : Int × Int) : Option ((Int × Int) ⊕ Int) :=
 bif decide (t.2 ≥ 0) then
 (idx sep t.2).bind fun ch =>
 let hash:=IntKind.u32.wrap ((IntKind.u32.wrap (t.1 * 16777619)) + (IntKind.u32.wrap (ch.toNat : Int)))
 some (.inl (hash,w64 (t.2 - 1)))
 else
 some (.inr t.1)
theorem kC (sep : List UInt8) (t : Int × Int) : Lo (cW sep t) (dD sep t):=by
 unfold cW dD
 repeat' (first | with_reducible refine ad ?_ ?_ ?_ ?_ ?_ | with_reducible refine ae ?_ ?_ ?_ ?_ | with_reducible refine ab ?_ ?_ ?_ | with_reducible refine ag ?_ ?_ | with_reducible refine aj ?_ ?_ | with_reducible refine ak ?_ _ | (intro _) | with_reducible exact ai _ | exact ah | (dsimp only))
def dU (sep : List UInt8) : Option (Int × Int) :=
 let i:=w64 ((sep.length : Int) - 1)
 (itr 4096 (cW sep) (0,i)).bind fun hash1 =>
 (itr 4096 cU (1,16777619,(sep.length : Int))).bind fun pow2 =>
 some (hash1,pow2)
theorem mh (sep : List UInt8) : Lo (dU sep) (cG sep):=by
 unfold dU cG
 repeat' (first | with_reducible exact kC _ _ | with_reducible exact kR _ | with_reducible refine ad ?_ ?_ ?_ ?_ ?_ | with_reducible refine ae ?_ ?_ ?_ ?_ | with_reducible refine ab ?_ ?_ ?_ | with_reducible refine ag ?_ ?_ | with_reducible refine aj ?_ ?_ | with_reducible refine ak ?_ _ | (intro _) | with_reducible exact ai _ | exact ah | (dsimp only))
def bz (s : List UInt8) (sep : List UInt8) (x : Int × Int) (t1 : Int × Int) : Option ((Int × Int) ⊕ (Int ⊕ Unit)) :=
 bif decide (t1.2 ≥ 0) then
 (idx s t1.2).bind fun ch1 =>
 let h2:=IntKind.u32.wrap ((IntKind.u32.wrap (t1.1 * 16777619)) + (IntKind.u32.wrap (ch1.toNat : Int)))
 (idx s (w64 (t1.2 + (sep.length : Int)))).bind fun ch2 =>
 let h3:=IntKind.u32.wrap (h2 - (IntKind.u32.wrap (x.2 * (IntKind.u32.wrap (ch2.toNat : Int)))))
 (
  bif h3 == x.1 then
  (slc s t1.2 (w64 (t1.2 + (sep.length : Int)))).bind fun s2 =>
  some (s2 == sep)
  else
  some false).bind fun q1 =>
 bif q1 then
  some (.inr (.inl (t1.2)))
 else
  some (.inl (h3,w64 (t1.2 - 1)))
 else
 some (.inr (.inr ()))
theorem gR (s : List UInt8) (sep : List UInt8) (x : Int × Int) (t1 : Int × Int) : Lo (bz s sep x t1) (bP s sep x t1):=by
 unfold bz bP
 repeat' (first | with_reducible refine ad ?_ ?_ ?_ ?_ ?_ | with_reducible refine ae ?_ ?_ ?_ ?_ | with_reducible refine ab ?_ ?_ ?_ | with_reducible refine ag ?_ ?_ | with_reducible refine aj ?_ ?_ | with_reducible refine ak ?_ _ | (intro _) | with_reducible exact ai _ | exact ah | (dsimp only))
def bw (s : List UInt8) (last : Int) (t : Int × Int) : Option ((Int × Int) ⊕ Int) :=
 bif decide (t.2 ≥ last) then
 (idx s t.2).bind fun ch =>
 let h:=IntKind.u32.wrap ((IntKind.u32.wrap (t.1 * 16777619)) + (IntKind.u32.wrap (ch.toNat : Int)))
 some (.inl (h,w64 (t.2 - 1)))
 else
 some (.inr t.1)
theorem gW (s : List UInt8) (last : Int) (t : Int × Int) : Lo (bw s last t) (bO s last t):=by
 unfold bw bO
 repeat' (first | with_reducible refine ad ?_ ?_ ?_ ?_ ?_ | with_reducible refine ae ?_ ?_ ?_ ?_ | with_reducible refine ab ?_ ?_ ?_ | with_reducible refine ag ?_ ?_ | with_reducible refine aj ?_ ?_ | with_reducible refine ak ?_ _ | (intro _) | with_reducible exact ai _ | exact ah | (dsimp only))
def bU (s : List UInt8) (sep : List UInt8) : Option Int :=
 (dU sep).bind fun x =>
 let last:=w64 ((s.length : Int) - (sep.length : Int))
 let i:=w64 ((s.length : Int) - 1)
 (itr 4096 (bw s last) (0,i)).bind fun h1 =>
 (
 bif h1 == x.1 then
  (slc s last (s.length : Int)).bind fun s1 =>
  some (s1 == sep)
 else
  some false).bind fun q =>
 bif q then
 some last
 else
 (itr 4096 (bz s sep x) (h1,w64 (last - 1))).bind fun q0 =>
 match q0 with
 | .inl q2 =>
  some q2
 | .inr _ =>
  some (-1)
theorem iS (s : List UInt8) (sep : List UInt8) : Lo (bU s sep) (bd s sep):=by
 unfold bU bd
 repeat' (first | with_reducible exact mh _ | with_reducible exact gW _ _ _ | with_reducible exact gR _ _ _ _ | with_reducible refine ad ?_ ?_ ?_ ?_ ?_ | with_reducible refine ae ?_ ?_ ?_ ?_ | with_reducible refine ab ?_ ?_ ?_ | with_reducible refine ag ?_ ?_ | with_reducible refine aj ?_ ?_ | with_reducible refine ak ?_ _ | (intro _) | with_reducible exact ai _ | exact ah | (dsimp only))
def iB (s : List UInt8) (substr : List UInt8) : Option Int :=
 bif (substr.length : Int) == 0 then
 some (s.length : Int)
 else
 bif (substr.length : Int) == 1 then
  (idx substr 0).bind fun ch =>
  (dI s (ch.toNat : Int)).bind fun x =>
  some x
 else
  bif (substr.length : Int) == (s.length : Int) then
  bif substr == s then
   some 0
  else
   some (-1)
  else
  bif decide ((substr.length : Int) > (s.length : Int)) then
   some (-1)
  else
   (bU s substr).bind fun x1 =>
   some x1
theorem tj (s : List UInt8) (substr : List UInt8) : Lo (iB s substr) (gi s substr):=by
 unfold iB gi
 repeat' (first | with_reducible exact mf _ _ | with_reducible exact iS _ _ | with_reducible refine ad ?_ ?_ ?_ ?_ ?_ | with_reducible refine ae ?_ ?_ ?_ ?_ | with_reducible refine ab ?_ ?_ ?_ | with_reducible refine ag ?_ ?_ | with_reducible refine aj ?_ ?_ | with_reducible refine ak ?_ _ | (intro _) | with_reducible exact ai _ | exact ah | (dsimp only))
def mb (path : List UInt8) : Option (List UInt8 × Bool) :=
 (iB path ([46] : List UInt8)).bind fun i =>
 bif decide (i < 0) then
 some (([] : List UInt8),false)
 else
 (slc path 0 i).bind fun s =>
 some (s,true)
theorem ua (path : List UInt8) : Lo (mb path) (lV path):=by
 unfold mb lV
 repeat' (first | with_reducible exact tj _ _ | with_reducible refine ad ?_ ?_ ?_ ?_ ?_ | with_reducible refine ae ?_ ?_ ?_ ?_ | with_reducible refine ab ?_ ?_ ?_ | with_reducible refine ag ?_ ?_ | with_reducible refine aj ?_ ?_ | with_reducible refine ak ?_ _ | (intro _) | with_reducible exact ai _ | exact ah | (dsimp only))
def pT (t : List UInt8 × List (List UInt8)) : Option ((List UInt8 × List (List UInt8)) ⊕ List (List UInt8)) :=
 bif ! (t.1 == ([] : List UInt8)) then
 (app 16 t.2 [t.1]).bind fun l =>
 (mb t.1).bind fun x =>
 some (.inl (x.1,l))
 else
 some (.inr t.2)
theorem zt (t : List UInt8 × List (List UInt8)) : Lo (pT t) (sW t):=by
 unfold pT sW
 repeat' (first | with_reducible exact ua _ | with_reducible refine ad ?_ ?_ ?_ ?_ ?_ | with_reducible refine ae ?_ ?_ ?_ ?_ | with_reducible refine ab ?_ ?_ ?_ | with_reducible refine ag ?_ ?_ | with_reducible refine aj ?_ ?_ | with_reducible refine ak ?_ _ | (intro _) | with_reducible exact ai _ | exact ah | (dsimp only))
def vt (path : List UInt8) : Option (List (List UInt8)) :=
 (itr 4096 pT (path,[])).bind fun out =>
 some out
theorem B_ (path : List UInt8) : Lo (vt path) (vE path):=by
 unfold vt vE
 repeat' (first | with_reducible exact zt _ | with_reducible refine ad ?_ ?_ ?_ ?_ ?_ | with_reducible refine ae ?_ ?_ ?_ ?_ | with_reducible refine ab ?_ ?_ ?_ | with_reducible refine ag ?_ ?_ | with_reducible refine aj ?_ ?_ | with_reducible refine ak ?_ _ | (intro _) | with_reducible exact ai _ | exact ah | (dsimp only))
def oO (s : List Cap) : Option (List Cap):=app 16 [] s
theorem wc (s : List Cap) : Lo (oO s) (pG s):=by
 unfold oO pG
 repeat' (first | with_reducible refine ad ?_ ?_ ?_ ?_ ?_ | with_reducible refine ae ?_ ?_ ?_ ?_ | with_reducible refine ab ?_ ?_ ?_ | with_reducible refine ag ?_ ?_ | with_reducible refine aj ?_ ?_ | with_reducible refine ak ?_ _ | (intro _) | with_reducible exact ai _ | exact ah | (dsimp only))
def lR (s : List Queue) (f : (TupT fam [.st 2] → Option Bool)) (t : Int) : Option (Int ⊕ (Int ⊕ Unit)) :=
 bif decide (t < (s.length : Int)) then
 (idx s t).bind fun x =>
 (f (x,())).bind fun r =>
 bif r then
  some (.inr (.inl t))
 else
  some (.inl (w64 (t + 1)))
 else
 some (.inr (.inr ()))
theorem wt (s : List Queue) (f f_' : (TupT fam [.st 2] → Option Bool)) (h_f : ∀ a,Lo (f a) (f_' a)) (t : Int) : Lo (lR s f t) (n6 s f_' t):=by
 unfold lR n6
 repeat' (first | exact h_f _ | with_reducible refine ad ?_ ?_ ?_ ?_ ?_ | with_reducible refine ae ?_ ?_ ?_ ?_ | with_reducible refine ab ?_ ?_ ?_ | with_reducible refine ag ?_ ?_ | with_reducible refine aj ?_ ?_ | with_reducible refine ak ?_ _ | (intro _) | with_reducible exact ai _ | exact ah | (dsimp only))
def qh (s : List Queue) (f : (TupT fam [.st 2] → Option Bool)) : Option Int :=
 (itr 4096 (lR s f) 0).bind fun q0 =>
 match q0 with
 | .inl q =>
 some q
 | .inr _ =>
 some (-1)
theorem zr (s : List Queue) (f f_' : (TupT fam [.st 2] → Option Bool)) (h_f : ∀ a,Lo (f a) (f_' a)) : Lo (qh s f) (oZ s f_'):=by
 unfold qh oZ
 repeat' (first | with_reducible refine wt _ _ _ ?_ _ | exact h_f _ | with_reducible refine ad ?_ ?_ ?_ ?_ ?_ | with_reducible refine ae ?_ ?_ ?_ ?_ | with_reducible refine ab ?_ ?_ ?_ | with_reducible refine ag ?_ ?_ | with_reducible refine aj ?_ ?_ | with_reducible refine ak ?_ _ | (intro _) | with_reducible exact ai _ | exact ah | (dsimp only))
def nW (q : Queue) (p : List UInt8) : Option Bool :=
 some (q.Path == p)
theorem yc (q : Queue) (p : List UInt8) : Lo (nW q p) (ng q p):=by
 unfold nW ng
 repeat' (first | with_reducible refine ad ?_ ?_ ?_ ?_ ?_ | with_reducible refine ae ?_ ?_ ?_ ?_ | with_reducible refine ab ?_ ?_ ?_ | with_reducible refine ag ?_ ?_ | with_reducible refine aj ?_ ?_ | with_reducible refine ak ?_ _ | (intro _) | with_reducible exact ai _ | exact ah | (dsimp only))
def m7 (c : Conf) (path : List UInt8) : Option (Queue × Bool) :=
 (qh c.Queues (fun a' => nW a'.1 path)).bind fun i =>
 bif decide (i < 0) then
 some ((⟨[],[],0⟩ : Queue),false)
 else
 (idx c.Queues i).bind fun x =>
 (oO x.Caps).bind fun x1 =>
 some ((⟨x.Path,x1,x.User⟩ : Queue),true)
theorem uL (c : Conf) (path : List UInt8) : Lo (m7 c path) (nS c path):=by
 unfold m7 nS
 repeat' (first | with_reducible refine zr _ _ _ ?_ | with_reducible exact yc _ _ | with_reducible exact wc _ | with_reducible refine ad ?_ ?_ ?_ ?_ ?_ | with_reducible refine ae ?_ ?_ ?_ ?_ | with_reducible refine ab ?_ ?_ ?_ | with_reducible refine ag ?_ ?_ | with_reducible refine aj ?_ ?_ | with_reducible refine ak ?_ _ | (intro _) | with_reducible exact ai _ | exact ah | (dsimp only))
def pj (x : Int) (y : Int) : Option (Int × Int) :=
 let w0:=IntKind.u64.wrap ((andK .u64 x 4294967295) * (andK .u64 y 4294967295))
 let t:=IntKind.u64.wrap ((IntKind.u64.wrap ((shrK .u64 x 32) * (andK .u64 y 4294967295))) + (shrK .u64 w0 32))
 let w1:=IntKind.u64.wrap ((andK .u64 t 4294967295) + (IntKind.u64.wrap ((andK .u64 x 4294967295) * (shrK .u64 y 32))))
 let hi:=IntKind.u64.wrap ((IntKind.u64.wrap ((IntKind.u64.wrap ((shrK .u64 x 32) * (shrK .u64 y 32))) + (shrK .u64 t 32))) + (shrK .u64 w1 32))
 some (hi,IntKind.u64.wrap (x * y))
theorem zA (x : Int) (y : Int) : Lo (pj x y) (oY x y):=by
 unfold pj oY
 repeat' (first | with_reducible refine ad ?_ ?_ ?_ ?_ ?_ | with_reducible refine ae ?_ ?_ ?_ ?_ | with_reducible refine ab ?_ ?_ ?_ | with_reducible refine ag ?_ ?_ | with_reducible refine aj ?_ ?_ | with_reducible refine ak ?_ _ | (intro _) | with_reducible exact ai _ | exact ah | (dsimp only))
def lm (x : Int) : Option Int :=
 (
 bif decide (x ≥ 4294967296) then
  some (shrK .u64 x 32,32)
 else
  some (x,0)).bind fun q =>
 (
 bif decide (q.1 ≥ 65536) then
  some (shrK .u64 q.1 16,w64 (q.2 + 16))
 else
  some (q.1,q.2)).bind fun q1 =>
 (
 bif decide (q1.1 ≥ 256) then
  some (shrK .u64 q1.1 8,w64 (q1.2 + 8))
 else
  some (q1.1,q1.2)).bind fun q2 =>
 (idx ([0,1,2,2,3,3,3,3,4,4,4,4,4,4,4,4,5,5,5,5,5,5,5,5,5,5,5,5,5,5,5,5,6,6,6,6,6,6,6,6,6,6,6,6,6,6,6,6,6,6,6,6,6,6,6,6,6,6,6,6,6,6,6,6,7,7,7,7,7,7,7,7,7,7,7,7,7,7,7,7,7,7,7,7,7,7,7,7,7,7,7,7,7,7,7,7,7,7,7,7,7,7,7,7,7,7,7,7,7,7,7,7,7,7,7,7,7,7,7,7,7,7,7,7,7,7,7,7,8,8,8,8,8,8,8,8,8,8,8,8,8,8,8,8,8,8,8,8,8,8,8,8,8,8,8,8,8,8,8,8,8,8,8,8,8,8,8,8,8,8,8,8,8,8,8,8,8,8,8,8,8,8,8,8,8,8,8,8,8,8,8,8,8,8,8,8,8,8,8,8,8,8,8,8,8,8,8,8,8,8,8,8,8,8,8,8,8,8,8,8,8,8,8,8,8,8,8,8,8,8,8,8,8,8,8,8,8,8,8,8,8,8,8,8,8,8,8,8,8,8,8,8,8,8,8,8] : List UInt8) (IntKind.u8.wrap q2.1)).bind fun ch =>
 let n:=w64 (q2.2 + (w64 (ch.toNat : Int)))
 some n
theorem uf (x : Int) : Lo (lm x) (lQ x):=by
 unfold lm lQ
 repeat' (first | with_reducible refine ad ?_ ?_ ?_ ?_ ?_ | with_reducible refine ae ?_ ?_ ?_ ?_ | with_reducible refine ab ?_ ?_ ?_ | with_reducible refine ag ?_ ?_ | with_reducible refine aj ?_ ?_ | with_reducible refine ak ?_ _ | (intro _) | with_reducible exact ai _ | exact ah | (dsimp only))
def gr (x : Int) : Option Int :=
 (lm x).bind fun x1 =>
 some (w64 (64 - x1))
theorem rC (x : Int) : Lo (gr x) (eZ x):=by
 unfold gr eZ
 repeat' (first | with_reducible exact uf _ | with_reducible refine ad ?_ ?_ ?_ ?_ ?_ | with_reducible refine ae ?_ ?_ ?_ ?_ | with_reducible refine ab ?_ ?_ ?_ | with_reducible refine ag ?_ ?_ | with_reducible refine aj ?_ ?_ | with_reducible refine ak ?_ _ | (intro _) | with_reducible exact ai _ | exact ah | (dsimp only))
def me (yn1 : Int) (yn0 : Int) (un0 : Int) (t1 : Int × Int) : Option ((Int × Int) ⊕ Int) :=
 (
 bif decide (t1.2 ≥ 4294967296) then
  some true
 else
  some (decide ((IntKind.u64.wrap (t1.2 * yn0)) > (IntKind.u64.wrap ((IntKind.u64.wrap (4294967296 * t1.1)) + un0))))).bind fun q2 =>
 bif q2 then
 bif decide ((IntKind.u64.wrap (t1.1 + yn1)) ≥ 4294967296) then
  some (.inr (IntKind.u64.wrap (t1.2 - 1)))
 else
  some (.inl (IntKind.u64.wrap (t1.1 + yn1),IntKind.u64.wrap (t1.2 - 1)))
 else
 some (.inr t1.2)
theorem wN (yn1 : Int) (yn0 : Int) (un0 : Int) (t1 : Int × Int) : Lo (me yn1 yn0 un0 t1) (ot yn1 yn0 un0 t1):=by
 unfold me ot
 repeat' (first | with_reducible refine ad ?_ ?_ ?_ ?_ ?_ | with_reducible refine ae ?_ ?_ ?_ ?_ | with_reducible refine ab ?_ ?_ ?_ | with_reducible refine ag ?_ ?_ | with_reducible refine aj ?_ ?_ | with_reducible refine ak ?_ _ | (intro _) | with_reducible exact ai _ | exact ah | (dsimp only))
def lp (yn1 : Int) (yn0 : Int) (un1 : Int) (t : Int × Int) : Option ((Int × Int) ⊕ Int) :=
 (
 bif decide (t.1 ≥ 4294967296) then
  some true
 else
  some (decide ((IntKind.u64.wrap (t.1 * yn0)) > (IntKind.u64.wrap ((IntKind.u64.wrap (4294967296 * t.2)) + un1))))).bind fun q =>
 bif q then
 bif decide ((IntKind.u64.wrap (t.2 + yn1)) ≥ 4294967296) then
  some (.inr (IntKind.u64.wrap (t.1 - 1)))
 else
  some (.inl (IntKind.u64.wrap (t.1 - 1),IntKind.u64.wrap (t.2 + yn1)))
 else
 some (.inr t.1)
theorem wG (yn1 : Int) (yn0 : Int) (un1 : Int) (t : Int × Int) : Lo (lp yn1 yn0 un1 t) (oy yn1 yn0 un1 t):=by
 unfold lp oy
 repeat' (first | with_reducible refine ad ?_ ?_ ?_ ?_ ?_ | with_reducible refine ae ?_ ?_ ?_ ?_ | with_reducible refine ab ?_ ?_ ?_ | with_reducible refine ag ?_ ?_ | with_reducible refine aj ?_ ?_ | with_reducible refine ak ?_ _ | (intro _) | with_reducible exact ai _ | exact ah | (dsimp only))
def pI (hi : Int) (lo : Int) (y : Int) : Option (Int × Int) :=
 bif y == 0 then
 none
 else
 bif decide (y ≤ hi) then
  none
 else
  bif hi == 0 then
  (nz y).bind fun _ =>
  (nz y).bind fun _ =>
  some (IntKind.u64.wrap (Int.tdiv lo y),Int.tmod lo y)
  else
  (gr y).bind fun x =>
  (nn (IntKind.u64.wrap x)).bind fun _ =>
  let yn1:=shrK .u64 (shlK .u64 y (IntKind.u64.wrap x)) 32
  let yn0:=andK .u64 (shlK .u64 y (IntKind.u64.wrap x)) 4294967295
  (nn (IntKind.u64.wrap x)).bind fun _ =>
  (nn (IntKind.u64.wrap (64 - (IntKind.u64.wrap x)))).bind fun _ =>
  let un32:=orK .u64 (shlK .u64 hi (IntKind.u64.wrap x)) (shrK .u64 lo (IntKind.u64.wrap (64 - (IntKind.u64.wrap x))))
  (nn (IntKind.u64.wrap x)).bind fun _ =>
  let un1:=shrK .u64 (shlK .u64 lo (IntKind.u64.wrap x)) 32
  let un0:=andK .u64 (shlK .u64 lo (IntKind.u64.wrap x)) 4294967295
  (nz yn1).bind fun _ =>
  let rhat:=IntKind.u64.wrap (un32 - (IntKind.u64.wrap ((IntKind.u64.wrap (Int.tdiv un32 yn1)) * yn1)))
  (itr 4096 (lp yn1 yn0 un1) (IntKind.u64.wrap (Int.tdiv un32 yn1),rhat)).bind fun q1 =>
  let un21:=IntKind.u64.wrap ((IntKind.u64.wrap ((IntKind.u64.wrap (un32 * 4294967296)) + un1)) - (IntKind.u64.wrap (q1 * (shlK .u64 y (IntKind.u64.wrap x)))))
  (nz yn1).bind fun _ =>
  let rhat1:=IntKind.u64.wrap (un21 - (IntKind.u64.wrap ((IntKind.u64.wrap (Int.tdiv un21 yn1)) * yn1)))
  (itr 4096 (me yn1 yn0 un0) (rhat1,IntKind.u64.wrap (Int.tdiv un21 yn1))).bind fun q0 =>
  (nn (IntKind.u64.wrap x)).bind fun _ =>
  let quo:=IntKind.u64.wrap ((IntKind.u64.wrap (q1 * 4294967296)) + q0)
  let rem:=shrK .u64 (IntKind.u64.wrap ((IntKind.u64.wrap ((IntKind.u64.wrap (un21 * 4294967296)) + un0)) - (IntKind.u64.wrap (q0 * (shlK .u64 y (IntKind.u64.wrap x)))))) (IntKind.u64.wrap x)
  some (quo,rem)
theorem zx (hi : Int) (lo : Int) (y : Int) : Lo (pI hi lo y) (o8 hi lo y):=by
 unfold pI o8
 repeat' (first | with_reducible exact rC _ | with_reducible exact wG _ _ _ _ | with_reducible exact wN _ _ _ _ | with_reducible refine ad ?_ ?_ ?_ ?_ ?_ | with_reducible refine ae ?_ ?_ ?_ ?_ | with_reducible refine ab ?_ ?_ ?_ | with_reducible refine ag ?_ ?_ | with_reducible refine aj ?_ ?_ | with_reducible refine ak ?_ _ | (intro _) | with_reducible exact ai _ | exact ah | (dsimp only))
def m8 (n : Int) (bp : Int) : Option Int :=
 (pj (IntKind.u64.wrap n) (IntKind.u64.wrap bp)).bind fun x =>
 (pI x.1 x.2 10000).bind fun x1 =>
 some (w64 x1.1)
theorem AD (n : Int) (bp : Int) : Lo (m8 n bp) (nJ n bp):=by
 unfold m8 nJ
 repeat' (first | with_reducible exact zA _ _ | with_reducible exact zx _ _ _ | with_reducible refine ad ?_ ?_ ?_ ?_ ?_ | with_reducible refine ae ?_ ?_ ?_ ?_ | with_reducible refine ab ?_ ?_ ?_ | with_reducible refine ag ?_ ?_ | with_reducible refine aj ?_ ?_ | with_reducible refine ak ?_ _ | (intro _) | with_reducible exact ai _ | exact ah | (dsimp only))
def pA (a : Vec) (bp : Int) : Option (Vec × Int) :=
 (
 (eb a).bind fun x =>
 bif ! x then
  some true
 else
  bif decide (bp < 0) then
  some true
  else
  some (decide (bp > 1000000))).bind fun q =>
 bif q then
 some ((⟨0,0⟩ : Vec),1)
 else
 (m8 a.Mem bp).bind fun x1 =>
 (m8 a.Cores bp).bind fun x2 =>
 (nh (⟨x1,x2⟩ : Vec)).bind fun x3 =>
 some (x3.1,x3.2)
theorem zp (a : Vec) (bp : Int) : Lo (pA a bp) (oP a bp):=by
 unfold pA oP
 repeat' (first | with_reducible exact kN _ | with_reducible exact AD _ _ | with_reducible exact uW _ | with_reducible refine ad ?_ ?_ ?_ ?_ ?_ | with_reducible refine ae ?_ ?_ ?_ ?_ | with_reducible refine ab ?_ ?_ ?_ | with_reducible refine ag ?_ ?_ | with_reducible refine aj ?_ ?_ | with_reducible refine ak ?_ _ | (intro _) | with_reducible exact ai _ | exact ah | (dsimp only))
def lS (s : State) (label : Int) (part : (TupT fam [.st 1] → Option Int)) (up : List (List UInt8)) (t : Vec × Vec × Int) : Option ((Vec × Vec × Int) ⊕ (Vec ⊕ (Vec × Vec))) :=
 bif decide (t.2.2 ≥ 0) then
 (inb t.2.2 up.length).bind fun i1 =>
 (up[i1]?).bind fun x2 =>
 (m7 s.Conf x2).bind fun x3 =>
 (
  bif ! x3.2 then
  some true
  else
  bif decide (label < 0) then
   some true
  else
   some (decide (label ≥ (x3.1.Caps.length : Int)))).bind fun q =>
 bif q then
  some (.inr (.inl (⟨0,0⟩ : Vec)))
 else
  (inb label x3.1.Caps.length).bind fun i2 =>
  (x3.1.Caps[i2]?).bind fun x4 =>
  (part (x4,())).bind fun r =>
  (pA t.2.1 r).bind fun x5 =>
  some (.inl (t.1,x5.1,w64 (t.2.2 - 1)))
 else
 some (.inr (.inr (t.1,t.2.1)))
theorem wR (s : State) (label : Int) (part part_' : (TupT fam [.st 1] → Option Int)) (h_part : ∀ a,Lo (part a) (part_' a)) (up : List (List UInt8)) (t : Vec × Vec × Int) : Lo (lS s label part up t) (oq s label part_' up t):=by
 unfold lS oq
 repeat' (first | with_reducible exact uL _ _ | with_reducible exact zp _ _ | exact h_part _ | with_reducible refine ad ?_ ?_ ?_ ?_ ?_ | with_reducible refine ae ?_ ?_ ?_ ?_ | with_reducible refine ab ?_ ?_ ?_ | with_reducible refine ag ?_ ?_ | with_reducible refine aj ?_ ?_ | with_reducible refine ak ?_ _ | (intro _) | with_reducible exact ai _ | exact ah | (dsimp only))
def l8 (s : State) (path : List UInt8) (label : Int) (part : (TupT fam [.st 1] → Option Int)) : Option Vec :=
 (vt path).bind fun up =>
 (m7 s.Conf path).bind fun x =>
 bif ! x.2 then
 some (⟨0,0⟩ : Vec)
 else
 (ii s label).bind fun x1 =>
 let i:=w64 ((up.length : Int) - 2)
 (itr 4096 (lS s label part up) ((⟨0,0⟩ : Vec),x1,i)).bind fun q0 =>
 match q0 with
 | .inl q1 =>
  some q1
 | .inr q2 =>
  some q2.2
theorem ue (s : State) (path : List UInt8) (label : Int) (part part_' : (TupT fam [.st 1] → Option Int)) (h_part : ∀ a,Lo (part a) (part_' a)) : Lo (l8 s path label part) (lj s path label part_'):=by
 unfold l8 lj
 repeat' (first | with_reducible exact B_ _ | with_reducible exact uL _ _ | with_reducible exact mW _ _ | with_reducible refine wR _ _ _ _ ?_ _ _ | exact h_part _ | with_reducible refine ad ?_ ?_ ?_ ?_ ?_ | with_reducible refine ae ?_ ?_ ?_ ?_ | with_reducible refine ab ?_ ?_ ?_ | with_reducible refine ag ?_ ?_ | with_reducible refine aj ?_ ?_ | with_reducible refine ak ?_ _ | (intro _) | with_reducible exact ai _ | exact ah | (dsimp only))
def fV (c : Cap) : Option Int :=
 some c.Least
theorem qA (c : Cap) : Lo (fV c) (ez c):=by
 unfold fV ez
 repeat' (first | with_reducible refine ad ?_ ?_ ?_ ?_ ?_ | with_reducible refine ae ?_ ?_ ?_ ?_ | with_reducible refine ab ?_ ?_ ?_ | with_reducible refine ag ?_ ?_ | with_reducible refine aj ?_ ?_ | with_reducible refine ak ?_ _ | (intro _) | with_reducible exact ai _ | exact ah | (dsimp only))
def kh (s : State) (path : List UInt8) (label : Int) : Option Vec :=
 (l8 s path label (fun a' => fV a'.1)).bind fun x =>
 some x
theorem sR (s : State) (path : List UInt8) (label : Int) : Lo (kh s path label) (j_ s path label):=by
 unfold kh j_
 repeat' (first | with_reducible refine ue _ _ _ _ _ ?_ | with_reducible exact qA _ | with_reducible refine ad ?_ ?_ ?_ ?_ ?_ | with_reducible refine ae ?_ ?_ ?_ ?_ | with_reducible refine ab ?_ ?_ ?_ | with_reducible refine ag ?_ ?_ | with_reducible refine aj ?_ ?_ | with_reducible refine ak ?_ _ | (intro _) | with_reducible exact ai _ | exact ah | (dsimp only))
def nf (a : App) : Option Bool :=
 bif a.State == 1 then
 some true
 else
 some (a.State == 2)
theorem uM (a : App) : Lo (nf a) (nB a):=by
 unfold nf nB
 repeat' (first | with_reducible refine ad ?_ ?_ ?_ ?_ ?_ | with_reducible refine ae ?_ ?_ ?_ ?_ | with_reducible refine ab ?_ ?_ ?_ | with_reducible refine ag ?_ ?_ | with_reducible refine aj ?_ ?_ | with_reducible refine ak ?_ _ | (intro _) | with_reducible exact ai _ | exact ah | (dsimp only))
def cK (s : List Int) (f : (TupT fam [.int .i64] → Option Bool)) (t : Int) : Option (Int ⊕ (Int ⊕ Unit)) :=
 bif decide (t < (s.length : Int)) then
 (idx s t).bind fun x =>
 (f (x,())).bind fun r =>
 bif r then
  some (.inr (.inl t))
 else
  some (.inl (w64 (t + 1)))
 else
 some (.inr (.inr ()))
theorem j9 (s : List Int) (f f_' : (TupT fam [.int .i64] → Option Bool)) (h_f : ∀ a,Lo (f a) (f_' a)) (t : Int) : Lo (cK s f t) (dl s f_' t):=by
 unfold cK dl
 repeat' (first | exact h_f _ | with_reducible refine ad ?_ ?_ ?_ ?_ ?_ | with_reducible refine ae ?_ ?_ ?_ ?_ | with_reducible refine ab ?_ ?_ ?_ | with_reducible refine ag ?_ ?_ | with_reducible refine aj ?_ ?_ | with_reducible refine ak ?_ _ | (intro _) | with_reducible exact ai _ | exact ah | (dsimp only))
def dJ (s : List Int) (f : (TupT fam [.int .i64] → Option Bool)) : Option Int :=
 (itr 4096 (cK s f) 0).bind fun q0 =>
 match q0 with
 | .inl q =>
 some q
 | .inr _ =>
 some (-1)
theorem lA (s : List Int) (f f_' : (TupT fam [.int .i64] → Option Bool)) (h_f : ∀ a,Lo (f a) (f_' a)) : Lo (dJ s f) (cw s f_'):=by
 unfold dJ cw
 repeat' (first | with_reducible refine j9 _ _ _ ?_ _ | exact h_f _ | with_reducible refine ad ?_ ?_ ?_ ?_ ?_ | with_reducible refine ae ?_ ?_ ?_ ?_ | with_reducible refine ab ?_ ?_ ?_ | with_reducible refine ag ?_ ?_ | with_reducible refine aj ?_ ?_ | with_reducible refine ak ?_ _ | (intro _) | with_reducible exact ai _ | exact ah | (dsimp only))
def cI (s : List Int) (f : (TupT fam [.int .i64] → Option Bool)) : Option Bool :=
 (dJ s f).bind fun x =>
 some (decide (x ≥ 0))
theorem jZ (s : List Int) (f f_' : (TupT fam [.int .i64] → Option Bool)) (h_f : ∀ a,Lo (f a) (f_' a)) : Lo (cI s f) (bL s f_'):=by
 unfold cI bL
 repeat' (first | with_reducible refine lA _ _ _ ?_ | exact h_f _ | with_reducible refine ad ?_ ?_ ?_ ?_ ?_ | with_reducible refine ae ?_ ?_ ?_ ?_ | with_reducible refine ab ?_ ?_ ?_ | with_reducible refine ag ?_ ?_ | with_reducible refine aj ?_ ?_ | with_reducible refine ak ?_ _ | (intro _) | with_reducible exact ai _ | exact ah | (dsimp only))
def pR (n : Int) (p : Int) (p1 : Int) : Option Bool :=
 bif decide (n < p) then
 some true
 else
 some (decide (n > p1))
theorem zw (n : Int) (p : Int) (p1 : Int) : Lo (pR n p p1) (oI n p p1):=by
 unfold pR oI
 repeat' (first | with_reducible refine ad ?_ ?_ ?_ ?_ ?_ | with_reducible refine ae ?_ ?_ ?_ ?_ | with_reducible refine ab ?_ ?_ ?_ | with_reducible refine ag ?_ ?_ | with_reducible refine aj ?_ ?_ | with_reducible refine ak ?_ _ | (intro _) | with_reducible exact ai _ | exact ah | (dsimp only))
def o7 (least : Int) (most : Int) (l : List Int) : Option Bool :=
 (cI l (fun a' => pR a'.1 least most)).bind fun x =>
 some (! x)
theorem Bh (least : Int) (most : Int) (l : List Int) : Lo (o7 least most l) (ql least most l):=by
 unfold o7 ql
 repeat' (first | with_reducible refine jZ _ _ _ ?_ | with_reducible exact zw _ _ _ | with_reducible refine ad ?_ ?_ ?_ ?_ ?_ | with_reducible refine ae ?_ ?_ ?_ ?_ | with_reducible refine ab ?_ ?_ ?_ | with_reducible refine ag ?_ ?_ | with_reducible refine aj ?_ ?_ | with_reducible refine ak ?_ _ | (intro _) | with_reducible exact ai _ | exact ah | (dsimp only))
def jG (l : List Ask) (label : Int) (t : Vec × Int) : Option ((Vec × Int) ⊕ Vec) :=
 bif decide (t.2 < (l.length : Int)) then
 (
  (idx l t.2).bind fun x =>
  (
  bif x.Label == label then
   (o7 0 1125899906842624 [x.Size.Mem,x.Size.Cores]).bind fun x1 =>
   bif x1 then
   (o7 0 50 [x.Count]).bind fun x2 =>
   some x2
   else
   some false
  else
   some false).bind fun q =>
  bif q then
  some (⟨w64 (t.1.Mem + (w64 (x.Size.Mem * x.Count))),w64 (t.1.Cores + (w64 (x.Size.Cores * x.Count)))⟩ : Vec)
  else
  some t.1).bind fun out =>
 some (.inl (out,w64 (t.2 + 1)))
 else
 some (.inr t.1)
theorem u_ (l : List Ask) (label : Int) (t : Vec × Int) : Lo (jG l label t) (lD l label t):=by
 unfold jG lD
 repeat' (first | with_reducible exact Bh _ _ _ | with_reducible refine ad ?_ ?_ ?_ ?_ ?_ | with_reducible refine ae ?_ ?_ ?_ ?_ | with_reducible refine ab ?_ ?_ ?_ | with_reducible refine ag ?_ ?_ | with_reducible refine aj ?_ ?_ | with_reducible refine ak ?_ _ | (intro _) | with_reducible exact ai _ | exact ah | (dsimp only))
def mH (l : List Ask) (label : Int) : Option Vec :=
 (itr 4096 (jG l label) ((⟨0,0⟩ : Vec),0)).bind fun out1 =>
 some out1
theorem xD (l : List Ask) (label : Int) : Lo (mH l label) (md l label):=by
 unfold mH md
 repeat' (first | with_reducible exact u_ _ _ _ | with_reducible refine ad ?_ ?_ ?_ ?_ ?_ | with_reducible refine ae ?_ ?_ ?_ ?_ | with_reducible refine ab ?_ ?_ ?_ | with_reducible refine ag ?_ ?_ | with_reducible refine aj ?_ ?_ | with_reducible refine ak ?_ _ | (intro _) | with_reducible exact ai _ | exact ah | (dsimp only))
def fm (v : View) (t : Vec × Int) : Option ((Vec × Int) ⊕ Vec) :=
 bif decide (t.2 < (v.s.Apps.length : Int)) then
 (
  (idx v.s.Apps t.2).bind fun x =>
  (
  (nf x).bind fun x1 =>
  bif x1 then
   (hH v x).bind fun x2 =>
   some x2
  else
   some false).bind fun q =>
  bif q then
  (mH x.Asks v.label).bind fun x3 =>
  (lH t.1 x3).bind fun x4 =>
  some x4.1
  else
  some t.1).bind fun out =>
 some (.inl (out,w64 (t.2 + 1)))
 else
 some (.inr t.1)
theorem pV (v : View) (t : Vec × Int) : Lo (fm v t) (gC v t):=by
 unfold fm gC
 repeat' (first | with_reducible exact uM _ | with_reducible exact oz _ _ | with_reducible exact xD _ _ | with_reducible exact rz _ _ | with_reducible refine ad ?_ ?_ ?_ ?_ ?_ | with_reducible refine ae ?_ ?_ ?_ ?_ | with_reducible refine ab ?_ ?_ ?_ | with_reducible refine ag ?_ ?_ | with_reducible refine aj ?_ ?_ | with_reducible refine ak ?_ _ | (intro _) | with_reducible exact ai _ | exact ah | (dsimp only))
def g3 (v : View) : Option Vec :=
 (itr 4096 (fm v) ((⟨0,0⟩ : Vec),0)).bind fun out1 =>
 some out1
theorem sG (v : View) : Lo (g3 v) (fK v):=by
 unfold g3 fK
 repeat' (first | with_reducible exact pV _ _ | with_reducible refine ad ?_ ?_ ?_ ?_ ?_ | with_reducible refine ae ?_ ?_ ?_ ?_ | with_reducible refine ab ?_ ?_ ?_ | with_reducible refine ag ?_ ?_ | with_reducible refine aj ?_ ?_ | with_reducible refine ak ?_ _ | (intro _) | with_reducible exact ai _ | exact ah | (dsimp only))
def iL (s : State) (path : List UInt8) (label : Int) : Option Vec :=
 (g3 (⟨⟨⟨s.Conf.Labels,s.Conf.Queues⟩,s.Nodes,s.Apps,s.Conts,s.Slots,s.Plans,s.Now,s.Epoch,s.Seq⟩,path,label,(-1)⟩ : View)).bind fun x =>
 some x
theorem pE (s : State) (path : List UInt8) (label : Int) : Lo (iL s path label) (ig s path label):=by
 unfold iL ig
 repeat' (first | with_reducible exact sG _ | with_reducible refine ad ?_ ?_ ?_ ?_ ?_ | with_reducible refine ae ?_ ?_ ?_ ?_ | with_reducible refine ab ?_ ?_ ?_ | with_reducible refine ag ?_ ?_ | with_reducible refine aj ?_ ?_ | with_reducible refine ak ?_ _ | (intro _) | with_reducible exact ai _ | exact ah | (dsimp only))
def mK (c : Conf) (path : List UInt8) (t : List (List UInt8) × Int) : Option ((List (List UInt8) × Int) ⊕ List (List UInt8)) :=
 bif decide (t.2 < (c.Queues.length : Int)) then
 (
  (idx c.Queues t.2).bind fun x =>
  (mb x.Path).bind fun x1 =>
  (
  bif x1.2 then
   some (x1.1 == path)
  else
   some false).bind fun q =>
  bif q then
  (app 16 t.1 [x.Path]).bind fun l =>
  some l
  else
  some t.1).bind fun out =>
 some (.inl (out,w64 (t.2 + 1)))
 else
 some (.inr t.1)
theorem xq (c : Conf) (path : List UInt8) (t : List (List UInt8) × Int) : Lo (mK c path t) (pZ c path t):=by
 unfold mK pZ
 repeat' (first | with_reducible exact ua _ | with_reducible refine ad ?_ ?_ ?_ ?_ ?_ | with_reducible refine ae ?_ ?_ ?_ ?_ | with_reducible refine ab ?_ ?_ ?_ | with_reducible refine ag ?_ ?_ | with_reducible refine aj ?_ ?_ | with_reducible refine ak ?_ _ | (intro _) | with_reducible exact ai _ | exact ah | (dsimp only))
def ru (c : Conf) (path : List UInt8) : Option (List (List UInt8)) :=
 (itr 4096 (mK c path) ([],0)).bind fun out1 =>
 some out1
theorem AX (c : Conf) (path : List UInt8) : Lo (ru c path) (qW c path):=by
 unfold ru qW
 repeat' (first | with_reducible exact xq _ _ _ | with_reducible refine ad ?_ ?_ ?_ ?_ ?_ | with_reducible refine ae ?_ ?_ ?_ ?_ | with_reducible refine ab ?_ ?_ ?_ | with_reducible refine ag ?_ ?_ | with_reducible refine aj ?_ ?_ | with_reducible refine ak ?_ _ | (intro _) | with_reducible exact ai _ | exact ah | (dsimp only))
def gy (c : Cap) : Option Int :=
 some c.Most
theorem rT (c : Cap) : Lo (gy c) (fb c):=by
 unfold gy fb
 repeat' (first | with_reducible refine ad ?_ ?_ ?_ ?_ ?_ | with_reducible refine ae ?_ ?_ ?_ ?_ | with_reducible refine ab ?_ ?_ ?_ | with_reducible refine ag ?_ ?_ | with_reducible refine aj ?_ ?_ | with_reducible refine ak ?_ _ | (intro _) | with_reducible exact ai _ | exact ah | (dsimp only))
def pq (s : State) (path : List UInt8) (label : Int) : Option Vec :=
 (l8 s path label (fun a' => gy a'.1)).bind fun x =>
 some x
theorem zo (s : State) (path : List UInt8) (label : Int) : Lo (pq s path label) (pc s path label):=by
 unfold pq pc
 repeat' (first | with_reducible refine ue _ _ _ _ _ ?_ | with_reducible exact rT _ | with_reducible refine ad ?_ ?_ ?_ ?_ ?_ | with_reducible refine ae ?_ ?_ ?_ ?_ | with_reducible refine ab ?_ ?_ ?_ | with_reducible refine ag ?_ ?_ | with_reducible refine aj ?_ ?_ | with_reducible refine ak ?_ _ | (intro _) | with_reducible exact ai _ | exact ah | (dsimp only))
def jH (l : List Int) (t : Int × Int) : Option ((Int × Int) ⊕ Int) :=
 bif decide (t.2 < (l.length : Int)) then
 (idx l t.2).bind fun x =>
 some (.inl (imin t.1 x,w64 (t.2 + 1)))
 else
 some (.inr t.1)
theorem vh (l : List Int) (t : Int × Int) : Lo (jH l t) (lY l t):=by
 unfold jH lY
 repeat' (first | with_reducible refine ad ?_ ?_ ?_ ?_ ?_ | with_reducible refine ae ?_ ?_ ?_ ?_ | with_reducible refine ab ?_ ?_ ?_ | with_reducible refine ag ?_ ?_ | with_reducible refine aj ?_ ?_ | with_reducible refine ak ?_ _ | (intro _) | with_reducible exact ai _ | exact ah | (dsimp only))
def eO (first : Int) (l : List Int) : Option Int :=
 (itr 4096 (jH l) (first,0)).bind fun first1 =>
 some first1
theorem lO (first : Int) (l : List Int) : Lo (eO first l) (eQ first l):=by
 unfold eO eQ
 repeat' (first | with_reducible exact vh _ _ | with_reducible refine ad ?_ ?_ ?_ ?_ ?_ | with_reducible refine ae ?_ ?_ ?_ ?_ | with_reducible refine ab ?_ ?_ ?_ | with_reducible refine ag ?_ ?_ | with_reducible refine aj ?_ ?_ | with_reducible refine ak ?_ _ | (intro _) | with_reducible exact ai _ | exact ah | (dsimp only))
def d7 (n : Int) : Option Int :=
 (
 bif decide (n < 0) then
  some true
 else
  some (decide (n > 1125899906842624))).bind fun q =>
 bif q then
 some 0
 else
 some n
theorem om (n : Int) : Lo (d7 n) (eJ n):=by
 unfold d7 eJ
 repeat' (first | with_reducible refine ad ?_ ?_ ?_ ?_ ?_ | with_reducible refine ae ?_ ?_ ?_ ?_ | with_reducible refine ab ?_ ?_ ?_ | with_reducible refine ag ?_ ?_ | with_reducible refine aj ?_ ?_ | with_reducible refine ak ?_ _ | (intro _) | with_reducible exact ai _ | exact ah | (dsimp only))
def kL (want : List Int) (most : List Int) (n : Int) (t1 : List Int × Int × Int) : Option ((List Int × Int × Int) ⊕ List Int) :=
 bif decide (t1.2.2 < n) then
 (idx want t1.2.2).bind fun x9 =>
 (d7 x9).bind fun x10 =>
 (idx most t1.2.2).bind fun x11 =>
 (d7 x11).bind fun x12 =>
 (eO x10 [x12]).bind fun x13 =>
 (inb t1.2.2 t1.1.length).bind fun i2 =>
 (t1.1[i2]?).bind fun x14 =>
 (eO (imax (w64 (x13 - x14)) 0) [t1.2.1]).bind fun more =>
 (inb t1.2.2 t1.1.length).bind fun i3 =>
 (t1.1[i3]?).bind fun x15 =>
 (inb t1.2.2 t1.1.length).bind fun i4 =>
 (t1.1[i4]?).bind fun x16 =>
 some (.inl (List.set t1.1 i4 (w64 (x15 + more)),w64 (t1.2.1 - more),w64 (t1.2.2 + 1)))
 else
 some (.inr t1.1)
theorem vX (want : List Int) (most : List Int) (n : Int) (t1 : List Int × Int × Int) : Lo (kL want most n t1) (mS want most n t1):=by
 unfold kL mS
 repeat' (first | with_reducible exact om _ | with_reducible exact lO _ _ | with_reducible refine ad ?_ ?_ ?_ ?_ ?_ | with_reducible refine ae ?_ ?_ ?_ ?_ | with_reducible refine ab ?_ ?_ ?_ | with_reducible refine ag ?_ ?_ | with_reducible refine aj ?_ ?_ | with_reducible refine ak ?_ _ | (intro _) | with_reducible exact ai _ | exact ah | (dsimp only))
def kD (least : List Int) (want : List Int) (most : List Int) (n : Int) (t : List Int × Int × Int) : Option ((List Int × Int × Int) ⊕ ((List Int × Int))) :=
 bif decide (t.2.2 < n) then
 (idx least t.2.2).bind fun x =>
 (d7 x).bind fun x1 =>
 (idx want t.2.2).bind fun x2 =>
 (d7 x2).bind fun x3 =>
 (idx most t.2.2).bind fun x4 =>
 (d7 x4).bind fun x5 =>
 (eO x1 [x3,x5,t.2.1]).bind fun x6 =>
 (inb t.2.2 t.1.length).bind fun i =>
 (t.1[i]?).bind fun x7 =>
 (inb t.2.2 (List.set t.1 i x6).length).bind fun i1 =>
 ((List.set t.1 i x6)[i1]?).bind fun x8 =>
 some (.inl (List.set t.1 i x6,w64 (t.2.1 - x8),w64 (t.2.2 + 1)))
 else
 some (.inr (t.1,t.2.1))
theorem vV (least : List Int) (want : List Int) (most : List Int) (n : Int) (t : List Int × Int × Int) : Lo (kD least want most n t) (mX least want most n t):=by
 unfold kD mX
 repeat' (first | with_reducible exact om _ | with_reducible exact lO _ _ | with_reducible refine ad ?_ ?_ ?_ ?_ ?_ | with_reducible refine ae ?_ ?_ ?_ ?_ | with_reducible refine ab ?_ ?_ ?_ | with_reducible refine ag ?_ ?_ | with_reducible refine aj ?_ ?_ | with_reducible refine ak ?_ _ | (intro _) | with_reducible exact ai _ | exact ah | (dsimp only))
def nU (total : Int) (least : List Int) (want : List Int) (most : List Int) : Option (List Int) :=
 (eO (least.length : Int) [(want.length : Int),(most.length : Int)]).bind fun n =>
 (mkl 8 n n 0).bind fun l =>
 (d7 total).bind fun left =>
 (itr 4096 (kD least want most n) (l,left,0)).bind fun q =>
 (itr 4096 (kL want most n) (q.1,q.2,0)).bind fun out =>
 some out
theorem yD (total : Int) (least : List Int) (want : List Int) (most : List Int) : Lo (nU total least want most) (m_ total least want most):=by
 unfold nU m_
 repeat' (first | with_reducible exact lO _ _ | with_reducible exact om _ | with_reducible exact vV _ _ _ _ _ | with_reducible exact vX _ _ _ _ | with_reducible refine ad ?_ ?_ ?_ ?_ ?_ | with_reducible refine ae ?_ ?_ ?_ ?_ | with_reducible refine ab ?_ ?_ ?_ | with_reducible refine ag ?_ ?_ | with_reducible refine aj ?_ ?_ | with_reducible refine ak ?_ _ | (intro _) | with_reducible exact ai _ | exact ah | (dsimp only))
def iX (s : State) (label : Int) (deep : Int) (self : State → (List UInt8) → Int → Int → Int → Option (List Share)) (kids : List (List UInt8)) (x5 : List Int) (t1 : List Share × Int) : Option ((List Share × Int) ⊕ List Share) :=
 bif decide (t1.2 < (x5.length : Int)) then
 (inb t1.2 x5.length).bind fun i1 =>
 (x5[i1]?).bind fun x6 =>
 (inb t1.2 kids.length).bind fun i2 =>
 (kids[i2]?).bind fun x7 =>
 (self s x7 label x6 (w64 (deep + 1))).bind fun x8 =>
 (app 24 t1.1 x8).bind fun l3 =>
 some (.inl (l3,w64 (t1.2 + 1)))
 else
 some (.inr t1.1)
theorem uq (s : State) (label : Int) (deep : Int) (self self_' : State → (List UInt8) → Int → Int → Int → Option (List Share)) (h_self : ∀ (a0 : State) (a1 : (List UInt8)) (a2 : Int) (a3 : Int) (a4 : Int),Lo (self a0 a1 a2 a3 a4) (self_' a0 a1 a2 a3 a4)) (kids : List (List UInt8)) (x5 : List Int) (t1 : List Share × Int) : Lo (iX s label deep self kids x5 t1) (kx s label deep self_' kids x5 t1):=by
 unfold iX kx
 repeat' (first | with_reducible refine h_self _ _ _ _ _ | with_reducible refine ad ?_ ?_ ?_ ?_ ?_ | with_reducible refine ae ?_ ?_ ?_ ?_ | with_reducible refine ab ?_ ?_ ?_ | with_reducible refine ag ?_ ?_ | with_reducible refine aj ?_ ?_ | with_reducible refine ak ?_ _ | (intro _) | with_reducible exact ai _ | exact ah | (dsimp only))
def je (s : State) (label : Int) (kids : List (List UInt8)) (t : Rows3_ListInt × Int) : Option ((Rows3_ListInt × Int) ⊕ Rows3_ListInt) :=
 bif decide (t.2 < (kids.length : Int)) then
 (inb t.2 kids.length).bind fun i =>
 (kids[i]?).bind fun x =>
 (kh s x label).bind fun x1 =>
 (eR s x label).bind fun x2 =>
 (iL s x label).bind fun x3 =>
 (pq s x label).bind fun x4 =>
 (inS t.2 (t.1.r0.length : Int) t.1.r0.length).bind fun p =>
 (inS 0 1 [x1.Mem,w64 (x2.Mem + x3.Mem),x4.Mem].length).bind fun p1 =>
 (inS t.2 (t.1.r1.length : Int) t.1.r1.length).bind fun p2 =>
 (inS 1 2 [x1.Mem,w64 (x2.Mem + x3.Mem),x4.Mem].length).bind fun p3 =>
 (inS t.2 (t.1.r2.length : Int) t.1.r2.length).bind fun p4 =>
 (inS 2 3 [x1.Mem,w64 (x2.Mem + x3.Mem),x4.Mem].length).bind fun p5 =>
 some (.inl ((⟨cpy t.1.r0 p.1 p.2 (sub [x1.Mem,w64 (x2.Mem + x3.Mem),x4.Mem] p1.1 p1.2),cpy t.1.r1 p2.1 p2.2 (sub [x1.Mem,w64 (x2.Mem + x3.Mem),x4.Mem] p3.1 p3.2),cpy t.1.r2 p4.1 p4.2 (sub [x1.Mem,w64 (x2.Mem + x3.Mem),x4.Mem] p5.1 p5.2)⟩ : Rows3_ListInt),w64 (t.2 + 1)))
 else
 some (.inr t.1)
theorem uv (s : State) (label : Int) (kids : List (List UInt8)) (t : Rows3_ListInt × Int) : Lo (je s label kids t) (kF s label kids t):=by
 unfold je kF
 repeat' (first | with_reducible exact sR _ _ _ | with_reducible exact ic _ _ _ | with_reducible exact pE _ _ _ | with_reducible exact zo _ _ _ | with_reducible refine ad ?_ ?_ ?_ ?_ ?_ | with_reducible refine ae ?_ ?_ ?_ ?_ | with_reducible refine ab ?_ ?_ ?_ | with_reducible refine ag ?_ ?_ | with_reducible refine aj ?_ ?_ | with_reducible refine ak ?_ _ | (intro _) | with_reducible exact ai _ | exact ah | (dsimp only))
def lT (self : State → (List UInt8) → Int → Int → Int → Option (List Share)) (s : State) (path : List UInt8) (label : Int) (mem : Int) (deep : Int) : Option (List Share) :=
 (ru s.Conf path).bind fun kids =>
 (
 bif (kids.length : Int) == 0 then
  some true
 else
  some (decide (deep > 4))).bind fun q =>
 bif q then
 some [(⟨path,mem⟩ : Share)]
 else
 (mkl 8 (kids.length : Int) (kids.length : Int) 0).bind fun l =>
 (mkl 8 (kids.length : Int) (kids.length : Int) 0).bind fun l1 =>
 (mkl 8 (kids.length : Int) (kids.length : Int) 0).bind fun l2 =>
 (itr 4096 (je s label kids) ((⟨l,l1,l2⟩ : Rows3_ListInt),0)).bind fun rows =>
 (nU mem rows.r0 rows.r1 rows.r2).bind fun x5 =>
 (itr 4096 (iX s label deep self kids x5) ([],0)).bind fun out =>
 some out
theorem wL (self self_' : State → (List UInt8) → Int → Int → Int → Option (List Share)) (h_self : ∀ (a0 : State) (a1 : (List UInt8)) (a2 : Int) (a3 : Int) (a4 : Int),Lo (self a0 a1 a2 a3 a4) (self_' a0 a1 a2 a3 a4)) (s : State) (path : List UInt8) (label : Int) (mem : Int) (deep : Int) : Lo (lT self s path label mem deep) (nX self_' s path label mem deep):=by
 unfold lT nX
 repeat' (first | with_reducible exact AX _ _ | with_reducible exact uv _ _ _ _ | with_reducible exact yD _ _ _ _ | with_reducible refine uq _ _ _ _ _ ?_ _ _ _ | with_reducible refine h_self _ _ _ _ _ | with_reducible refine ad ?_ ?_ ?_ ?_ ?_ | with_reducible refine ae ?_ ?_ ?_ ?_ | with_reducible refine ab ?_ ?_ ?_ | with_reducible refine ag ?_ ?_ | with_reducible refine aj ?_ ?_ | with_reducible refine ak ?_ _ | (intro _) | with_reducible exact ai _ | exact ah | (dsimp only))
def iQ : Nat → State → (List UInt8) → Int → Int → Int → Option (List Share)
 | 0 => fun _ _ _ _ _ => none
 | n + 1 => lT (iQ n)
theorem ph : ∀ (n : Nat),∀ (a0 : State) (a1 : List UInt8) (a2 : Int) (a3 : Int) (a4 : Int),Lo (iQ n a0 a1 a2 a3 a4) (ip n a0 a1 a2 a3 a4)
 | 0 => fun _ _ _ _ _ => ah
 | n + 1 => fun a0 a1 a2 a3 a4 => wL (iQ n) (ip n) (ph n) a0 a1 a2 a3 a4
def ox (a0 : State) (a1 : List UInt8) (a2 : Int) (a3 : Int) (a4 : Int) : Option (List Share):=iQ 64 a0 a1 a2 a3 a4
theorem yu (a0 : State) (a1 : List UInt8) (a2 : Int) (a3 : Int) (a4 : Int) : Lo (ox a0 a1 a2 a3 a4) (np a0 a1 a2 a3 a4):=by
 unfold ox np
 repeat' (first | with_reducible refine ph _ _ _ _ _ _ | with_reducible refine ad ?_ ?_ ?_ ?_ ?_ | with_reducible refine ae ?_ ?_ ?_ ?_ | with_reducible refine ab ?_ ?_ ?_ | with_reducible refine ag ?_ ?_ | with_reducible refine aj ?_ ?_ | with_reducible refine ak ?_ _ | (intro _) | with_reducible exact ai _ | exact ah | (dsimp only))
def gu (s : State) (label : Int) : Option (List Share) :=
 (ii s label).bind fun x =>
 (ox s ([114,111,111,116] : List UInt8) label x.Mem 1).bind fun x1 =>
 some x1
theorem lJ (s : State) (label : Int) : Lo (gu s label) (gG s label):=by
 unfold gu gG
 repeat' (first | with_reducible exact mW _ _ | with_reducible exact yu _ _ _ _ _ | with_reducible refine ad ?_ ?_ ?_ ?_ ?_ | with_reducible refine ae ?_ ?_ ?_ ?_ | with_reducible refine ab ?_ ?_ ?_ | with_reducible refine ag ?_ ?_ | with_reducible refine aj ?_ ?_ | with_reducible refine ak ?_ _ | (intro _) | with_reducible exact ai _ | exact ah | (dsimp only))
def n8 (s : List App) (f : (TupT fam [.st 6] → Option Bool)) (t : Int) : Option (Int ⊕ (Int ⊕ Unit)) :=
 bif decide (t < (s.length : Int)) then
 (idx s t).bind fun x =>
 (f (x,())).bind fun r =>
 bif r then
  some (.inr (.inl t))
 else
  some (.inl (w64 (t + 1)))
 else
 some (.inr (.inr ()))
theorem yy (s : List App) (f f_' : (TupT fam [.st 6] → Option Bool)) (h_f : ∀ a,Lo (f a) (f_' a)) (t : Int) : Lo (n8 s f t) (rY s f_' t):=by
 unfold n8 rY
 repeat' (first | exact h_f _ | with_reducible refine ad ?_ ?_ ?_ ?_ ?_ | with_reducible refine ae ?_ ?_ ?_ ?_ | with_reducible refine ab ?_ ?_ ?_ | with_reducible refine ag ?_ ?_ | with_reducible refine aj ?_ ?_ | with_reducible refine ak ?_ _ | (intro _) | with_reducible exact ai _ | exact ah | (dsimp only))
def tT (s : List App) (f : (TupT fam [.st 6] → Option Bool)) : Option Int :=
 (itr 4096 (n8 s f) 0).bind fun q0 =>
 match q0 with
 | .inl q =>
 some q
 | .inr _ =>
 some (-1)
theorem Bm (s : List App) (f f_' : (TupT fam [.st 6] → Option Bool)) (h_f : ∀ a,Lo (f a) (f_' a)) : Lo (tT s f) (tk s f_'):=by
 unfold tT tk
 repeat' (first | with_reducible refine yy _ _ _ ?_ _ | exact h_f _ | with_reducible refine ad ?_ ?_ ?_ ?_ ?_ | with_reducible refine ae ?_ ?_ ?_ ?_ | with_reducible refine ab ?_ ?_ ?_ | with_reducible refine ag ?_ ?_ | with_reducible refine aj ?_ ?_ | with_reducible refine ak ?_ _ | (intro _) | with_reducible exact ai _ | exact ah | (dsimp only))
def rJ (a : App) (p : Int) : Option Bool :=
 some (a.Id == p)
theorem z5 (a : App) (p : Int) : Lo (rJ a p) (qY a p):=by
 unfold rJ qY
 repeat' (first | with_reducible refine ad ?_ ?_ ?_ ?_ ?_ | with_reducible refine ae ?_ ?_ ?_ ?_ | with_reducible refine ab ?_ ?_ ?_ | with_reducible refine ag ?_ ?_ | with_reducible refine aj ?_ ?_ | with_reducible refine ak ?_ _ | (intro _) | with_reducible exact ai _ | exact ah | (dsimp only))
def qQ (s : State) (id_ : Int) : Option Int :=
 (tT s.Apps (fun a' => rJ a'.1 id_)).bind fun x =>
 some x
theorem xP (s : State) (id_ : Int) : Lo (qQ s id_) (sP s id_):=by
 unfold qQ sP
 repeat' (first | with_reducible refine Bm _ _ _ ?_ | with_reducible exact z5 _ _ | with_reducible refine ad ?_ ?_ ?_ ?_ ?_ | with_reducible refine ae ?_ ?_ ?_ ?_ | with_reducible refine ab ?_ ?_ ?_ | with_reducible refine ag ?_ ?_ | with_reducible refine aj ?_ ?_ | with_reducible refine ak ?_ _ | (intro _) | with_reducible exact ai _ | exact ah | (dsimp only))
def tc (s : List Ask) : Option (List Ask):=app 64 [] s
theorem A2 (s : List Ask) : Lo (tc s) (tM s):=by
 unfold tc tM
 repeat' (first | with_reducible refine ad ?_ ?_ ?_ ?_ ?_ | with_reducible refine ae ?_ ?_ ?_ ?_ | with_reducible refine ab ?_ ?_ ?_ | with_reducible refine ag ?_ ?_ | with_reducible refine aj ?_ ?_ | with_reducible refine ak ?_ _ | (intro _) | with_reducible exact ai _ | exact ah | (dsimp only))
def iv (l : List Int) : Option (List Int) :=
 (mkl 8 (l.length : Int) (l.length : Int) 0).bind fun l1 =>
 some (cpy l1 0 l1.length l)
theorem A0 (l : List Int) : Lo (iv l) (jp l):=by
 unfold iv jp
 repeat' (first | with_reducible refine ad ?_ ?_ ?_ ?_ ?_ | with_reducible refine ae ?_ ?_ ?_ ?_ | with_reducible refine ab ?_ ?_ ?_ | with_reducible refine ag ?_ ?_ | with_reducible refine aj ?_ ?_ | with_reducible refine ak ?_ _ | (intro _) | with_reducible exact ai _ | exact ah | (dsimp only))
def oS (a : App) : Option App :=
 (tc a.Asks).bind fun x =>
 (iv a.Grants).bind fun x1 =>
 (iv a.Kills).bind fun x2 =>
 (iv a.Told).bind fun x3 =>
 (iv a.Lost).bind fun x4 =>
 some (⟨a.Id,a.State,a.Queue,a.User,a.Prio,⟨a.Master.Mem,a.Master.Cores⟩,x,a.Seen,a.Beat,x1,x2,x3,x4⟩ : App)
theorem v8 (a : App) : Lo (oS a) (pY a):=by
 unfold oS pY
 repeat' (first | with_reducible exact A2 _ | with_reducible exact A0 _ | with_reducible refine ad ?_ ?_ ?_ ?_ ?_ | with_reducible refine ae ?_ ?_ ?_ ?_ | with_reducible refine ab ?_ ?_ ?_ | with_reducible refine ag ?_ ?_ | with_reducible refine aj ?_ ?_ | with_reducible refine ak ?_ _ | (intro _) | with_reducible exact ai _ | exact ah | (dsimp only))
def nq (s : State) (id_ : Int) : Option (App × Bool) :=
 (qQ s id_).bind fun i =>
 bif decide (i < 0) then
 some ((⟨0,0,[],0,0,⟨0,0⟩,[],0,0,[],[],[],[]⟩ : App),false)
 else
 (idx s.Apps i).bind fun x =>
 (oS x).bind fun x1 =>
 some (x1,true)
theorem vi (s : State) (id_ : Int) : Lo (nq s id_) (nI s id_):=by
 unfold nq nI
 repeat' (first | with_reducible exact xP _ _ | with_reducible exact v8 _ | with_reducible refine ad ?_ ?_ ?_ ?_ ?_ | with_reducible refine ae ?_ ?_ ?_ ?_ | with_reducible refine ab ?_ ?_ ?_ | with_reducible refine ag ?_ ?_ | with_reducible refine aj ?_ ?_ | with_reducible refine ak ?_ _ | (intro _) | with_reducible exact ai _ | exact ah | (dsimp only))
def jC (s : State) (label : Int) (t1 : Looker × Int) : Option ((Looker × Int) ⊕ Looker) :=
 bif decide (t1.2 < (s.Conts.length : Int)) then
 (
  (idx s.Conts t1.2).bind fun x4 =>
  bif x4.Label != label then
  some t1.1
  else
  (nq s x4.App).bind fun x5 =>
  bif x4.Notice != 0 then
   (dK (⟨⟨⟨t1.1.s.Conf.Labels,t1.1.s.Conf.Queues⟩,t1.1.s.Nodes,t1.1.s.Apps,t1.1.s.Conts,t1.1.s.Slots,t1.1.s.Plans,t1.1.s.Now,t1.1.s.Epoch,t1.1.s.Seq⟩,t1.1.label,t1.1.over,mput (fun x6 => x4.Id == x6.k) t1.1.leaf (⟨x4.Id,x5.1.Queue⟩ : Ent2_IntListUInt8),t1.1.noticed,t1.1.gone⟩ : Looker) x4).bind fun x7 =>
   some x7
  else
   some (⟨⟨⟨t1.1.s.Conf.Labels,t1.1.s.Conf.Queues⟩,t1.1.s.Nodes,t1.1.s.Apps,t1.1.s.Conts,t1.1.s.Slots,t1.1.s.Plans,t1.1.s.Now,t1.1.s.Epoch,t1.1.s.Seq⟩,t1.1.label,t1.1.over,mput (fun x6 => x4.Id == x6.k) t1.1.leaf (⟨x4.Id,x5.1.Queue⟩ : Ent2_IntListUInt8),t1.1.noticed,t1.1.gone⟩ : Looker)).bind fun k1 =>
 some (.inl (k1,w64 (t1.2 + 1)))
 else
 some (.inr t1.1)
theorem u5 (s : State) (label : Int) (t1 : Looker × Int) : Lo (jC s label t1) (lq s label t1):=by
 unfold jC lq
 repeat' (first | with_reducible exact vi _ _ | with_reducible exact iU _ _ | with_reducible refine ad ?_ ?_ ?_ ?_ ?_ | with_reducible refine ae ?_ ?_ ?_ ?_ | with_reducible refine ab ?_ ?_ ?_ | with_reducible refine ag ?_ ?_ | with_reducible refine aj ?_ ?_ | with_reducible refine ak ?_ _ | (intro _) | with_reducible exact ai _ | exact ah | (dsimp only))
def jD (s : State) (label : Int) (x : List Share) (t : Looker × Int) : Option ((Looker × Int) ⊕ Looker) :=
 bif decide (t.2 < (x.length : Int)) then
 (inb t.2 x.length).bind fun i =>
 (x[i]?).bind fun x1 =>
 (eR s x1.Path label).bind fun x2 =>
 some (.inl ((⟨⟨⟨t.1.s.Conf.Labels,t.1.s.Conf.Queues⟩,t.1.s.Nodes,t.1.s.Apps,t.1.s.Conts,t.1.s.Slots,t.1.s.Plans,t.1.s.Now,t.1.s.Epoch,t.1.s.Seq⟩,t.1.label,mput (fun x3 => x1.Path == x3.k) t.1.over (⟨x1.Path,w64 (x2.Mem - x1.Mem)⟩ : Ent0_ListUInt8Int),t.1.leaf,t.1.noticed,t.1.gone⟩ : Looker),w64 (t.2 + 1)))
 else
 some (.inr t.1)
theorem vj (s : State) (label : Int) (x : List Share) (t : Looker × Int) : Lo (jD s label x t) (lz s label x t):=by
 unfold jD lz
 repeat' (first | with_reducible exact ic _ _ _ | with_reducible refine ad ?_ ?_ ?_ ?_ ?_ | with_reducible refine ae ?_ ?_ ?_ ?_ | with_reducible refine ab ?_ ?_ ?_ | with_reducible refine ag ?_ ?_ | with_reducible refine aj ?_ ?_ | with_reducible refine ak ?_ _ | (intro _) | with_reducible exact ai _ | exact ah | (dsimp only))
def mI (s : State) (label : Int) : Option Looker :=
 (gu s label).bind fun x =>
 (itr 4096 (jD s label x) ((⟨⟨⟨s.Conf.Labels,s.Conf.Queues⟩,s.Nodes,s.Apps,s.Conts,s.Slots,s.Plans,s.Now,s.Epoch,s.Seq⟩,label,[],[],[],0⟩ : Looker),0)).bind fun k =>
 (itr 4096 (jC s label) (k,0)).bind fun k2 =>
 some k2
theorem xr (s : State) (label : Int) : Lo (mI s label) (lv s label):=by
 unfold mI lv
 repeat' (first | with_reducible exact lJ _ _ | with_reducible exact vj _ _ _ _ | with_reducible exact u5 _ _ _ | with_reducible refine ad ?_ ?_ ?_ ?_ ?_ | with_reducible refine ae ?_ ?_ ?_ ?_ | with_reducible refine ab ?_ ?_ ?_ | with_reducible refine ag ?_ ?_ | with_reducible refine aj ?_ ?_ | with_reducible refine ak ?_ _ | (intro _) | with_reducible exact ai _ | exact ah | (dsimp only))
def eH (k : Looker) (path : List UInt8) (x : Vec) (x1 : Vec) (x2 : App) (t1 : Int) : Option (Int ⊕ (Int ⊕ Unit)) :=
 bif decide (t1 < (x2.Asks.length : Int)) then
 (idx x2.Asks t1).bind fun x4 =>
 (
  bif x4.Label == k.label then
  some (decide ((w64 (x.Mem + x4.Size.Mem)) ≤ x1.Mem))
  else
  some false).bind fun q1 =>
 bif q1 then
  (iL k.s path k.label).bind fun x5 =>
  some (.inr (.inl (imin x5.Mem (w64 (x1.Mem - x.Mem)))))
 else
  some (.inl (w64 (t1 + 1)))
 else
 some (.inr (.inr ()))
theorem ol (k : Looker) (path : List UInt8) (x : Vec) (x1 : Vec) (x2 : App) (t1 : Int) : Lo (eH k path x x1 x2 t1) (fu k path x x1 x2 t1):=by
 unfold eH fu
 repeat' (first | with_reducible exact pE _ _ _ | with_reducible refine ad ?_ ?_ ?_ ?_ ?_ | with_reducible refine ae ?_ ?_ ?_ ?_ | with_reducible refine ab ?_ ?_ ?_ | with_reducible refine ag ?_ ?_ | with_reducible refine aj ?_ ?_ | with_reducible refine ak ?_ _ | (intro _) | with_reducible exact ai _ | exact ah | (dsimp only))
def eB (k : Looker) (path : List UInt8) (x : Vec) (x1 : Vec) (t : Int) : Option (Int ⊕ (Int ⊕ Unit)) :=
 bif decide (t < (k.s.Apps.length : Int)) then
 (
  (idx k.s.Apps t).bind fun x2 =>
  (
  (nf x2).bind fun x3 =>
  bif ! x3 then
   some true
  else
   some (! (x2.Queue == path))).bind fun q =>
  bif q then
  some (.inl ())
  else
  (itr 4096 (eH k path x x1 x2) 0).bind fun q0 =>
  match q0 with
  | .inl q2 =>
   some (.inr q2)
  | .inr _ =>
   some (.inl ()) : Option (Unit ⊕ Int)).bind fun q0 =>
 match q0 with
 | .inl _ =>
  some (.inl (w64 (t + 1)))
 | .inr q3 =>
  some (.inr (.inl q3))
 else
 some (.inr (.inr ()))
theorem oh (k : Looker) (path : List UInt8) (x : Vec) (x1 : Vec) (t : Int) : Lo (eB k path x x1 t) (fx k path x x1 t):=by
 unfold eB fx
 repeat' (first | with_reducible exact uM _ | with_reducible exact ol _ _ _ _ _ _ | with_reducible refine ad ?_ ?_ ?_ ?_ ?_ | with_reducible refine ae ?_ ?_ ?_ ?_ | with_reducible refine ab ?_ ?_ ?_ | with_reducible refine ag ?_ ?_ | with_reducible refine aj ?_ ?_ | with_reducible refine ak ?_ _ | (intro _) | with_reducible exact ai _ | exact ah | (dsimp only))
def fY (k : Looker) (path : List UInt8) : Option (Int × Looker) :=
 (eR k.s path k.label).bind fun x =>
 (kh k.s path k.label).bind fun x1 =>
 (itr 4096 (eB k path x x1) 0).bind fun q0 =>
 match q0 with
 | .inl q4 =>
 some (q4,k)
 | .inr _ =>
 some (0,k)
theorem qF (k : Looker) (path : List UInt8) : Lo (fY k path) (eI k path):=by
 unfold fY eI
 repeat' (first | with_reducible exact ic _ _ _ | with_reducible exact sR _ _ _ | with_reducible exact oh _ _ _ _ _ | with_reducible refine ad ?_ ?_ ?_ ?_ ?_ | with_reducible refine ae ?_ ?_ ?_ ?_ | with_reducible refine ab ?_ ?_ ?_ | with_reducible refine ag ?_ ?_ | with_reducible refine aj ?_ ?_ | with_reducible refine ak ?_ _ | (intro _) | with_reducible exact ai _ | exact ah | (dsimp only))
def eV (x : List Share) (t : Looker × Int × Int) : Option ((Looker × Int × Int) ⊕ ((Looker × Int))) :=
 bif decide (t.2.2 < (x.length : Int)) then
 (inb t.2.2 x.length).bind fun i =>
 (x[i]?).bind fun x1 =>
 (fY t.1 x1.Path).bind fun x2 =>
 let sum:=w64 (t.2.1 + x2.1)
 some (.inl (x2.2,sum,w64 (t.2.2 + 1)))
 else
 some (.inr (t.1,t.2.1))
theorem oN (x : List Share) (t : Looker × Int × Int) : Lo (eV x t) (gb x t):=by
 unfold eV gb
 repeat' (first | with_reducible exact qF _ _ | with_reducible refine ad ?_ ?_ ?_ ?_ ?_ | with_reducible refine ae ?_ ?_ ?_ ?_ | with_reducible refine ab ?_ ?_ ?_ | with_reducible refine ag ?_ ?_ | with_reducible refine aj ?_ ?_ | with_reducible refine ak ?_ _ | (intro _) | with_reducible exact ai _ | exact ah | (dsimp only))
def gI (k : Looker) : Option (Int × Looker) :=
 (gu k.s k.label).bind fun x =>
 (itr 4096 (eV x) (k,0,0)).bind fun q =>
 (ii q.1.s q.1.label).bind fun x3 =>
 (eR q.1.s ([114,111,111,116] : List UInt8) q.1.label).bind fun x4 =>
 some (w64 (q.2 - (imax (w64 (x3.Mem - x4.Mem)) 0)),q.1)
theorem rA (k : Looker) : Lo (gI k) (e_ k):=by
 unfold gI e_
 repeat' (first | with_reducible exact lJ _ _ | with_reducible exact oN _ _ | with_reducible exact mW _ _ | with_reducible exact ic _ _ _ | with_reducible refine ad ?_ ?_ ?_ ?_ ?_ | with_reducible refine ae ?_ ?_ ?_ ?_ | with_reducible refine ab ?_ ?_ ?_ | with_reducible refine ag ?_ ?_ | with_reducible refine aj ?_ ?_ | with_reducible refine ak ?_ _ | (intro _) | with_reducible exact ai _ | exact ah | (dsimp only))
def kq (vals : List Int) (t : Int) : Option (Int ⊕ (Int ⊕ Unit)) :=
 bif decide (t < (vals.length : Int)) then
 (idx vals t).bind fun x =>
 bif x != 0 then
  some (.inr (.inl x))
 else
  some (.inl (w64 (t + 1)))
 else
 some (.inr (.inr ()))
theorem vY (vals : List Int) (t : Int) : Lo (kq vals t) (m0 vals t):=by
 unfold kq m0
 repeat' (first | with_reducible refine ad ?_ ?_ ?_ ?_ ?_ | with_reducible refine ae ?_ ?_ ?_ ?_ | with_reducible refine ab ?_ ?_ ?_ | with_reducible refine ag ?_ ?_ | with_reducible refine aj ?_ ?_ | with_reducible refine ak ?_ _ | (intro _) | with_reducible exact ai _ | exact ah | (dsimp only))
def n7 (vals : List Int) : Option Int :=
 (itr 4096 (kq vals) 0).bind fun q0 =>
 match q0 with
 | .inl q =>
 some q
 | .inr _ =>
 some 0
theorem yl (vals : List Int) : Lo (n7 vals) (na vals):=by
 unfold n7 na
 repeat' (first | with_reducible exact vY _ _ | with_reducible refine ad ?_ ?_ ?_ ?_ ?_ | with_reducible refine ae ?_ ?_ ?_ ?_ | with_reducible refine ab ?_ ?_ ?_ | with_reducible refine ag ?_ ?_ | with_reducible refine aj ?_ ?_ | with_reducible refine ak ?_ _ | (intro _) | with_reducible exact ai _ | exact ah | (dsimp only))
def dX (x : Int) : Option Bool :=
 some (x != x)
theorem oA (x : Int) : Lo (dX x) (dT x):=by
 unfold dX dT
 repeat' (first | with_reducible refine ad ?_ ?_ ?_ ?_ ?_ | with_reducible refine ae ?_ ?_ ?_ ?_ | with_reducible refine ab ?_ ?_ ?_ | with_reducible refine ag ?_ ?_ | with_reducible refine aj ?_ ?_ | with_reducible refine ak ?_ _ | (intro _) | with_reducible exact ai _ | exact ah | (dsimp only))
def iY (x : Int) (y : Int) : Option Int :=
 (dX x).bind fun xNaN =>
 (dX y).bind fun yNaN =>
 bif xNaN then
 bif yNaN then
  some 0
 else
  some (-1)
 else
 bif yNaN then
  some 1
 else
  bif decide (x < y) then
  some (-1)
  else
  bif decide (x > y) then
   some 1
  else
   some 0
theorem ux (x : Int) (y : Int) : Lo (iY x y) (g_ x y):=by
 unfold iY g_
 repeat' (first | with_reducible exact oA _ | with_reducible refine ad ?_ ?_ ?_ ?_ ?_ | with_reducible refine ae ?_ ?_ ?_ ?_ | with_reducible refine ab ?_ ?_ ?_ | with_reducible refine ag ?_ ?_ | with_reducible refine aj ?_ ?_ | with_reducible refine ak ?_ _ | (intro _) | with_reducible exact ai _ | exact ah | (dsimp only))
def fc (x : List UInt8) : Option Bool :=
 some (! (x == x))
theorem tC (x : List UInt8) : Lo (fc x) (er x):=by
 unfold fc er
 repeat' (first | with_reducible refine ad ?_ ?_ ?_ ?_ ?_ | with_reducible refine ae ?_ ?_ ?_ ?_ | with_reducible refine ab ?_ ?_ ?_ | with_reducible refine ag ?_ ?_ | with_reducible refine aj ?_ ?_ | with_reducible refine ak ?_ _ | (intro _) | with_reducible exact ai _ | exact ah | (dsimp only))
def gx (x : List UInt8) (y : List UInt8) : Option Int :=
 (fc x).bind fun xNaN =>
 (fc y).bind fun yNaN =>
 bif xNaN then
 bif yNaN then
  some 0
 else
  some (-1)
 else
 bif yNaN then
  some 1
 else
  bif Op.bytesLess x y then
  some (-1)
  else
  bif ! (strLe x y) then
   some 1
  else
   some 0
theorem rG (x : List UInt8) (y : List UInt8) : Lo (gx x y) (fa x y):=by
 unfold gx fa
 repeat' (first | with_reducible exact tC _ | with_reducible refine ad ?_ ?_ ?_ ?_ ?_ | with_reducible refine ae ?_ ?_ ?_ ?_ | with_reducible refine ab ?_ ?_ ?_ | with_reducible refine ag ?_ ?_ | with_reducible refine aj ?_ ?_ | with_reducible refine ak ?_ _ | (intro _) | with_reducible exact ai _ | exact ah | (dsimp only))
def eU (k : Looker) (_ob : Obj) (found : List UInt8) (e4 : Ent1_ListUInt8Cont) : Option (List UInt8) :=
 (
 bif found == ([] : List UInt8) then
  some true
 else
  let e5:=mget (fun x6 => found == x6.k) k.over (⟨found,0⟩ : Ent0_ListUInt8Int)
  let e6:=mget (fun x7 => e4.k == x7.k) k.over (⟨e4.k,0⟩ : Ent0_ListUInt8Int)
  (iY e5.v e6.v).bind fun x8 =>
  (gx e4.k found).bind fun x9 =>
  (n7 [x8,x9]).bind fun x10 =>
  some (decide (x10 < 0))).bind fun q2 =>
 bif q2 then
 some e4.k
 else
 some found
theorem oV (k : Looker) (_ob : Obj) (found : List UInt8) (e4 : Ent1_ListUInt8Cont) : Lo (eU k _ob found e4) (ga k _ob found e4):=by
 unfold eU ga
 repeat' (first | with_reducible exact ux _ _ | with_reducible exact rG _ _ | with_reducible exact yl _ | with_reducible refine ad ?_ ?_ ?_ ?_ ?_ | with_reducible refine ae ?_ ?_ ?_ ?_ | with_reducible refine ab ?_ ?_ ?_ | with_reducible refine ag ?_ ?_ | with_reducible refine aj ?_ ?_ | with_reducible refine ak ?_ _ | (intro _) | with_reducible exact ai _ | exact ah | (dsimp only))
def eS (k : Looker) (t : List Ent1_ListUInt8Cont × Int) : Option ((List Ent1_ListUInt8Cont × Int) ⊕ List Ent1_ListUInt8Cont) :=
 bif decide (t.2 < (k.s.Conts.length : Int)) then
 (
  (idx k.s.Conts t.2).bind fun x =>
  let e:=mget (fun x1 => x.Id == x1.k) k.leaf (⟨x.Id,[]⟩ : Ent2_IntListUInt8)
  let is:=mhas (fun x1 => x.Id == x1.k) k.leaf
  (
  bif ! is then
   some true
  else
   let e1:=mget (fun x2 => x.Id == x2.k) k.noticed (⟨x.Id,0⟩ : Ent4_IntInt)
   bif decide (e1.v > 0) then
   some true
   else
   let e2:=mget (fun x3 => e.v == x3.k) k.over (⟨e.v,0⟩ : Ent0_ListUInt8Int)
   some (decide (e2.v ≤ 0))).bind fun q =>
  bif q then
  some t.1
  else
  let e3:=mget (fun x4 => e.v == x4.k) t.1 (⟨e.v,⟨0,0,0,⟨0,0⟩,0,0,false,0⟩⟩ : Ent1_ListUInt8Cont)
  let has:=mhas (fun x4 => e.v == x4.k) t.1
  (
   bif ! has then
   some true
   else
   bif e3.v.Master then
    bif ! x.Master then
    some true
    else
    bif e3.v.Master == x.Master then
     some (decide (x.Id > e3.v.Id))
    else
     some false
   else
    bif e3.v.Master == x.Master then
    some (decide (x.Id > e3.v.Id))
    else
    some false).bind fun q1 =>
  bif q1 then
   some (mput (fun x5 => e.v == x5.k) t.1 (⟨e.v,⟨x.Id,x.App,x.Node,⟨x.Size.Mem,x.Size.Cores⟩,x.Prio,x.Label,x.Master,x.Notice⟩⟩ : Ent1_ListUInt8Cont))
  else
   some t.1).bind fun best =>
 some (.inl (best,w64 (t.2 + 1)))
 else
 some (.inr t.1)
theorem o_ (k : Looker) (t : List Ent1_ListUInt8Cont × Int) : Lo (eS k t) (fX k t):=by
 unfold eS fX
 repeat' (first | with_reducible refine ad ?_ ?_ ?_ ?_ ?_ | with_reducible refine ae ?_ ?_ ?_ ?_ | with_reducible refine ab ?_ ?_ ?_ | with_reducible refine ag ?_ ?_ | with_reducible refine aj ?_ ?_ | with_reducible refine ak ?_ _ | (intro _) | with_reducible exact ai _ | exact ah | (dsimp only))
def gv (k : Looker) : Option (Cont × Bool × Looker) :=
 (itr 4096 (eS k) ([],0)).bind fun best1 =>
 (rngc (ω:=Obj) (Obj.deferred none) (fun _ => some ([] : List UInt8)) (eU k) best1).bind fun found1 =>
 let e7:=mget (fun x11 => found1 == x11.k) best1 (⟨found1,⟨0,0,0,⟨0,0⟩,0,0,false,0⟩⟩ : Ent1_ListUInt8Cont)
 let is1:=mhas (fun x11 => found1 == x11.k) best1
 some (e7.v,is1,k)
theorem rU (k : Looker) : Lo (gv k) (fd k):=by
 unfold gv fd
 repeat' (first | with_reducible exact o_ _ _ | with_reducible exact oV _ _ _ _ | with_reducible refine F8 ?_ (fun _ _ _ _ => rfl) (fun _ _ => rfl) _ | with_reducible refine ad ?_ ?_ ?_ ?_ ?_ | with_reducible refine ae ?_ ?_ ?_ ?_ | with_reducible refine ab ?_ ?_ ?_ | with_reducible refine ag ?_ ?_ | with_reducible refine aj ?_ ?_ | with_reducible refine ak ?_ _ | (intro _) | with_reducible exact ai _ | exact ah | (dsimp only))
def jK (need : Int × Looker) (t : Looker × List Int) : Option ((Looker × List Int) ⊕ List Int) :=
 bif decide (t.1.gone < need.1) then
 (gv t.1).bind fun x =>
 bif ! x.2.1 then
  some (.inr t.2)
 else
  (dK x.2.2 x.1).bind fun x1 =>
  (app 8 t.2 [x.1.Id]).bind fun l =>
  some (.inl (x1,l))
 else
 some (.inr t.2)
theorem uI (need : Int × Looker) (t : Looker × List Int) : Lo (jK need t) (lg need t):=by
 unfold jK lg
 repeat' (first | with_reducible exact rU _ | with_reducible exact iU _ _ | with_reducible refine ad ?_ ?_ ?_ ?_ ?_ | with_reducible refine ae ?_ ?_ ?_ ?_ | with_reducible refine ab ?_ ?_ ?_ | with_reducible refine ag ?_ ?_ | with_reducible refine aj ?_ ?_ | with_reducible refine ak ?_ _ | (intro _) | with_reducible exact ai _ | exact ah | (dsimp only))
def jx (s : State) (label : Int) : Option (List Int) :=
 (mI s label).bind fun k =>
 (gI k).bind fun need =>
 (itr 4096 (jK need) (need.2,[])).bind fun out =>
 some out
theorem q_ (s : State) (label : Int) : Lo (jx s label) (jn s label):=by
 unfold jx jn
 repeat' (first | with_reducible exact xr _ _ | with_reducible exact rA _ | with_reducible exact uI _ _ | with_reducible refine ad ?_ ?_ ?_ ?_ ?_ | with_reducible refine ae ?_ ?_ ?_ ?_ | with_reducible refine ab ?_ ?_ ?_ | with_reducible refine ag ?_ ?_ | with_reducible refine aj ?_ ?_ | with_reducible refine ak ?_ _ | (intro _) | with_reducible exact ai _ | exact ah | (dsimp only))
def mO (s : List Cont) (f : (TupT fam [.st 7] → Option Bool)) (t : Int) : Option (Int ⊕ (Int ⊕ Unit)) :=
 bif decide (t < (s.length : Int)) then
 (idx s t).bind fun x =>
 (f (x,())).bind fun r =>
 bif r then
  some (.inr (.inl t))
 else
  some (.inl (w64 (t + 1)))
 else
 some (.inr (.inr ()))
theorem xu (s : List Cont) (f f_' : (TupT fam [.st 7] → Option Bool)) (h_f : ∀ a,Lo (f a) (f_' a)) (t : Int) : Lo (mO s f t) (pX s f_' t):=by
 unfold mO pX
 repeat' (first | exact h_f _ | with_reducible refine ad ?_ ?_ ?_ ?_ ?_ | with_reducible refine ae ?_ ?_ ?_ ?_ | with_reducible refine ab ?_ ?_ ?_ | with_reducible refine ag ?_ ?_ | with_reducible refine aj ?_ ?_ | with_reducible refine ak ?_ _ | (intro _) | with_reducible exact ai _ | exact ah | (dsimp only))
def fW (s : List Cont) (f : (TupT fam [.st 7] → Option Bool)) : Option Int :=
 (itr 4096 (mO s f) 0).bind fun q0 =>
 match q0 with
 | .inl q =>
 some q
 | .inr _ =>
 some (-1)
theorem iT (s : List Cont) (f f_' : (TupT fam [.st 7] → Option Bool)) (h_f : ∀ a,Lo (f a) (f_' a)) : Lo (fW s f) (gQ s f_'):=by
 unfold fW gQ
 repeat' (first | with_reducible refine xu _ _ _ ?_ _ | exact h_f _ | with_reducible refine ad ?_ ?_ ?_ ?_ ?_ | with_reducible refine ae ?_ ?_ ?_ ?_ | with_reducible refine ab ?_ ?_ ?_ | with_reducible refine ag ?_ ?_ | with_reducible refine aj ?_ ?_ | with_reducible refine ak ?_ _ | (intro _) | with_reducible exact ai _ | exact ah | (dsimp only))
def iP (s : List Cont) : Option (List Cont):=app 72 [] s
theorem qb (s : List Cont) : Lo (iP s) (ia s):=by
 unfold iP ia
 repeat' (first | with_reducible refine ad ?_ ?_ ?_ ?_ ?_ | with_reducible refine ae ?_ ?_ ?_ ?_ | with_reducible refine ab ?_ ?_ ?_ | with_reducible refine ag ?_ ?_ | with_reducible refine aj ?_ ?_ | with_reducible refine ak ?_ _ | (intro _) | with_reducible exact ai _ | exact ah | (dsimp only))
def db (s : List (List UInt8)) : Option (List (List UInt8)):=app 16 [] s
theorem kw (s : List (List UInt8)) : Lo (db s) (bR s):=by
 unfold db bR
 repeat' (first | with_reducible refine ad ?_ ?_ ?_ ?_ ?_ | with_reducible refine ae ?_ ?_ ?_ ?_ | with_reducible refine ab ?_ ?_ ?_ | with_reducible refine ag ?_ ?_ | with_reducible refine aj ?_ ?_ | with_reducible refine ak ?_ _ | (intro _) | with_reducible exact ai _ | exact ah | (dsimp only))
def kO (s : List Queue) : Option (List Queue):=app 48 [] s
theorem v5 (s : List Queue) : Lo (kO s) (jr s):=by
 unfold kO jr
 repeat' (first | with_reducible refine ad ?_ ?_ ?_ ?_ ?_ | with_reducible refine ae ?_ ?_ ?_ ?_ | with_reducible refine ab ?_ ?_ ?_ | with_reducible refine ag ?_ ?_ | with_reducible refine aj ?_ ?_ | with_reducible refine ak ?_ _ | (intro _) | with_reducible exact ai _ | exact ah | (dsimp only))
def rW (s : List Node) : Option (List Node):=app 64 [] s
theorem AZ (s : List Node) : Lo (rW s) (qV s):=by
 unfold rW qV
 repeat' (first | with_reducible refine ad ?_ ?_ ?_ ?_ ?_ | with_reducible refine ae ?_ ?_ ?_ ?_ | with_reducible refine ab ?_ ?_ ?_ | with_reducible refine ag ?_ ?_ | with_reducible refine aj ?_ ?_ | with_reducible refine ak ?_ _ | (intro _) | with_reducible exact ai _ | exact ah | (dsimp only))
def rK (s : List Slot) : Option (List Slot):=app 24 [] s
theorem AY (s : List Slot) : Lo (rK s) (ra s):=by
 unfold rK ra
 repeat' (first | with_reducible refine ad ?_ ?_ ?_ ?_ ?_ | with_reducible refine ae ?_ ?_ ?_ ?_ | with_reducible refine ab ?_ ?_ ?_ | with_reducible refine ag ?_ ?_ | with_reducible refine aj ?_ ?_ | with_reducible refine ak ?_ _ | (intro _) | with_reducible exact ai _ | exact ah | (dsimp only))
def rj (s : List Plan) : Option (List Plan):=app 48 [] s
theorem zZ (s : List Plan) : Lo (rj s) (qT s):=by
 unfold rj qT
 repeat' (first | with_reducible refine ad ?_ ?_ ?_ ?_ ?_ | with_reducible refine ae ?_ ?_ ?_ ?_ | with_reducible refine ab ?_ ?_ ?_ | with_reducible refine ag ?_ ?_ | with_reducible refine aj ?_ ?_ | with_reducible refine ak ?_ _ | (intro _) | with_reducible exact ai _ | exact ah | (dsimp only))
def mJ (s : List App) : Option (List App):=app 200 [] s
theorem xF (s : List App) : Lo (mJ s) (lF s):=by
 unfold mJ lF
 repeat' (first | with_reducible refine ad ?_ ?_ ?_ ?_ ?_ | with_reducible refine ae ?_ ?_ ?_ ?_ | with_reducible refine ab ?_ ?_ ?_ | with_reducible refine ag ?_ ?_ | with_reducible refine aj ?_ ?_ | with_reducible refine ak ?_ _ | (intro _) | with_reducible exact ai _ | exact ah | (dsimp only))
def nY (x9 : List App) (t1 : List App × Nat × Int) : Option ((List App × Nat × Int) ⊕ (List App × Nat × Int)) :=
 bif decide (t1.2.2 < (x9.length : Int)) then
 (inb t1.2.2 t1.1.length).bind fun i2 =>
 bif Nat.ble t1.2.1 i2 then
  (t1.1[i2]?).bind fun x10 =>
  (oS x10).bind fun x11 =>
  (inb t1.2.2 t1.1.length).bind fun i3 =>
  bif Nat.beq i3 t1.2.1 then
  (t1.1[i3]?).bind fun x12 =>
  some (.inl (List.set t1.1 i3 x11,t1.2.1 + 1,w64 (t1.2.2 + 1)))
  else
  none
 else
  none
 else
 some (.inr (t1.1,t1.2.1,t1.2.2))
theorem ye (x9 : List App) (t1 : List App × Nat × Int) : Lo (nY x9 t1) (rL x9 t1):=by
 unfold nY rL
 repeat' (first | with_reducible exact v8 _ | with_reducible refine ad ?_ ?_ ?_ ?_ ?_ | with_reducible refine ae ?_ ?_ ?_ ?_ | with_reducible refine ab ?_ ?_ ?_ | with_reducible refine ag ?_ ?_ | with_reducible refine aj ?_ ?_ | with_reducible refine ak ?_ _ | (intro _) | with_reducible exact ai _ | exact ah | (dsimp only))
def oi (x1 : List Queue) (t : List Queue × Nat × Int) : Option ((List Queue × Nat × Int) ⊕ (List Queue × Nat × Int)) :=
 bif decide (t.2.2 < (x1.length : Int)) then
 (inb t.2.2 t.1.length).bind fun i =>
 bif Nat.ble t.2.1 i then
  (t.1[i]?).bind fun x2 =>
  (oO x2.Caps).bind fun x3 =>
  (inb t.2.2 t.1.length).bind fun i1 =>
  bif Nat.beq i1 t.2.1 then
  (t.1[i1]?).bind fun x4 =>
  some (.inl (List.set t.1 i1 (⟨x4.Path,x3,x4.User⟩ : Queue),t.2.1 + 1,w64 (t.2.2 + 1)))
  else
  none
 else
  none
 else
 some (.inr (t.1,t.2.1,t.2.2))
theorem yx (x1 : List Queue) (t : List Queue × Nat × Int) : Lo (oi x1 t) (rh x1 t):=by
 unfold oi rh
 repeat' (first | with_reducible exact wc _ | with_reducible refine ad ?_ ?_ ?_ ?_ ?_ | with_reducible refine ae ?_ ?_ ?_ ?_ | with_reducible refine ab ?_ ?_ ?_ | with_reducible refine ag ?_ ?_ | with_reducible refine aj ?_ ?_ | with_reducible refine ak ?_ _ | (intro _) | with_reducible exact ai _ | exact ah | (dsimp only))
def pb (s : State) : Option State :=
 (db s.Conf.Labels).bind fun x =>
 (kO s.Conf.Queues).bind fun x1 =>
 (itr 4096 (oi x1) (x1,0,0)).bind fun q =>
 bif Nat.ble q.1.length q.2.1 then
 (rW s.Nodes).bind fun x5 =>
 (iP s.Conts).bind fun x6 =>
 (rK s.Slots).bind fun x7 =>
 (rj s.Plans).bind fun x8 =>
 (mJ s.Apps).bind fun x9 =>
 (itr 4096 (nY x9) (x9,0,0)).bind fun q1 =>
 bif Nat.ble q1.1.length q1.2.1 then
  some (⟨⟨x,q.1⟩,x5,q1.1,x6,x7,x8,s.Now,s.Epoch,s.Seq⟩ : State)
 else
  none
 else
 none
theorem Bg (s : State) : Lo (pb s) (pH s):=by
 unfold pb pH
 repeat' (first | with_reducible exact kw _ | with_reducible exact v5 _ | with_reducible exact yx _ _ | with_reducible exact AZ _ | with_reducible exact qb _ | with_reducible exact AY _ | with_reducible exact zZ _ | with_reducible exact xF _ | with_reducible exact ye _ _ | with_reducible refine ad ?_ ?_ ?_ ?_ ?_ | with_reducible refine ae ?_ ?_ ?_ ?_ | with_reducible refine ab ?_ ?_ ?_ | with_reducible refine ag ?_ ?_ | with_reducible refine aj ?_ ?_ | with_reducible refine ak ?_ _ | (intro _) | with_reducible exact ai _ | exact ah | (dsimp only))
def oj (c : Cont) (p : Int) : Option Bool :=
 some (c.Id == p)
theorem xY (c : Cont) (p : Int) : Lo (oj c p) (nk c p):=by
 unfold oj nk
 repeat' (first | with_reducible refine ad ?_ ?_ ?_ ?_ ?_ | with_reducible refine ae ?_ ?_ ?_ ?_ | with_reducible refine ab ?_ ?_ ?_ | with_reducible refine ag ?_ ?_ | with_reducible refine aj ?_ ?_ | with_reducible refine ak ?_ _ | (intro _) | with_reducible exact ai _ | exact ah | (dsimp only))
def jJ (s : List Ask) (f : (TupT fam [.st 5] → Option Bool)) (t : Int) : Option (Int ⊕ (Int ⊕ Unit)) :=
 bif decide (t < (s.length : Int)) then
 (idx s t).bind fun x =>
 (f (x,())).bind fun r =>
 bif r then
  some (.inr (.inl t))
 else
  some (.inl (w64 (t + 1)))
 else
 some (.inr (.inr ()))
theorem uF (s : List Ask) (f f_' : (TupT fam [.st 5] → Option Bool)) (h_f : ∀ a,Lo (f a) (f_' a)) (t : Int) : Lo (jJ s f t) (lC s f_' t):=by
 unfold jJ lC
 repeat' (first | exact h_f _ | with_reducible refine ad ?_ ?_ ?_ ?_ ?_ | with_reducible refine ae ?_ ?_ ?_ ?_ | with_reducible refine ab ?_ ?_ ?_ | with_reducible refine ag ?_ ?_ | with_reducible refine aj ?_ ?_ | with_reducible refine ak ?_ _ | (intro _) | with_reducible exact ai _ | exact ah | (dsimp only))
def mC (s : List Ask) (f : (TupT fam [.st 5] → Option Bool)) : Option Int :=
 (itr 4096 (jJ s f) 0).bind fun q0 =>
 match q0 with
 | .inl q =>
 some q
 | .inr _ =>
 some (-1)
theorem xx (s : List Ask) (f f_' : (TupT fam [.st 5] → Option Bool)) (h_f : ∀ a,Lo (f a) (f_' a)) : Lo (mC s f) (l9 s f_'):=by
 unfold mC l9
 repeat' (first | with_reducible refine uF _ _ _ ?_ _ | exact h_f _ | with_reducible refine ad ?_ ?_ ?_ ?_ ?_ | with_reducible refine ae ?_ ?_ ?_ ?_ | with_reducible refine ab ?_ ?_ ?_ | with_reducible refine ag ?_ ?_ | with_reducible refine aj ?_ ?_ | with_reducible refine ak ?_ _ | (intro _) | with_reducible exact ai _ | exact ah | (dsimp only))
def jA (del : (TupT fam [.st 5] → Option Bool)) (t : List Ask × Int × Int) : Option ((List Ask × Int × Int) ⊕ ((List Ask × Int))) :=
 bif decide (t.2.2 < (t.1.length : Int)) then
 (
  (inb t.2.2 t.1.length).bind fun i1 =>
  (t.1[i1]?).bind fun x =>
  (del (x,())).bind fun r =>
  bif ! r then
  (inb t.2.1 t.1.length).bind fun i2 =>
  (t.1[i2]?).bind fun x1 =>
  some (List.set t.1 i2 x,w64 (t.2.1 + 1))
  else
  some (t.1,t.2.1)).bind fun q =>
 some (.inl (q.1,q.2,w64 (t.2.2 + 1)))
 else
 some (.inr (t.1,t.2.1))
theorem uA (del del_' : (TupT fam [.st 5] → Option Bool)) (h_del : ∀ a,Lo (del a) (del_' a)) (t : List Ask × Int × Int) : Lo (jA del t) (ma del_' t):=by
 unfold jA ma
 repeat' (first | exact h_del _ | with_reducible refine ad ?_ ?_ ?_ ?_ ?_ | with_reducible refine ae ?_ ?_ ?_ ?_ | with_reducible refine ab ?_ ?_ ?_ | with_reducible refine ag ?_ ?_ | with_reducible refine aj ?_ ?_ | with_reducible refine ak ?_ _ | (intro _) | with_reducible exact ai _ | exact ah | (dsimp only))
def mV (s : List Ask) (del : (TupT fam [.st 5] → Option Bool)) : Option (List Ask) :=
 (mC s del).bind fun i =>
 bif i == (-1) then
 some s
 else
 (itr 4096 (jA del) (s,i,w64 (i + 1))).bind fun q1 =>
 (inS q1.2 (q1.1.length : Int) q1.1.length).bind fun p =>
 none
theorem xR (s : List Ask) (del del_' : (TupT fam [.st 5] → Option Bool)) (h_del : ∀ a,Lo (del a) (del_' a)) : Lo (mV s del) (lu s del_'):=by
 unfold mV lu
 repeat' (first | with_reducible refine xx _ _ _ ?_ | with_reducible refine uA _ _ ?_ _ | exact h_del _ | with_reducible refine ad ?_ ?_ ?_ ?_ ?_ | with_reducible refine ae ?_ ?_ ?_ ?_ | with_reducible refine ab ?_ ?_ ?_ | with_reducible refine ag ?_ ?_ | with_reducible refine aj ?_ ?_ | with_reducible refine ak ?_ _ | (intro _) | with_reducible exact ai _ | exact ah | (dsimp only))
def sZ (l : List Ask) : Option (List Ask) :=
 (mkl 64 (l.length : Int) (l.length : Int) (⟨0,0,⟨0,0⟩,0,0,0,0⟩ : Ask)).bind fun l1 =>
 some (cpy l1 0 l1.length l)
theorem A8 (l : List Ask) : Lo (sZ l) (tf l):=by
 unfold sZ tf
 repeat' (first | with_reducible refine ad ?_ ?_ ?_ ?_ ?_ | with_reducible refine ae ?_ ?_ ?_ ?_ | with_reducible refine ab ?_ ?_ ?_ | with_reducible refine ag ?_ ?_ | with_reducible refine aj ?_ ?_ | with_reducible refine ak ?_ _ | (intro _) | with_reducible exact ai _ | exact ah | (dsimp only))
def pM (x : Ask) (p : Ask) : Option Bool :=
 some (x.Prio == p.Prio)
theorem zB (x : Ask) (p : Ask) : Lo (pM x p) (oT x p):=by
 unfold pM oT
 repeat' (first | with_reducible refine ad ?_ ?_ ?_ ?_ ?_ | with_reducible refine ae ?_ ?_ ?_ ?_ | with_reducible refine ab ?_ ?_ ?_ | with_reducible refine ag ?_ ?_ | with_reducible refine aj ?_ ?_ | with_reducible refine ak ?_ _ | (intro _) | with_reducible exact ai _ | exact ah | (dsimp only))
def mz (s : List Ask) (i : Int) (v : List Ask) : Option (List Ask) :=
 (inS i (s.length : Int) s.length).bind fun p =>
 bif (v.length : Int) == 0 then
 some s
 else
 bif i == (s.length : Int) then
  (app 64 s v).bind fun l =>
  some l
 else
  none
theorem xM (s : List Ask) (i : Int) (v : List Ask) : Lo (mz s i v) (lb s i v):=by
 unfold mz lb
 repeat' (first | with_reducible refine ad ?_ ?_ ?_ ?_ ?_ | with_reducible refine ae ?_ ?_ ?_ ?_ | with_reducible refine ab ?_ ?_ ?_ | with_reducible refine ag ?_ ?_ | with_reducible refine aj ?_ ?_ | with_reducible refine ak ?_ _ | (intro _) | with_reducible exact ai _ | exact ah | (dsimp only))
def n_ (a : Ask) (out : List Ask) (k : Int) : Option (Int ⊕ Int) :=
 (
 bif decide (k < (out.length : Int)) then
  (inb k out.length).bind fun i =>
  (out[i]?).bind fun x1 =>
  some (decide (x1.Prio < a.Prio))
 else
  some false).bind fun q =>
 bif q then
 some (.inl (w64 (k + 1)))
 else
 some (.inr k)
theorem ya (a : Ask) (out : List Ask) (k : Int) : Lo (n_ a out k) (rR a out k):=by
 unfold n_ rR
 repeat' (first | with_reducible refine ad ?_ ?_ ?_ ?_ ?_ | with_reducible refine ae ?_ ?_ ?_ ?_ | with_reducible refine ab ?_ ?_ ?_ | with_reducible refine ag ?_ ?_ | with_reducible refine aj ?_ ?_ | with_reducible refine ak ?_ _ | (intro _) | with_reducible exact ai _ | exact ah | (dsimp only))
def tO (l : List Ask) (a : Ask) : Option (List Ask × Int) :=
 (sZ l).bind fun x =>
 (mV x (fun a' => pM a'.1 a)).bind fun out =>
 bif a.Count == 0 then
 some (out,0)
 else
 bif decide ((out.length : Int) ≥ 8) then
  some ([],4)
 else
  (itr 4096 (n_ a out) 0).bind fun k1 =>
  (mz out k1 [(⟨a.Prio,a.Label,⟨a.Size.Mem,a.Size.Cores⟩,a.Count,a.Node,a.Rack,0⟩ : Ask)]).bind fun x2 =>
  some (x2,0)
theorem Ba (l : List Ask) (a : Ask) : Lo (tO l a) (tR l a):=by
 unfold tO tR
 repeat' (first | with_reducible exact A8 _ | with_reducible refine xR _ _ _ ?_ | with_reducible exact zB _ _ | with_reducible exact ya _ _ _ | with_reducible exact xM _ _ _ | with_reducible refine ad ?_ ?_ ?_ ?_ ?_ | with_reducible refine ae ?_ ?_ ?_ ?_ | with_reducible refine ab ?_ ?_ ?_ | with_reducible refine ag ?_ ?_ | with_reducible refine aj ?_ ?_ | with_reducible refine ak ?_ _ | (intro _) | with_reducible exact ai _ | exact ah | (dsimp only))
def pN (a : App) : Option (List Ask) :=
 (tO [] (⟨0,0,⟨a.Master.Mem,a.Master.Cores⟩,1,(-1),(-1),0⟩ : Ask)).bind fun x =>
 some x.1
theorem zn (a : App) : Lo (pN a) (o5 a):=by
 unfold pN o5
 repeat' (first | with_reducible exact Ba _ _ | with_reducible refine ad ?_ ?_ ?_ ?_ ?_ | with_reducible refine ae ?_ ?_ ?_ ?_ | with_reducible refine ab ?_ ?_ ?_ | with_reducible refine ag ?_ ?_ | with_reducible refine aj ?_ ?_ | with_reducible refine ak ?_ _ | (intro _) | with_reducible exact ai _ | exact ah | (dsimp only))
def iV (del : (TupT fam [.st 7] → Option Bool)) (t : List Cont × Int × Int) : Option ((List Cont × Int × Int) ⊕ ((List Cont × Int))) :=
 bif decide (t.2.2 < (t.1.length : Int)) then
 (
  (inb t.2.2 t.1.length).bind fun i1 =>
  (t.1[i1]?).bind fun x =>
  (del (x,())).bind fun r =>
  bif ! r then
  (inb t.2.1 t.1.length).bind fun i2 =>
  (t.1[i2]?).bind fun x1 =>
  some (List.set t.1 i2 x,w64 (t.2.1 + 1))
  else
  some (t.1,t.2.1)).bind fun q =>
 some (.inl (q.1,q.2,w64 (t.2.2 + 1)))
 else
 some (.inr (t.1,t.2.1))
theorem ul (del del_' : (TupT fam [.st 7] → Option Bool)) (h_del : ∀ a,Lo (del a) (del_' a)) (t : List Cont × Int × Int) : Lo (iV del t) (kG del_' t):=by
 unfold iV kG
 repeat' (first | exact h_del _ | with_reducible refine ad ?_ ?_ ?_ ?_ ?_ | with_reducible refine ae ?_ ?_ ?_ ?_ | with_reducible refine ab ?_ ?_ ?_ | with_reducible refine ag ?_ ?_ | with_reducible refine aj ?_ ?_ | with_reducible refine ak ?_ _ | (intro _) | with_reducible exact ai _ | exact ah | (dsimp only))
def lP (s : List Cont) (del : (TupT fam [.st 7] → Option Bool)) : Option (List Cont) :=
 (fW s del).bind fun i =>
 bif i == (-1) then
 some s
 else
 (itr 4096 (iV del) (s,i,w64 (i + 1))).bind fun q1 =>
 (inS q1.2 (q1.1.length : Int) q1.1.length).bind fun p =>
 none
theorem wP (s : List Cont) (del del_' : (TupT fam [.st 7] → Option Bool)) (h_del : ∀ a,Lo (del a) (del_' a)) : Lo (lP s del) (ki s del_'):=by
 unfold lP ki
 repeat' (first | with_reducible refine iT _ _ _ ?_ | with_reducible refine ul _ _ ?_ _ | exact h_del _ | with_reducible refine ad ?_ ?_ ?_ ?_ ?_ | with_reducible refine ae ?_ ?_ ?_ ?_ | with_reducible refine ab ?_ ?_ ?_ | with_reducible refine ag ?_ ?_ | with_reducible refine aj ?_ ?_ | with_reducible refine ak ?_ _ | (intro _) | with_reducible exact ai _ | exact ah | (dsimp only))
def ji (s : List Slot) (f : (TupT fam [.st 8] → Option Bool)) (t : Int) : Option (Int ⊕ (Int ⊕ Unit)) :=
 bif decide (t < (s.length : Int)) then
 (idx s t).bind fun x =>
 (f (x,())).bind fun r =>
 bif r then
  some (.inr (.inl t))
 else
  some (.inl (w64 (t + 1)))
 else
 some (.inr (.inr ()))
theorem uo (s : List Slot) (f f_' : (TupT fam [.st 8] → Option Bool)) (h_f : ∀ a,Lo (f a) (f_' a)) (t : Int) : Lo (ji s f t) (ko s f_' t):=by
 unfold ji ko
 repeat' (first | exact h_f _ | with_reducible refine ad ?_ ?_ ?_ ?_ ?_ | with_reducible refine ae ?_ ?_ ?_ ?_ | with_reducible refine ab ?_ ?_ ?_ | with_reducible refine ag ?_ ?_ | with_reducible refine aj ?_ ?_ | with_reducible refine ak ?_ _ | (intro _) | with_reducible exact ai _ | exact ah | (dsimp only))
def l_ (s : List Slot) (f : (TupT fam [.st 8] → Option Bool)) : Option Int :=
 (itr 4096 (ji s f) 0).bind fun q0 =>
 match q0 with
 | .inl q =>
 some q
 | .inr _ =>
 some (-1)
theorem wT (s : List Slot) (f f_' : (TupT fam [.st 8] → Option Bool)) (h_f : ∀ a,Lo (f a) (f_' a)) : Lo (l_ s f) (kj s f_'):=by
 unfold l_ kj
 repeat' (first | with_reducible refine uo _ _ _ ?_ _ | exact h_f _ | with_reducible refine ad ?_ ?_ ?_ ?_ ?_ | with_reducible refine ae ?_ ?_ ?_ ?_ | with_reducible refine ab ?_ ?_ ?_ | with_reducible refine ag ?_ ?_ | with_reducible refine aj ?_ ?_ | with_reducible refine ak ?_ _ | (intro _) | with_reducible exact ai _ | exact ah | (dsimp only))
def jm (del : (TupT fam [.st 8] → Option Bool)) (t : List Slot × Int × Int) : Option ((List Slot × Int × Int) ⊕ ((List Slot × Int))) :=
 bif decide (t.2.2 < (t.1.length : Int)) then
 (
  (inb t.2.2 t.1.length).bind fun i1 =>
  (t.1[i1]?).bind fun x =>
  (del (x,())).bind fun r =>
  bif ! r then
  (inb t.2.1 t.1.length).bind fun i2 =>
  (t.1[i2]?).bind fun x1 =>
  some (List.set t.1 i2 x,w64 (t.2.1 + 1))
  else
  some (t.1,t.2.1)).bind fun q =>
 some (.inl (q.1,q.2,w64 (t.2.2 + 1)))
 else
 some (.inr (t.1,t.2.1))
theorem uu (del del_' : (TupT fam [.st 8] → Option Bool)) (h_del : ∀ a,Lo (del a) (del_' a)) (t : List Slot × Int × Int) : Lo (jm del t) (kJ del_' t):=by
 unfold jm kJ
 repeat' (first | exact h_del _ | with_reducible refine ad ?_ ?_ ?_ ?_ ?_ | with_reducible refine ae ?_ ?_ ?_ ?_ | with_reducible refine ab ?_ ?_ ?_ | with_reducible refine ag ?_ ?_ | with_reducible refine aj ?_ ?_ | with_reducible refine ak ?_ _ | (intro _) | with_reducible exact ai _ | exact ah | (dsimp only))
def lI (s : List Slot) (del : (TupT fam [.st 8] → Option Bool)) : Option (List Slot) :=
 (l_ s del).bind fun i =>
 bif i == (-1) then
 some s
 else
 (itr 4096 (jm del) (s,i,w64 (i + 1))).bind fun q1 =>
 (inS q1.2 (q1.1.length : Int) q1.1.length).bind fun p =>
 none
theorem wU (s : List Slot) (del del_' : (TupT fam [.st 8] → Option Bool)) (h_del : ∀ a,Lo (del a) (del_' a)) : Lo (lI s del) (kn s del_'):=by
 unfold lI kn
 repeat' (first | with_reducible refine wT _ _ _ ?_ | with_reducible refine uu _ _ ?_ _ | exact h_del _ | with_reducible refine ad ?_ ?_ ?_ ?_ ?_ | with_reducible refine ae ?_ ?_ ?_ ?_ | with_reducible refine ab ?_ ?_ ?_ | with_reducible refine ag ?_ ?_ | with_reducible refine aj ?_ ?_ | with_reducible refine ak ?_ _ | (intro _) | with_reducible exact ai _ | exact ah | (dsimp only))
def mU (x : Slot) (p : Int) : Option Bool :=
 some (x.App == p)
theorem xb (x : Slot) (p : Int) : Lo (mU x p) (lh x p):=by
 unfold mU lh
 repeat' (first | with_reducible refine ad ?_ ?_ ?_ ?_ ?_ | with_reducible refine ae ?_ ?_ ?_ ?_ | with_reducible refine ab ?_ ?_ ?_ | with_reducible refine ag ?_ ?_ | with_reducible refine aj ?_ ?_ | with_reducible refine ak ?_ _ | (intro _) | with_reducible exact ai _ | exact ah | (dsimp only))
def pw (s : State) (id_ : Int) : Option (State × List Int) :=
 (lP s.Conts (fun a' => none)).bind fun x =>
 (lI s.Slots (fun a' => mU a'.1 id_)).bind fun x1 =>
 some ((⟨⟨s.Conf.Labels,s.Conf.Queues⟩,s.Nodes,s.Apps,x,x1,s.Plans,s.Now,s.Epoch,s.Seq⟩ : State),[])
theorem zy (s : State) (id_ : Int) : Lo (pw s id_) (oJ s id_):=by
 unfold pw oJ
 repeat' (first | with_reducible refine wP _ _ _ ?_ | with_reducible refine wU _ _ _ ?_ | with_reducible exact xb _ _ | with_reducible refine ad ?_ ?_ ?_ ?_ ?_ | with_reducible refine ae ?_ ?_ ?_ ?_ | with_reducible refine ab ?_ ?_ ?_ | with_reducible refine ag ?_ ?_ | with_reducible refine aj ?_ ?_ | with_reducible refine ak ?_ _ | (intro _) | with_reducible exact ai _ | exact ah | (dsimp only))
def nZ (s : State) (i : Int) : Option State :=
 (inb i s.Apps.length).bind fun i1 =>
 (s.Apps[i1]?).bind fun x =>
 (pN x).bind fun x1 =>
 (inb i s.Apps.length).bind fun i2 =>
 bif Nat.beq i2 i1 then
 (s.Apps[i2]?).bind fun x2 =>
 (pw (⟨⟨s.Conf.Labels,s.Conf.Queues⟩,s.Nodes,List.set s.Apps i2 (⟨x.Id,1,x.Queue,x.User,x.Prio,⟨x.Master.Mem,x.Master.Cores⟩,x1,s.Now,0,[],[],[],[]⟩ : App),s.Conts,s.Slots,s.Plans,s.Now,s.Epoch,s.Seq⟩ : State) x.Id).bind fun x3 =>
 some x3.1
 else
 none
theorem yA (s : State) (i : Int) : Lo (nZ s i) (nj s i):=by
 unfold nZ nj
 repeat' (first | with_reducible exact zn _ | with_reducible exact zy _ _ | with_reducible refine ad ?_ ?_ ?_ ?_ ?_ | with_reducible refine ae ?_ ?_ ?_ ?_ | with_reducible refine ab ?_ ?_ ?_ | with_reducible refine ag ?_ ?_ | with_reducible refine aj ?_ ?_ | with_reducible refine ak ?_ _ | (intro _) | with_reducible exact ai _ | exact ah | (dsimp only))
def mR (s : List Cont) (i : Int) (j : Int) : Option (List Cont):=del s i j
theorem xd (s : List Cont) (i : Int) (j : Int) : Lo (mR s i j) (ls s i j):=by
 unfold mR ls
 repeat' (first | with_reducible refine ad ?_ ?_ ?_ ?_ ?_ | with_reducible refine ae ?_ ?_ ?_ ?_ | with_reducible refine ab ?_ ?_ ?_ | with_reducible refine ag ?_ ?_ | with_reducible refine aj ?_ ?_ | with_reducible refine ak ?_ _ | (intro _) | with_reducible exact ai _ | exact ah | (dsimp only))
def dW (s : List Int) (v : Int) (t : Int) : Option (Int ⊕ (Int ⊕ Unit)) :=
 bif decide (t < (s.length : Int)) then
 (idx s t).bind fun x =>
 bif v == x then
  some (.inr (.inl t))
 else
  some (.inl (w64 (t + 1)))
 else
 some (.inr (.inr ()))
theorem mj (s : List Int) (v : Int) (t : Int) : Lo (dW s v t) (eg s v t):=by
 unfold dW eg
 repeat' (first | with_reducible refine ad ?_ ?_ ?_ ?_ ?_ | with_reducible refine ae ?_ ?_ ?_ ?_ | with_reducible refine ab ?_ ?_ ?_ | with_reducible refine ag ?_ ?_ | with_reducible refine aj ?_ ?_ | with_reducible refine ak ?_ _ | (intro _) | with_reducible exact ai _ | exact ah | (dsimp only))
def eF (s : List Int) (v : Int) : Option Int :=
 (itr 4096 (dW s v) 0).bind fun q0 =>
 match q0 with
 | .inl q =>
 some q
 | .inr _ =>
 some (-1)
theorem nT (s : List Int) (v : Int) : Lo (eF s v) (dL s v):=by
 unfold eF dL
 repeat' (first | with_reducible exact mj _ _ _ | with_reducible refine ad ?_ ?_ ?_ ?_ ?_ | with_reducible refine ae ?_ ?_ ?_ ?_ | with_reducible refine ab ?_ ?_ ?_ | with_reducible refine ag ?_ ?_ | with_reducible refine aj ?_ ?_ | with_reducible refine ak ?_ _ | (intro _) | with_reducible exact ai _ | exact ah | (dsimp only))
def en (s : List Int) (i : Int) (j : Int) : Option (List Int):=del s i j
theorem nx (s : List Int) (i : Int) (j : Int) : Lo (en s i j) (dv s i j):=by
 unfold en dv
 repeat' (first | with_reducible refine ad ?_ ?_ ?_ ?_ ?_ | with_reducible refine ae ?_ ?_ ?_ ?_ | with_reducible refine ab ?_ ?_ ?_ | with_reducible refine ag ?_ ?_ | with_reducible refine aj ?_ ?_ | with_reducible refine ak ?_ _ | (intro _) | with_reducible exact ai _ | exact ah | (dsimp only))
def mZ (ids : List Int) (t : State × Int) : Option ((State × Int) ⊕ State) :=
 bif decide (t.2 < (ids.length : Int)) then
 (
  (idx ids t.2).bind fun x1 =>
  (fW t.1.Conts (fun a' => oj a'.1 x1)).bind fun k =>
  bif decide (k < 0) then
  some t.1
  else
  (inb k t.1.Conts.length).bind fun i =>
  (t.1.Conts[i]?).bind fun x2 =>
  (qQ t.1 x2.App).bind fun i1 =>
  (
   bif decide (i1 ≥ 0) then
   some x2.Master
   else
   some false).bind fun q =>
  bif q then
   (nZ t.1 i1).bind fun x3 =>
   some x3
  else
   (mR t.1.Conts k (w64 (k + 1))).bind fun x4 =>
   bif decide (i1 < 0) then
   some (⟨⟨t.1.Conf.Labels,t.1.Conf.Queues⟩,t.1.Nodes,t.1.Apps,x4,t.1.Slots,t.1.Plans,t.1.Now,t.1.Epoch,t.1.Seq⟩ : State)
   else
   (inb i1 t.1.Apps.length).bind fun i2 =>
   (t.1.Apps[i2]?).bind fun x5 =>
   (
    (eF x5.Grants x1).bind fun j =>
    bif decide (j ≥ 0) then
    (en x5.Grants j (w64 (j + 1))).bind fun x6 =>
    some (⟨x5.Id,x5.State,x5.Queue,x5.User,x5.Prio,⟨x5.Master.Mem,x5.Master.Cores⟩,x5.Asks,x5.Seen,x5.Beat,x6,x5.Kills,x5.Told,x5.Lost⟩ : App)
    else
    (app 8 x5.Kills [x1]).bind fun l =>
    some (⟨x5.Id,x5.State,x5.Queue,x5.User,x5.Prio,⟨x5.Master.Mem,x5.Master.Cores⟩,x5.Asks,x5.Seen,x5.Beat,x5.Grants,l,x5.Told,x5.Lost⟩ : App)).bind fun a =>
   (inb i1 t.1.Apps.length).bind fun i3 =>
   bif Nat.beq i3 i2 then
    (t.1.Apps[i3]?).bind fun x7 =>
    some (⟨⟨t.1.Conf.Labels,t.1.Conf.Queues⟩,t.1.Nodes,List.set t.1.Apps i3 a,x4,t.1.Slots,t.1.Plans,t.1.Now,t.1.Epoch,t.1.Seq⟩ : State)
   else
    none).bind fun s1 =>
 some (.inl (s1,w64 (t.2 + 1)))
 else
 some (.inr t.1)
theorem xh (ids : List Int) (t : State × Int) : Lo (mZ ids t) (p8 ids t):=by
 unfold mZ p8
 repeat' (first | with_reducible refine iT _ _ _ ?_ | with_reducible exact xY _ _ | with_reducible exact xP _ _ | with_reducible exact yA _ _ | with_reducible exact xd _ _ _ | with_reducible exact nT _ _ | with_reducible exact nx _ _ _ | with_reducible refine ad ?_ ?_ ?_ ?_ ?_ | with_reducible refine ae ?_ ?_ ?_ ?_ | with_reducible refine ab ?_ ?_ ?_ | with_reducible refine ag ?_ ?_ | with_reducible refine aj ?_ ?_ | with_reducible refine ak ?_ _ | (intro _) | with_reducible exact ai _ | exact ah | (dsimp only))
def ni (s : State) (ids : List Int) : Option State :=
 (pb s).bind fun x =>
 (itr 4096 (mZ ids) (x,0)).bind fun s2 =>
 (pb s2).bind fun x8 =>
 some x8
theorem uP (s : State) (ids : List Int) : Lo (ni s ids) (nD s ids):=by
 unfold ni nD
 repeat' (first | with_reducible exact Bg _ | with_reducible exact xh _ _ | with_reducible refine ad ?_ ?_ ?_ ?_ ?_ | with_reducible refine ae ?_ ?_ ?_ ?_ | with_reducible refine ab ?_ ?_ ?_ | with_reducible refine ag ?_ ?_ | with_reducible refine aj ?_ ?_ | with_reducible refine ak ?_ _ | (intro _) | with_reducible exact ai _ | exact ah | (dsimp only))
def ky (x : Cont) (p : Cont) : Option Bool :=
 some (x.Id == p.Id)
theorem vS (x : Cont) (p : Cont) : Lo (ky x p) (jv x p):=by
 unfold ky jv
 repeat' (first | with_reducible refine ad ?_ ?_ ?_ ?_ ?_ | with_reducible refine ae ?_ ?_ ?_ ?_ | with_reducible refine ab ?_ ?_ ?_ | with_reducible refine ag ?_ ?_ | with_reducible refine aj ?_ ?_ | with_reducible refine ak ?_ _ | (intro _) | with_reducible exact ai _ | exact ah | (dsimp only))
def mP (c : Cont) (label : Int) (now : Int) : Option Bool :=
 bif c.Label == label then
 bif c.Notice != 0 then
  some (decide ((w64 (now - c.Notice)) ≥ 3))
 else
  some false
 else
 some false
theorem xf (c : Cont) (label : Int) (now : Int) : Lo (mP c label now) (lM c label now):=by
 unfold mP lM
 repeat' (first | with_reducible refine ad ?_ ?_ ?_ ?_ ?_ | with_reducible refine ae ?_ ?_ ?_ ?_ | with_reducible refine ab ?_ ?_ ?_ | with_reducible refine ag ?_ ?_ | with_reducible refine aj ?_ ?_ | with_reducible refine ak ?_ _ | (intro _) | with_reducible exact ai _ | exact ah | (dsimp only))
def jU (s : List Share) (f : (TupT fam [.st 16] → Option Bool)) (t : Int) : Option (Int ⊕ (Int ⊕ Unit)) :=
 bif decide (t < (s.length : Int)) then
 (idx s t).bind fun x =>
 (f (x,())).bind fun r =>
 bif r then
  some (.inr (.inl t))
 else
  some (.inl (w64 (t + 1)))
 else
 some (.inr (.inr ()))
theorem vc (s : List Share) (f f_' : (TupT fam [.st 16] → Option Bool)) (h_f : ∀ a,Lo (f a) (f_' a)) (t : Int) : Lo (jU s f t) (lW s f_' t):=by
 unfold jU lW
 repeat' (first | exact h_f _ | with_reducible refine ad ?_ ?_ ?_ ?_ ?_ | with_reducible refine ae ?_ ?_ ?_ ?_ | with_reducible refine ab ?_ ?_ ?_ | with_reducible refine ag ?_ ?_ | with_reducible refine aj ?_ ?_ | with_reducible refine ak ?_ _ | (intro _) | with_reducible exact ai _ | exact ah | (dsimp only))
def mB (s : List Share) (f : (TupT fam [.st 16] → Option Bool)) : Option Int :=
 (itr 4096 (jU s f) 0).bind fun q0 =>
 match q0 with
 | .inl q =>
 some q
 | .inr _ =>
 some (-1)
theorem xS (s : List Share) (f f_' : (TupT fam [.st 16] → Option Bool)) (h_f : ∀ a,Lo (f a) (f_' a)) : Lo (mB s f) (lw s f_'):=by
 unfold mB lw
 repeat' (first | with_reducible refine vc _ _ _ ?_ _ | exact h_f _ | with_reducible refine ad ?_ ?_ ?_ ?_ ?_ | with_reducible refine ae ?_ ?_ ?_ ?_ | with_reducible refine ab ?_ ?_ ?_ | with_reducible refine ag ?_ ?_ | with_reducible refine aj ?_ ?_ | with_reducible refine ak ?_ _ | (intro _) | with_reducible exact ai _ | exact ah | (dsimp only))
def jF (x : Share) (p : App) : Option Bool :=
 some (x.Path == p.Queue)
theorem u9 (x : Share) (p : App) : Lo (jF x p) (iK x p):=by
 unfold jF iK
 repeat' (first | with_reducible refine ad ?_ ?_ ?_ ?_ ?_ | with_reducible refine ae ?_ ?_ ?_ ?_ | with_reducible refine ab ?_ ?_ ?_ | with_reducible refine ag ?_ ?_ | with_reducible refine aj ?_ ?_ | with_reducible refine ak ?_ _ | (intro _) | with_reducible exact ai _ | exact ah | (dsimp only))
def jo (s : State) (c : Cont) (t : Int × Int) : Option ((Int × Int) ⊕ Int) :=
 bif decide (t.2 < (s.Conts.length : Int)) then
 (
  (idx s.Conts t.2).bind fun x2 =>
  (
  bif c.Master then
   bif x2.App == c.App then
   bif x2.Id != c.Id then
    some (x2.Label == c.Label)
   else
    some false
   else
   some false
  else
   some false).bind fun q =>
  bif q then
  let used:=w64 (t.1 - x2.Size.Mem)
  some used
  else
  some t.1).bind fun used1 =>
 some (.inl (used1,w64 (t.2 + 1)))
 else
 some (.inr t.1)
theorem ug (s : State) (c : Cont) (t : Int × Int) : Lo (jo s c t) (kA s c t):=by
 unfold jo kA
 repeat' (first | with_reducible refine ad ?_ ?_ ?_ ?_ ?_ | with_reducible refine ae ?_ ?_ ?_ ?_ | with_reducible refine ab ?_ ?_ ?_ | with_reducible refine ag ?_ ?_ | with_reducible refine aj ?_ ?_ | with_reducible refine ak ?_ _ | (intro _) | with_reducible exact ai _ | exact ah | (dsimp only))
def lB (s : State) (c : Cont) : Option Bool :=
 (nq s c.App).bind fun x =>
 (eR s x.1.Queue c.Label).bind fun x1 =>
 (itr 4096 (jo s c) (x1.Mem,0)).bind fun used2 =>
 (gu s c.Label).bind fun l =>
 (mB l (fun a' => jF a'.1 x.1)).bind fun i =>
 bif decide (i ≥ 0) then
 (inb i l.length).bind fun i1 =>
 (l[i1]?).bind fun x3 =>
 some (decide (used2 > x3.Mem))
 else
 some false
theorem wC (s : State) (c : Cont) : Lo (lB s c) (kg s c):=by
 unfold lB kg
 repeat' (first | with_reducible exact vi _ _ | with_reducible exact ic _ _ _ | with_reducible exact ug _ _ _ | with_reducible exact lJ _ _ | with_reducible refine xS _ _ _ ?_ | with_reducible exact u9 _ _ | with_reducible refine ad ?_ ?_ ?_ ?_ ?_ | with_reducible refine ae ?_ ?_ ?_ ?_ | with_reducible refine ab ?_ ?_ ?_ | with_reducible refine ag ?_ ?_ | with_reducible refine aj ?_ ?_ | with_reducible refine ak ?_ _ | (intro _) | with_reducible exact ai _ | exact ah | (dsimp only))
def jM (label : Int) (x1 : Cont) (s1 : State) : Option State :=
 (fW s1.Conts (fun a' => ky a'.1 x1)).bind fun i =>
 (
 bif decide (i < 0) then
  some true
 else
  (inb i s1.Conts.length).bind fun i1 =>
  (s1.Conts[i1]?).bind fun x2 =>
  (mP x2 label s1.Now).bind fun x3 =>
  some (! x3)).bind fun q =>
 bif q then
 some s1
 else
 (lB s1 x1).bind fun x4 =>
 bif x4 then
  (ni s1 [x1.Id]).bind fun x5 =>
  some x5
 else
  (inb i s1.Conts.length).bind fun i2 =>
  (s1.Conts[i2]?).bind fun x6 =>
  some (⟨⟨s1.Conf.Labels,s1.Conf.Queues⟩,s1.Nodes,s1.Apps,List.set s1.Conts i2 (⟨x6.Id,x6.App,x6.Node,⟨x6.Size.Mem,x6.Size.Cores⟩,x6.Prio,x6.Label,x6.Master,0⟩ : Cont),s1.Slots,s1.Plans,s1.Now,s1.Epoch,s1.Seq⟩ : State)
theorem uB (label : Int) (x1 : Cont) (s1 : State) : Lo (jM label x1 s1) (lZ label x1 s1):=by
 unfold jM lZ
 repeat' (first | with_reducible refine iT _ _ _ ?_ | with_reducible exact vS _ _ | with_reducible exact xf _ _ _ | with_reducible exact wC _ _ | with_reducible exact uP _ _ | with_reducible refine ad ?_ ?_ ?_ ?_ ?_ | with_reducible refine ae ?_ ?_ ?_ ?_ | with_reducible refine ab ?_ ?_ ?_ | with_reducible refine ag ?_ ?_ | with_reducible refine aj ?_ ?_ | with_reducible refine ak ?_ _ | (intro _) | with_reducible exact ai _ | exact ah | (dsimp only))
def mL (s : State) (label : Int) : Option State :=
 (iP s.Conts).bind fun x =>
 (rgB (jM label) x s).bind fun s2 =>
 some s2
theorem xe (s : State) (label : Int) : Lo (mL s label) (lK s label):=by
 unfold mL lK
 repeat' (first | with_reducible exact qb _ | with_reducible exact uB _ _ _ | with_reducible refine Dp (fun _ _ => ?_) _ _ | with_reducible refine ad ?_ ?_ ?_ ?_ ?_ | with_reducible refine ae ?_ ?_ ?_ ?_ | with_reducible refine ab ?_ ?_ ?_ | with_reducible refine ag ?_ ?_ | with_reducible refine aj ?_ ?_ | with_reducible refine ak ?_ _ | (intro _) | with_reducible exact ai _ | exact ah | (dsimp only))
def jy (x : Cont) (p : Int) : Option Bool :=
 some (x.Id == p)
theorem vf (x : Cont) (p : Int) : Lo (jy x p) (iJ x p):=by
 unfold jy iJ
 repeat' (first | with_reducible refine ad ?_ ?_ ?_ ?_ ?_ | with_reducible refine ae ?_ ?_ ?_ ?_ | with_reducible refine ab ?_ ?_ ?_ | with_reducible refine ag ?_ ?_ | with_reducible refine aj ?_ ?_ | with_reducible refine ak ?_ _ | (intro _) | with_reducible exact ai _ | exact ah | (dsimp only))
def mG (s : List Cont) (f : (TupT fam [.st 7] → Option Bool)) : Option Bool :=
 (fW s f).bind fun x =>
 some (decide (x ≥ 0))
theorem xm (s : List Cont) (f f_' : (TupT fam [.st 7] → Option Bool)) (h_f : ∀ a,Lo (f a) (f_' a)) : Lo (mG s f) (ll s f_'):=by
 unfold mG ll
 repeat' (first | with_reducible refine iT _ _ _ ?_ | exact h_f _ | with_reducible refine ad ?_ ?_ ?_ ?_ ?_ | with_reducible refine ae ?_ ?_ ?_ ?_ | with_reducible refine ab ?_ ?_ ?_ | with_reducible refine ag ?_ ?_ | with_reducible refine aj ?_ ?_ | with_reducible refine ak ?_ _ | (intro _) | with_reducible exact ai _ | exact ah | (dsimp only))
def jz (x : Cont) (p : Cont) : Option Bool :=
 some (x.Id == p.Id)
theorem uG (x : Cont) (p : Cont) : Lo (jz x p) (iN x p):=by
 unfold jz iN
 repeat' (first | with_reducible refine ad ?_ ?_ ?_ ?_ ?_ | with_reducible refine ae ?_ ?_ ?_ ?_ | with_reducible refine ab ?_ ?_ ?_ | with_reducible refine ag ?_ ?_ | with_reducible refine aj ?_ ?_ | with_reducible refine ak ?_ _ | (intro _) | with_reducible exact ai _ | exact ah | (dsimp only))
def aA (x : Int) (y : Int) : Option Bool :=
 (dX x).bind fun x1 =>
 bif x1 then
 (dX y).bind fun x2 =>
 bif ! x2 then
  some true
 else
  some (decide (x < y))
 else
 some (decide (x < y))
theorem aK (x : Int) (y : Int) : Lo (aA x y) (aG x y):=by
 unfold aA aG
 repeat' (first | with_reducible exact oA _ | with_reducible refine ad ?_ ?_ ?_ ?_ ?_ | with_reducible refine ae ?_ ?_ ?_ ?_ | with_reducible refine ab ?_ ?_ ?_ | with_reducible refine ag ?_ ?_ | with_reducible refine aj ?_ ?_ | with_reducible refine ak ?_ _ | (intro _) | with_reducible exact ai _ | exact ah | (dsimp only))
def bM (a : Int) (t1 : List Int × Int) : Option ((List Int × Int) ⊕ List Int) :=
 (
 bif decide (t1.2 > a) then
  (inb t1.2 t1.1.length).bind fun i =>
  (t1.1[i]?).bind fun x =>
  (inb (w64 (t1.2 - 1)) t1.1.length).bind fun i1 =>
  (t1.1[i1]?).bind fun x1 =>
  (aA x x1).bind fun x2 =>
  some x2
 else
  some false).bind fun q =>
 bif q then
 (inb (w64 (t1.2 - 1)) t1.1.length).bind fun i2 =>
 (t1.1[i2]?).bind fun x3 =>
 (inb t1.2 t1.1.length).bind fun i3 =>
 (t1.1[i3]?).bind fun x4 =>
 (inb t1.2 t1.1.length).bind fun i4 =>
 (t1.1[i4]?).bind fun x5 =>
 (inb (w64 (t1.2 - 1)) (List.set t1.1 i4 x3).length).bind fun i5 =>
 ((List.set t1.1 i4 x3)[i5]?).bind fun x6 =>
 some (.inl (List.set (List.set t1.1 i4 x3) i5 x4,w64 (t1.2 - 1)))
 else
 some (.inr t1.1)
theorem iE (a : Int) (t1 : List Int × Int) : Lo (bM a t1) (cg a t1):=by
 unfold bM cg
 repeat' (first | with_reducible exact aK _ _ | with_reducible refine ad ?_ ?_ ?_ ?_ ?_ | with_reducible refine ae ?_ ?_ ?_ ?_ | with_reducible refine ab ?_ ?_ ?_ | with_reducible refine ag ?_ ?_ | with_reducible refine aj ?_ ?_ | with_reducible refine ak ?_ _ | (intro _) | with_reducible exact ai _ | exact ah | (dsimp only))
def bQ (a : Int) (b : Int) (t : List Int × Int) : Option ((List Int × Int) ⊕ List Int) :=
 bif decide (t.2 < b) then
 (itr 4096 (bM a) (t.1,t.2)).bind fun data1 =>
 some (.inl (data1,w64 (t.2 + 1)))
 else
 some (.inr t.1)
theorem iG (a : Int) (b : Int) (t : List Int × Int) : Lo (bQ a b t) (ck a b t):=by
 unfold bQ ck
 repeat' (first | with_reducible exact iE _ _ | with_reducible refine ad ?_ ?_ ?_ ?_ ?_ | with_reducible refine ae ?_ ?_ ?_ ?_ | with_reducible refine ab ?_ ?_ ?_ | with_reducible refine ag ?_ ?_ | with_reducible refine aj ?_ ?_ | with_reducible refine ak ?_ _ | (intro _) | with_reducible exact ai _ | exact ah | (dsimp only))
def cm (data : List Int) (a : Int) (b : Int) : Option (List Int) :=
 (itr 4096 (bQ a b) (data,w64 (a + 1))).bind fun data2 =>
 some data2
theorem ju (data : List Int) (a : Int) (b : Int) : Lo (cm data a b) (bu data a b):=by
 unfold cm bu
 repeat' (first | with_reducible exact iG _ _ _ | with_reducible refine ad ?_ ?_ ?_ ?_ ?_ | with_reducible refine ae ?_ ?_ ?_ ?_ | with_reducible refine ab ?_ ?_ ?_ | with_reducible refine ag ?_ ?_ | with_reducible refine aj ?_ ?_ | with_reducible refine ak ?_ _ | (intro _) | with_reducible exact ai _ | exact ah | (dsimp only))
def cL (hi : Int) (first : Int) (t : List Int × Int) : Option ((List Int × Int) ⊕ (List Int ⊕ List Int)) :=
 let child:=w64 ((w64 (2 * t.2)) + 1)
 bif decide (child ≥ hi) then
 some (.inr (.inr (t.1)))
 else
 (
  (
  bif decide ((w64 (child + 1)) < hi) then
   (inb (w64 (first + child)) t.1.length).bind fun i =>
   (t.1[i]?).bind fun x =>
   (inb (w64 ((w64 (first + child)) + 1)) t.1.length).bind fun i1 =>
   (t.1[i1]?).bind fun x1 =>
   (aA x x1).bind fun x2 =>
   some x2
  else
   some false).bind fun q =>
  bif q then
  some (w64 (child + 1))
  else
  some child).bind fun child1 =>
 (inb (w64 (first + t.2)) t.1.length).bind fun i2 =>
 (t.1[i2]?).bind fun x3 =>
 (inb (w64 (first + child1)) t.1.length).bind fun i3 =>
 (t.1[i3]?).bind fun x4 =>
 (aA x3 x4).bind fun x5 =>
 bif ! x5 then
  some (.inr (.inl (t.1)))
 else
  (inb (w64 (first + child1)) t.1.length).bind fun i4 =>
  (t.1[i4]?).bind fun x6 =>
  (inb (w64 (first + t.2)) t.1.length).bind fun i5 =>
  (t.1[i5]?).bind fun x7 =>
  (inb (w64 (first + t.2)) t.1.length).bind fun i6 =>
  (t.1[i6]?).bind fun x8 =>
  (inb (w64 (first + child1)) (List.set t.1 i6 x6).length).bind fun i7 =>
  ((List.set t.1 i6 x6)[i7]?).bind fun x9 =>
  some (.inl (List.set (List.set t.1 i6 x6) i7 x7,child1))
theorem jY (hi : Int) (first : Int) (t : List Int × Int) : Lo (cL hi first t) (dh hi first t):=by
 unfold cL dh
 repeat' (first | with_reducible exact aK _ _ | with_reducible refine ad ?_ ?_ ?_ ?_ ?_ | with_reducible refine ae ?_ ?_ ?_ ?_ | with_reducible refine ab ?_ ?_ ?_ | with_reducible refine ag ?_ ?_ | with_reducible refine aj ?_ ?_ | with_reducible refine ak ?_ _ | (intro _) | with_reducible exact ai _ | exact ah | (dsimp only))
def bS (data : List Int) (lo : Int) (hi : Int) (first : Int) : Option (List Int) :=
 (itr 4096 (cL hi first) (data,lo)).bind fun q0 =>
 match q0 with
 | .inl data1 =>
 some data1
 | .inr data2 =>
 some data2
theorem fS (data : List Int) (lo : Int) (hi : Int) (first : Int) : Lo (bS data lo hi first) (bn data lo hi first):=by
 unfold bS bn
 repeat' (first | with_reducible exact jY _ _ _ | with_reducible refine ad ?_ ?_ ?_ ?_ ?_ | with_reducible refine ae ?_ ?_ ?_ ?_ | with_reducible refine ab ?_ ?_ ?_ | with_reducible refine ag ?_ ?_ | with_reducible refine aj ?_ ?_ | with_reducible refine ak ?_ _ | (intro _) | with_reducible exact ai _ | exact ah | (dsimp only))
def cO (a : Int) (t1 : List Int × Int) : Option ((List Int × Int) ⊕ List Int) :=
 bif decide (t1.2 ≥ 0) then
 (inb (w64 (a + t1.2)) t1.1.length).bind fun i2 =>
 (t1.1[i2]?).bind fun x1 =>
 (inb a t1.1.length).bind fun i3 =>
 (t1.1[i3]?).bind fun x2 =>
 (inb a t1.1.length).bind fun i4 =>
 (t1.1[i4]?).bind fun x3 =>
 (inb (w64 (a + t1.2)) (List.set t1.1 i4 x1).length).bind fun i5 =>
 ((List.set t1.1 i4 x1)[i5]?).bind fun x4 =>
 (bS (List.set (List.set t1.1 i4 x1) i5 x2) 0 t1.2 a).bind fun x5 =>
 some (.inl (x5,w64 (t1.2 - 1)))
 else
 some (.inr t1.1)
theorem j7 (a : Int) (t1 : List Int × Int) : Lo (cO a t1) (dq a t1):=by
 unfold cO dq
 repeat' (first | with_reducible exact fS _ _ _ _ | with_reducible refine ad ?_ ?_ ?_ ?_ ?_ | with_reducible refine ae ?_ ?_ ?_ ?_ | with_reducible refine ab ?_ ?_ ?_ | with_reducible refine ag ?_ ?_ | with_reducible refine aj ?_ ?_ | with_reducible refine ak ?_ _ | (intro _) | with_reducible exact ai _ | exact ah | (dsimp only))
def cM (a : Int) (b : Int) (t : List Int × Int) : Option ((List Int × Int) ⊕ List Int) :=
 bif decide (t.2 ≥ 0) then
 (bS t.1 t.2 (w64 (b - a)) a).bind fun x =>
 some (.inl (x,w64 (t.2 - 1)))
 else
 some (.inr t.1)
theorem j8 (a : Int) (b : Int) (t : List Int × Int) : Lo (cM a b t) (di a b t):=by
 unfold cM di
 repeat' (first | with_reducible exact fS _ _ _ _ | with_reducible refine ad ?_ ?_ ?_ ?_ ?_ | with_reducible refine ae ?_ ?_ ?_ ?_ | with_reducible refine ab ?_ ?_ ?_ | with_reducible refine ag ?_ ?_ | with_reducible refine aj ?_ ?_ | with_reducible refine ak ?_ _ | (intro _) | with_reducible exact ai _ | exact ah | (dsimp only))
def dF (data : List Int) (a : Int) (b : Int) : Option (List Int) :=
 let i:=w64 (Int.tdiv (w64 ((w64 (b - a)) - 1)) 2)
 (itr 4096 (cM a b) (data,i)).bind fun data1 =>
 let i1:=w64 ((w64 (b - a)) - 1)
 (itr 4096 (cO a) (data1,i1)).bind fun data2 =>
 some data2
theorem lG (data : List Int) (a : Int) (b : Int) : Lo (dF data a b) (cq data a b):=by
 unfold dF cq
 repeat' (first | with_reducible exact j8 _ _ _ | with_reducible exact j7 _ _ | with_reducible refine ad ?_ ?_ ?_ ?_ ?_ | with_reducible refine ae ?_ ?_ ?_ ?_ | with_reducible refine ab ?_ ?_ ?_ | with_reducible refine ag ?_ ?_ | with_reducible refine aj ?_ ?_ | with_reducible refine ak ?_ _ | (intro _) | with_reducible exact ai _ | exact ah | (dsimp only))
def o0 (x : Int) : Option Int :=
 (lm x).bind fun x1 =>
 some x1
theorem wa (x : Int) : Lo (o0 x) (pk x):=by
 unfold o0 pk
 repeat' (first | with_reducible exact uf _ | with_reducible refine ad ?_ ?_ ?_ ?_ ?_ | with_reducible refine ae ?_ ?_ ?_ ?_ | with_reducible refine ab ?_ ?_ ?_ | with_reducible refine ag ?_ ?_ | with_reducible refine aj ?_ ?_ | with_reducible refine ak ?_ _ | (intro _) | with_reducible exact ai _ | exact ah | (dsimp only))
def fA (length : Int) : Option Int :=
 (o0 (IntKind.u64.wrap length)).bind fun x =>
 (nn x).bind fun _ =>
 some (shlK .u64 1 x)
theorem qi (length : Int) : Lo (fA length) (d_ length):=by
 unfold fA d_
 repeat' (first | with_reducible exact wa _ | with_reducible refine ad ?_ ?_ ?_ ?_ ?_ | with_reducible refine ae ?_ ?_ ?_ ?_ | with_reducible refine ab ?_ ?_ ?_ | with_reducible refine ag ?_ ?_ | with_reducible refine aj ?_ ?_ | with_reducible refine ak ?_ _ | (intro _) | with_reducible exact ai _ | exact ah | (dsimp only))
def gf (r : Int) : Option (Int × Int) :=
 some (xorK .u64 (xorK .u64 (xorK .u64 r (shlK .u64 r 13)) (shrK .u64 (xorK .u64 r (shlK .u64 r 13)) 7)) (shlK .u64 (xorK .u64 (xorK .u64 r (shlK .u64 r 13)) (shrK .u64 (xorK .u64 r (shlK .u64 r 13)) 7)) 17),xorK .u64 (xorK .u64 (xorK .u64 r (shlK .u64 r 13)) (shrK .u64 (xorK .u64 r (shlK .u64 r 13)) 7)) (shlK .u64 (xorK .u64 (xorK .u64 r (shlK .u64 r 13)) (shrK .u64 (xorK .u64 r (shlK .u64 r 13)) 7)) 17))
theorem qx (r : Int) : Lo (gf r) (eG r):=by
 unfold gf eG
 repeat' (first | with_reducible refine ad ?_ ?_ ?_ ?_ ?_ | with_reducible refine ae ?_ ?_ ?_ ?_ | with_reducible refine ab ?_ ?_ ?_ | with_reducible refine ag ?_ ?_ | with_reducible refine aj ?_ ?_ | with_reducible refine ak ?_ _ | (intro _) | with_reducible exact ai _ | exact ah | (dsimp only))
def bN (a : Int) (b : Int) (modulus : Int) (t : List Int × Int × Int) : Option ((List Int × Int × Int) ⊕ List Int) :=
 bif decide (t.2.2 ≤ (w64 ((w64 (a + (w64 ((w64 (Int.tdiv (w64 (b - a)) 4)) * 2)))) + 1))) then
 (gf t.2.1).bind fun x =>
 let other:=w64 (andK .u64 x.1 (IntKind.u64.wrap (modulus - 1)))
 (
  bif decide (other ≥ (w64 (b - a))) then
  let other1:=w64 (other - (w64 (b - a)))
  some other1
  else
  some other).bind fun other2 =>
 (inb (w64 (a + other2)) t.1.length).bind fun i =>
 (t.1[i]?).bind fun x1 =>
 (inb t.2.2 t.1.length).bind fun i1 =>
 (t.1[i1]?).bind fun x2 =>
 (inb t.2.2 t.1.length).bind fun i2 =>
 (t.1[i2]?).bind fun x3 =>
 (inb (w64 (a + other2)) (List.set t.1 i2 x1).length).bind fun i3 =>
 ((List.set t.1 i2 x1)[i3]?).bind fun x4 =>
 some (.inl (List.set (List.set t.1 i2 x1) i3 x2,x.2,w64 (t.2.2 + 1)))
 else
 some (.inr t.1)
theorem iA (a : Int) (b : Int) (modulus : Int) (t : List Int × Int × Int) : Lo (bN a b modulus t) (cb a b modulus t):=by
 unfold bN cb
 repeat' (first | with_reducible exact qx _ | with_reducible refine ad ?_ ?_ ?_ ?_ ?_ | with_reducible refine ae ?_ ?_ ?_ ?_ | with_reducible refine ab ?_ ?_ ?_ | with_reducible refine ag ?_ ?_ | with_reducible refine aj ?_ ?_ | with_reducible refine ak ?_ _ | (intro _) | with_reducible exact ai _ | exact ah | (dsimp only))
def co (data : List Int) (a : Int) (b : Int) : Option (List Int) :=
 bif decide ((w64 (b - a)) ≥ 8) then
 (fA (w64 (b - a))).bind fun modulus =>
 let idx_:=w64 ((w64 (a + (w64 ((w64 (Int.tdiv (w64 (b - a)) 4)) * 2)))) - 1)
 (itr 4096 (bN a b modulus) (data,IntKind.u64.wrap (w64 (b - a)),idx_)).bind fun data1 =>
 some data1
 else
 some data
theorem jw (data : List Int) (a : Int) (b : Int) : Lo (co data a b) (bv data a b):=by
 unfold co bv
 repeat' (first | with_reducible exact qi _ | with_reducible exact iA _ _ _ _ | with_reducible refine ad ?_ ?_ ?_ ?_ ?_ | with_reducible refine ae ?_ ?_ ?_ ?_ | with_reducible refine ab ?_ ?_ ?_ | with_reducible refine ag ?_ ?_ | with_reducible refine aj ?_ ?_ | with_reducible refine ak ?_ _ | (intro _) | with_reducible exact ai _ | exact ah | (dsimp only))
def bo (data : List Int) (a : Int) (b : Int) (swaps : Int) : Option (Int × Int × Int) :=
 (idx data b).bind fun x =>
 (idx data a).bind fun x1 =>
 (aA x x1).bind fun x2 =>
 bif x2 then
 some (b,a,w64 (swaps + 1))
 else
 some (a,b,swaps)
theorem mQ (data : List Int) (a : Int) (b : Int) (swaps : Int) : Lo (bo data a b swaps) (ba data a b swaps):=by
 unfold bo ba
 repeat' (first | with_reducible exact aK _ _ | with_reducible refine ad ?_ ?_ ?_ ?_ ?_ | with_reducible refine ae ?_ ?_ ?_ ?_ | with_reducible refine ab ?_ ?_ ?_ | with_reducible refine ag ?_ ?_ | with_reducible refine aj ?_ ?_ | with_reducible refine ak ?_ _ | (intro _) | with_reducible exact ai _ | exact ah | (dsimp only))
def cu (data : List Int) (a : Int) (b : Int) (c : Int) (swaps : Int) : Option (Int × Int) :=
 (bo data a b swaps).bind fun x =>
 (bo data x.2.1 c x.2.2).bind fun x1 =>
 (bo data x.1 x1.1 x1.2.2).bind fun x2 =>
 some (x2.2.1,x2.2.2)
theorem gw (data : List Int) (a : Int) (b : Int) (c : Int) (swaps : Int) : Lo (cu data a b c swaps) (bK data a b c swaps):=by
 unfold cu bK
 repeat' (first | with_reducible exact mQ _ _ _ _ | with_reducible refine ad ?_ ?_ ?_ ?_ ?_ | with_reducible refine ae ?_ ?_ ?_ ?_ | with_reducible refine ab ?_ ?_ ?_ | with_reducible refine ag ?_ ?_ | with_reducible refine aj ?_ ?_ | with_reducible refine ak ?_ _ | (intro _) | with_reducible exact ai _ | exact ah | (dsimp only))
def aO (data : List Int) (a : Int) (swaps : Int) : Option (Int × Int) :=
 (cu data (w64 (a - 1)) a (w64 (a + 1)) swaps).bind fun x =>
 some (x.1,x.2)
theorem jf (data : List Int) (a : Int) (swaps : Int) : Lo (aO data a swaps) (aI data a swaps):=by
 unfold aO aI
 repeat' (first | with_reducible exact gw _ _ _ _ _ | with_reducible refine ad ?_ ?_ ?_ ?_ ?_ | with_reducible refine ae ?_ ?_ ?_ ?_ | with_reducible refine ab ?_ ?_ ?_ | with_reducible refine ag ?_ ?_ | with_reducible refine aj ?_ ?_ | with_reducible refine ak ?_ _ | (intro _) | with_reducible exact ai _ | exact ah | (dsimp only))
def cP (data : List Int) (a : Int) (b : Int) : Option (Int × Int) :=
 let i:=w64 (a + (w64 ((w64 (Int.tdiv (w64 (b - a)) 4)) * 1)))
 let j:=w64 (a + (w64 ((w64 (Int.tdiv (w64 (b - a)) 4)) * 2)))
 let k:=w64 (a + (w64 ((w64 (Int.tdiv (w64 (b - a)) 4)) * 3)))
 (
 bif decide ((w64 (b - a)) ≥ 8) then
  (
  bif decide ((w64 (b - a)) ≥ 50) then
   (aO data i 0).bind fun i1 =>
   (aO data j i1.2).bind fun j1 =>
   (aO data k j1.2).bind fun k1 =>
   some (k1.2,i1.1,j1.1,k1.1)
  else
   some (0,i,j,k)).bind fun q =>
  (cu data q.2.1 q.2.2.1 q.2.2.2 q.1).bind fun j2 =>
  some (j2.2,j2.1)
 else
  some (0,j)).bind fun q1 =>
 bif q1.1 == 0 then
 some (q1.2,1)
 else
 bif q1.1 == 12 then
  some (q1.2,2)
 else
  some (q1.2,0)
theorem jW (data : List Int) (a : Int) (b : Int) : Lo (cP data a b) (bJ data a b):=by
 unfold cP bJ
 repeat' (first | with_reducible exact jf _ _ _ | with_reducible exact gw _ _ _ _ _ | with_reducible refine ad ?_ ?_ ?_ ?_ ?_ | with_reducible refine ae ?_ ?_ ?_ ?_ | with_reducible refine ab ?_ ?_ ?_ | with_reducible refine ag ?_ ?_ | with_reducible refine aj ?_ ?_ | with_reducible refine ak ?_ _ | (intro _) | with_reducible exact ai _ | exact ah | (dsimp only))
def bY (t : List Int × Int × Int) : Option ((List Int × Int × Int) ⊕ List Int) :=
 bif decide (t.2.1 < t.2.2) then
 (inb t.2.2 t.1.length).bind fun i =>
 (t.1[i]?).bind fun x =>
 (inb t.2.1 t.1.length).bind fun i1 =>
 (t.1[i1]?).bind fun x1 =>
 (inb t.2.1 t.1.length).bind fun i2 =>
 (t.1[i2]?).bind fun x2 =>
 (inb t.2.2 (List.set t.1 i2 x).length).bind fun i3 =>
 ((List.set t.1 i2 x)[i3]?).bind fun x3 =>
 some (.inl (List.set (List.set t.1 i2 x) i3 x1,w64 (t.2.1 + 1),w64 (t.2.2 - 1)))
 else
 some (.inr t.1)
theorem iR (t : List Int × Int × Int) : Lo (bY t) (cp t):=by
 unfold bY cp
 repeat' (first | with_reducible refine ad ?_ ?_ ?_ ?_ ?_ | with_reducible refine ae ?_ ?_ ?_ ?_ | with_reducible refine ab ?_ ?_ ?_ | with_reducible refine ag ?_ ?_ | with_reducible refine aj ?_ ?_ | with_reducible refine ak ?_ _ | (intro _) | with_reducible exact ai _ | exact ah | (dsimp only))
def cB (data : List Int) (a : Int) (b : Int) : Option (List Int) :=
 (itr 4096 bY (data,a,w64 (b - 1))).bind fun data1 =>
 some data1
theorem jO (data : List Int) (a : Int) (b : Int) : Lo (cB data a b) (bB data a b):=by
 unfold cB bB
 repeat' (first | with_reducible exact iR _ | with_reducible refine ad ?_ ?_ ?_ ?_ ?_ | with_reducible refine ae ?_ ?_ ?_ ?_ | with_reducible refine ab ?_ ?_ ?_ | with_reducible refine ag ?_ ?_ | with_reducible refine aj ?_ ?_ | with_reducible refine ak ?_ _ | (intro _) | with_reducible exact ai _ | exact ah | (dsimp only))
def a7 (b : Int) (t2 : List Int × Int) : Option ((List Int × Int) ⊕ List Int) :=
 bif decide (t2.2 < b) then
 (inb t2.2 t2.1.length).bind fun i14 =>
 (t2.1[i14]?).bind fun x14 =>
 (inb (w64 (t2.2 - 1)) t2.1.length).bind fun i15 =>
 (t2.1[i15]?).bind fun x15 =>
 (aA x14 x15).bind fun x16 =>
 bif ! x16 then
  some (.inr t2.1)
 else
  (inb (w64 (t2.2 - 1)) t2.1.length).bind fun i16 =>
  (t2.1[i16]?).bind fun x17 =>
  (inb t2.2 t2.1.length).bind fun i17 =>
  (t2.1[i17]?).bind fun x18 =>
  (inb t2.2 t2.1.length).bind fun i18 =>
  (t2.1[i18]?).bind fun x19 =>
  (inb (w64 (t2.2 - 1)) (List.set t2.1 i18 x17).length).bind fun i19 =>
  ((List.set t2.1 i18 x17)[i19]?).bind fun x20 =>
  some (.inl (List.set (List.set t2.1 i18 x17) i19 x18,w64 (t2.2 + 1)))
 else
 some (.inr t2.1)
theorem fM (b : Int) (t2 : List Int × Int) : Lo (a7 b t2) (bh b t2):=by
 unfold a7 bh
 repeat' (first | with_reducible exact aK _ _ | with_reducible refine ad ?_ ?_ ?_ ?_ ?_ | with_reducible refine ae ?_ ?_ ?_ ?_ | with_reducible refine ab ?_ ?_ ?_ | with_reducible refine ag ?_ ?_ | with_reducible refine aj ?_ ?_ | with_reducible refine ak ?_ _ | (intro _) | with_reducible exact ai _ | exact ah | (dsimp only))
def a9 (t1 : List Int × Int) : Option ((List Int × Int) ⊕ List Int) :=
 bif decide (t1.2 ≥ 1) then
 (inb t1.2 t1.1.length).bind fun i8 =>
 (t1.1[i8]?).bind fun x7 =>
 (inb (w64 (t1.2 - 1)) t1.1.length).bind fun i9 =>
 (t1.1[i9]?).bind fun x8 =>
 (aA x7 x8).bind fun x9 =>
 bif ! x9 then
  some (.inr t1.1)
 else
  (inb (w64 (t1.2 - 1)) t1.1.length).bind fun i10 =>
  (t1.1[i10]?).bind fun x10 =>
  (inb t1.2 t1.1.length).bind fun i11 =>
  (t1.1[i11]?).bind fun x11 =>
  (inb t1.2 t1.1.length).bind fun i12 =>
  (t1.1[i12]?).bind fun x12 =>
  (inb (w64 (t1.2 - 1)) (List.set t1.1 i12 x10).length).bind fun i13 =>
  ((List.set t1.1 i12 x10)[i13]?).bind fun x13 =>
  some (.inl (List.set (List.set t1.1 i12 x10) i13 x11,w64 (t1.2 - 1)))
 else
 some (.inr t1.1)
theorem fF (t1 : List Int × Int) : Lo (a9 t1) (bi t1):=by
 unfold a9 bi
 repeat' (first | with_reducible exact aK _ _ | with_reducible refine ad ?_ ?_ ?_ ?_ ?_ | with_reducible refine ae ?_ ?_ ?_ ?_ | with_reducible refine ab ?_ ?_ ?_ | with_reducible refine ag ?_ ?_ | with_reducible refine aj ?_ ?_ | with_reducible refine ak ?_ _ | (intro _) | with_reducible exact ai _ | exact ah | (dsimp only))
def aZ (b : Int) (t : List Int × Int × Int) (i : Int) : Option (Int ⊕ Int) :=
 (
 bif decide (i < b) then
  (inb i t.1.length).bind fun i1 =>
  (t.1[i1]?).bind fun x =>
  (inb (w64 (i - 1)) t.1.length).bind fun i2 =>
  (t.1[i2]?).bind fun x1 =>
  (aA x x1).bind fun x2 =>
  some (! x2)
 else
  some false).bind fun q =>
 bif q then
 some (.inl (w64 (i + 1)))
 else
 some (.inr i)
theorem fP (b : Int) (t : List Int × Int × Int) (i : Int) : Lo (aZ b t i) (bf b t i):=by
 unfold aZ bf
 repeat' (first | with_reducible exact aK _ _ | with_reducible refine ad ?_ ?_ ?_ ?_ ?_ | with_reducible refine ae ?_ ?_ ?_ ?_ | with_reducible refine ab ?_ ?_ ?_ | with_reducible refine ag ?_ ?_ | with_reducible refine aj ?_ ?_ | with_reducible refine ak ?_ _ | (intro _) | with_reducible exact ai _ | exact ah | (dsimp only))
def a_ (a : Int) (b : Int) (t : List Int × Int × Int) : Option ((List Int × Int × Int) ⊕ ((List Int × Bool) ⊕ List Int)) :=
 bif decide (t.2.2 < 5) then
 (
  (itr 4096 (aZ b t) t.2.1).bind fun i3 =>
  bif i3 == b then
  some (.inr (t.1,true))
  else
  bif decide ((w64 (b - a)) < 50) then
   some (.inr (t.1,false))
  else
   (inb (w64 (i3 - 1)) t.1.length).bind fun i4 =>
   (t.1[i4]?).bind fun x3 =>
   (inb i3 t.1.length).bind fun i5 =>
   (t.1[i5]?).bind fun x4 =>
   (inb i3 t.1.length).bind fun i6 =>
   (t.1[i6]?).bind fun x5 =>
   (inb (w64 (i3 - 1)) (List.set t.1 i6 x3).length).bind fun i7 =>
   ((List.set t.1 i6 x3)[i7]?).bind fun x6 =>
   (
   bif decide ((w64 (i3 - a)) ≥ 2) then
    (itr 4096 a9 (List.set (List.set t.1 i6 x3) i7 x4,w64 (i3 - 1))).bind fun data1 =>
    some data1
   else
    some (List.set (List.set t.1 i6 x3) i7 x4)).bind fun data2 =>
   bif decide ((w64 (b - i3)) ≥ 2) then
   (itr 4096 (a7 b) (data2,w64 (i3 + 1))).bind fun data3 =>
   some (.inl (data3,i3))
   else
   some (.inl (data2,i3)) : Option ((List Int × Int) ⊕ (List Int × Bool))).bind fun q0 =>
 match q0 with
 | .inl q1 =>
  some (.inl (q1.1,q1.2,w64 (t.2.2 + 1)))
 | .inr q2 =>
  some (.inr (.inl (q2.1,q2.2)))
 else
 some (.inr (.inr (t.1)))
theorem fH (a : Int) (b : Int) (t : List Int × Int × Int) : Lo (a_ a b t) (bg a b t):=by
 unfold a_ bg
 repeat' (first | with_reducible exact fP _ _ _ | with_reducible exact fF _ | with_reducible exact fM _ _ | with_reducible refine ad ?_ ?_ ?_ ?_ ?_ | with_reducible refine ae ?_ ?_ ?_ ?_ | with_reducible refine ab ?_ ?_ ?_ | with_reducible refine ag ?_ ?_ | with_reducible refine aj ?_ ?_ | with_reducible refine ak ?_ _ | (intro _) | with_reducible exact ai _ | exact ah | (dsimp only))
def bk (data : List Int) (a : Int) (b : Int) : Option (Bool × List Int) :=
 (itr 4096 (a_ a b) (data,w64 (a + 1),0)).bind fun q0 =>
 match q0 with
 | .inl q3 =>
 some (q3.2,q3.1)
 | .inr data4 =>
 some (false,data4)
theorem gz (data : List Int) (a : Int) (b : Int) : Lo (bk data a b) (aS data a b):=by
 unfold bk aS
 repeat' (first | with_reducible exact fH _ _ _ | with_reducible refine ad ?_ ?_ ?_ ?_ ?_ | with_reducible refine ae ?_ ?_ ?_ ?_ | with_reducible refine ab ?_ ?_ ?_ | with_reducible refine ag ?_ ?_ | with_reducible refine aj ?_ ?_ | with_reducible refine ak ?_ _ | (intro _) | with_reducible exact ai _ | exact ah | (dsimp only))
def bE (a : Int) (t : List Int × Int × Int) (i7 : Int) (j : Int) : Option (Int ⊕ Int) :=
 (
 bif decide (i7 ≤ j) then
  (inb a t.1.length).bind fun i8 =>
  (t.1[i8]?).bind fun x7 =>
  (inb j t.1.length).bind fun i9 =>
  (t.1[i9]?).bind fun x8 =>
  (aA x7 x8).bind fun x9 =>
  some x9
 else
  some false).bind fun q1 =>
 bif q1 then
 some (.inl (w64 (j - 1)))
 else
 some (.inr j)
theorem ie (a : Int) (t : List Int × Int × Int) (i7 : Int) (j : Int) : Lo (bE a t i7 j) (bZ a t i7 j):=by
 unfold bE bZ
 repeat' (first | with_reducible exact aK _ _ | with_reducible refine ad ?_ ?_ ?_ ?_ ?_ | with_reducible refine ae ?_ ?_ ?_ ?_ | with_reducible refine ab ?_ ?_ ?_ | with_reducible refine ag ?_ ?_ | with_reducible refine aj ?_ ?_ | with_reducible refine ak ?_ _ | (intro _) | with_reducible exact ai _ | exact ah | (dsimp only))
def bG (a : Int) (t : List Int × Int × Int) (i4 : Int) : Option (Int ⊕ Int) :=
 (
 bif decide (i4 ≤ t.2.2) then
  (inb a t.1.length).bind fun i5 =>
  (t.1[i5]?).bind fun x4 =>
  (inb i4 t.1.length).bind fun i6 =>
  (t.1[i6]?).bind fun x5 =>
  (aA x4 x5).bind fun x6 =>
  some (! x6)
 else
  some false).bind fun q =>
 bif q then
 some (.inl (w64 (i4 + 1)))
 else
 some (.inr i4)
theorem il (a : Int) (t : List Int × Int × Int) (i4 : Int) : Lo (bG a t i4) (bT a t i4):=by
 unfold bG bT
 repeat' (first | with_reducible exact aK _ _ | with_reducible refine ad ?_ ?_ ?_ ?_ ?_ | with_reducible refine ae ?_ ?_ ?_ ?_ | with_reducible refine ab ?_ ?_ ?_ | with_reducible refine ag ?_ ?_ | with_reducible refine aj ?_ ?_ | with_reducible refine ak ?_ _ | (intro _) | with_reducible exact ai _ | exact ah | (dsimp only))
def bF (a : Int) (t : List Int × Int × Int) : Option ((List Int × Int × Int) ⊕ ((List Int × Int))) :=
 (itr 4096 (bG a t) t.2.1).bind fun i7 =>
 (itr 4096 (bE a t i7) t.2.2).bind fun j1 =>
 bif decide (i7 > j1) then
 some (.inr (t.1,i7))
 else
 (inb j1 t.1.length).bind fun i10 =>
 (t.1[i10]?).bind fun x10 =>
 (inb i7 t.1.length).bind fun i11 =>
 (t.1[i11]?).bind fun x11 =>
 (inb i7 t.1.length).bind fun i12 =>
 (t.1[i12]?).bind fun x12 =>
 (inb j1 (List.set t.1 i12 x10).length).bind fun i13 =>
 ((List.set t.1 i12 x10)[i13]?).bind fun x13 =>
 some (.inl (List.set (List.set t.1 i12 x10) i13 x11,w64 (i7 + 1),w64 (j1 - 1)))
theorem ij (a : Int) (t : List Int × Int × Int) : Lo (bF a t) (bV a t):=by
 unfold bF bV
 repeat' (first | with_reducible exact il _ _ _ | with_reducible exact ie _ _ _ _ | with_reducible refine ad ?_ ?_ ?_ ?_ ?_ | with_reducible refine ae ?_ ?_ ?_ ?_ | with_reducible refine ab ?_ ?_ ?_ | with_reducible refine ag ?_ ?_ | with_reducible refine aj ?_ ?_ | with_reducible refine ak ?_ _ | (intro _) | with_reducible exact ai _ | exact ah | (dsimp only))
def b8 (data : List Int) (a : Int) (b : Int) (pivot : Int) : Option (Int × List Int) :=
 (inb pivot data.length).bind fun i =>
 (data[i]?).bind fun x =>
 (inb a data.length).bind fun i1 =>
 (data[i1]?).bind fun x1 =>
 (inb a data.length).bind fun i2 =>
 (data[i2]?).bind fun x2 =>
 (inb pivot (List.set data i2 x).length).bind fun i3 =>
 ((List.set data i2 x)[i3]?).bind fun x3 =>
 (itr 4096 (bF a) (List.set (List.set data i2 x) i3 x1,w64 (a + 1),w64 (b - 1))).bind fun q2 =>
 some (q2.2,q2.1)
theorem ja (data : List Int) (a : Int) (b : Int) (pivot : Int) : Lo (b8 data a b pivot) (bj data a b pivot):=by
 unfold b8 bj
 repeat' (first | with_reducible exact ij _ _ | with_reducible refine ad ?_ ?_ ?_ ?_ ?_ | with_reducible refine ae ?_ ?_ ?_ ?_ | with_reducible refine ab ?_ ?_ ?_ | with_reducible refine ag ?_ ?_ | with_reducible refine aj ?_ ?_ | with_reducible refine ak ?_ _ | (intro _) | with_reducible exact ai _ | exact ah | (dsimp only))
def cz (a : Int) (t : List Int × Int × Int) (i21 : Int) (j2 : Int) : Option (Int ⊕ Int) :=
 (
 bif decide (i21 ≤ j2) then
  (inb j2 t.1.length).bind fun i22 =>
  (t.1[i22]?).bind fun x21 =>
  (inb a t.1.length).bind fun i23 =>
  (t.1[i23]?).bind fun x22 =>
  (aA x21 x22).bind fun x23 =>
  some (! x23)
 else
  some false).bind fun q3 =>
 bif q3 then
 some (.inl (w64 (j2 - 1)))
 else
 some (.inr j2)
theorem jQ (a : Int) (t : List Int × Int × Int) (i21 : Int) (j2 : Int) : Lo (cz a t i21 j2) (cY a t i21 j2):=by
 unfold cz cY
 repeat' (first | with_reducible exact aK _ _ | with_reducible refine ad ?_ ?_ ?_ ?_ ?_ | with_reducible refine ae ?_ ?_ ?_ ?_ | with_reducible refine ab ?_ ?_ ?_ | with_reducible refine ag ?_ ?_ | with_reducible refine aj ?_ ?_ | with_reducible refine ak ?_ _ | (intro _) | with_reducible exact ai _ | exact ah | (dsimp only))
def cC (a : Int) (t : List Int × Int × Int) (i18 : Int) : Option (Int ⊕ Int) :=
 (
 bif decide (i18 ≤ t.2.2) then
  (inb i18 t.1.length).bind fun i19 =>
  (t.1[i19]?).bind fun x18 =>
  (inb a t.1.length).bind fun i20 =>
  (t.1[i20]?).bind fun x19 =>
  (aA x18 x19).bind fun x20 =>
  some x20
 else
  some false).bind fun q2 =>
 bif q2 then
 some (.inl (w64 (i18 + 1)))
 else
 some (.inr i18)
theorem jP (a : Int) (t : List Int × Int × Int) (i18 : Int) : Lo (cC a t i18) (cZ a t i18):=by
 unfold cC cZ
 repeat' (first | with_reducible exact aK _ _ | with_reducible refine ad ?_ ?_ ?_ ?_ ?_ | with_reducible refine ae ?_ ?_ ?_ ?_ | with_reducible refine ab ?_ ?_ ?_ | with_reducible refine ag ?_ ?_ | with_reducible refine aj ?_ ?_ | with_reducible refine ak ?_ _ | (intro _) | with_reducible exact ai _ | exact ah | (dsimp only))
def cF (a : Int) (t : List Int × Int × Int) : Option ((List Int × Int × Int) ⊕ ((List Int × Int))) :=
 (itr 4096 (cC a t) t.2.1).bind fun i21 =>
 (itr 4096 (cz a t i21) t.2.2).bind fun j3 =>
 bif decide (i21 > j3) then
 some (.inr (t.1,j3))
 else
 (inb j3 t.1.length).bind fun i24 =>
 (t.1[i24]?).bind fun x24 =>
 (inb i21 t.1.length).bind fun i25 =>
 (t.1[i25]?).bind fun x25 =>
 (inb i21 t.1.length).bind fun i26 =>
 (t.1[i26]?).bind fun x26 =>
 (inb j3 (List.set t.1 i26 x24).length).bind fun i27 =>
 ((List.set t.1 i26 x24)[i27]?).bind fun x27 =>
 some (.inl (List.set (List.set t.1 i26 x24) i27 x25,w64 (i21 + 1),w64 (j3 - 1)))
theorem jT (a : Int) (t : List Int × Int × Int) : Lo (cF a t) (da a t):=by
 unfold cF da
 repeat' (first | with_reducible exact jP _ _ _ | with_reducible exact jQ _ _ _ _ | with_reducible refine ad ?_ ?_ ?_ ?_ ?_ | with_reducible refine ae ?_ ?_ ?_ ?_ | with_reducible refine ab ?_ ?_ ?_ | with_reducible refine ag ?_ ?_ | with_reducible refine aj ?_ ?_ | with_reducible refine ak ?_ _ | (intro _) | with_reducible exact ai _ | exact ah | (dsimp only))
def cA (data : List Int) (a : Int) (x : Int) (x1 : Int) (i2 : Nat) (i3 : Nat) (i7 : Int) (j : Int) : Option (Int ⊕ Int) :=
 (
 bif decide (i7 ≤ j) then
  (inb j (List.set (List.set data i2 x) i3 x1).length).bind fun i8 =>
  ((List.set (List.set data i2 x) i3 x1)[i8]?).bind fun x7 =>
  (inb a (List.set (List.set data i2 x) i3 x1).length).bind fun i9 =>
  ((List.set (List.set data i2 x) i3 x1)[i9]?).bind fun x8 =>
  (aA x7 x8).bind fun x9 =>
  some (! x9)
 else
  some false).bind fun q1 =>
 bif q1 then
 some (.inl (w64 (j - 1)))
 else
 some (.inr j)
theorem jR (data : List Int) (a : Int) (x : Int) (x1 : Int) (i2 : Nat) (i3 : Nat) (i7 : Int) (j : Int) : Lo (cA data a x x1 i2 i3 i7 j) (c_ data a x x1 i2 i3 i7 j):=by
 unfold cA c_
 repeat' (first | with_reducible exact aK _ _ | with_reducible refine ad ?_ ?_ ?_ ?_ ?_ | with_reducible refine ae ?_ ?_ ?_ ?_ | with_reducible refine ab ?_ ?_ ?_ | with_reducible refine ag ?_ ?_ | with_reducible refine aj ?_ ?_ | with_reducible refine ak ?_ _ | (intro _) | with_reducible exact ai _ | exact ah | (dsimp only))
def cD (data : List Int) (a : Int) (b : Int) (x : Int) (x1 : Int) (i2 : Nat) (i3 : Nat) (i4 : Int) : Option (Int ⊕ Int) :=
 (
 bif decide (i4 ≤ (w64 (b - 1))) then
  (inb i4 (List.set (List.set data i2 x) i3 x1).length).bind fun i5 =>
  ((List.set (List.set data i2 x) i3 x1)[i5]?).bind fun x4 =>
  (inb a (List.set (List.set data i2 x) i3 x1).length).bind fun i6 =>
  ((List.set (List.set data i2 x) i3 x1)[i6]?).bind fun x5 =>
  (aA x4 x5).bind fun x6 =>
  some x6
 else
  some false).bind fun q =>
 bif q then
 some (.inl (w64 (i4 + 1)))
 else
 some (.inr i4)
theorem jV (data : List Int) (a : Int) (b : Int) (x : Int) (x1 : Int) (i2 : Nat) (i3 : Nat) (i4 : Int) : Lo (cD data a b x x1 i2 i3 i4) (cX data a b x x1 i2 i3 i4):=by
 unfold cD cX
 repeat' (first | with_reducible exact aK _ _ | with_reducible refine ad ?_ ?_ ?_ ?_ ?_ | with_reducible refine ae ?_ ?_ ?_ ?_ | with_reducible refine ab ?_ ?_ ?_ | with_reducible refine ag ?_ ?_ | with_reducible refine aj ?_ ?_ | with_reducible refine ak ?_ _ | (intro _) | with_reducible exact ai _ | exact ah | (dsimp only))
def dn (data : List Int) (a : Int) (b : Int) (pivot : Int) : Option (Int × Bool × List Int) :=
 (inb pivot data.length).bind fun i =>
 (data[i]?).bind fun x =>
 (inb a data.length).bind fun i1 =>
 (data[i1]?).bind fun x1 =>
 (inb a data.length).bind fun i2 =>
 (data[i2]?).bind fun x2 =>
 (inb pivot (List.set data i2 x).length).bind fun i3 =>
 ((List.set data i2 x)[i3]?).bind fun x3 =>
 (itr 4096 (cD data a b x x1 i2 i3) (w64 (a + 1))).bind fun i7 =>
 (itr 4096 (cA data a x x1 i2 i3 i7) (w64 (b - 1))).bind fun j1 =>
 bif decide (i7 > j1) then
 (inb a (List.set (List.set data i2 x) i3 x1).length).bind fun i10 =>
 ((List.set (List.set data i2 x) i3 x1)[i10]?).bind fun x10 =>
 (inb j1 (List.set (List.set data i2 x) i3 x1).length).bind fun i11 =>
 ((List.set (List.set data i2 x) i3 x1)[i11]?).bind fun x11 =>
 (inb j1 (List.set (List.set data i2 x) i3 x1).length).bind fun i12 =>
 ((List.set (List.set data i2 x) i3 x1)[i12]?).bind fun x12 =>
 (inb a (List.set (List.set (List.set data i2 x) i3 x1) i12 x10).length).bind fun i13 =>
 ((List.set (List.set (List.set data i2 x) i3 x1) i12 x10)[i13]?).bind fun x13 =>
 some (j1,true,List.set (List.set (List.set (List.set data i2 x) i3 x1) i12 x10) i13 x11)
 else
 (inb j1 (List.set (List.set data i2 x) i3 x1).length).bind fun i14 =>
 ((List.set (List.set data i2 x) i3 x1)[i14]?).bind fun x14 =>
 (inb i7 (List.set (List.set data i2 x) i3 x1).length).bind fun i15 =>
 ((List.set (List.set data i2 x) i3 x1)[i15]?).bind fun x15 =>
 (inb i7 (List.set (List.set data i2 x) i3 x1).length).bind fun i16 =>
 ((List.set (List.set data i2 x) i3 x1)[i16]?).bind fun x16 =>
 (inb j1 (List.set (List.set (List.set data i2 x) i3 x1) i16 x14).length).bind fun i17 =>
 ((List.set (List.set (List.set data i2 x) i3 x1) i16 x14)[i17]?).bind fun x17 =>
 (itr 4096 (cF a) (List.set (List.set (List.set (List.set data i2 x) i3 x1) i16 x14) i17 x15,w64 (i7 + 1),w64 (j1 - 1))).bind fun q4 =>
 (inb a q4.1.length).bind fun i28 =>
 (q4.1[i28]?).bind fun x28 =>
 (inb q4.2 q4.1.length).bind fun i29 =>
 (q4.1[i29]?).bind fun x29 =>
 (inb q4.2 q4.1.length).bind fun i30 =>
 (q4.1[i30]?).bind fun x30 =>
 (inb a (List.set q4.1 i30 x28).length).bind fun i31 =>
 ((List.set q4.1 i30 x28)[i31]?).bind fun x31 =>
 some (q4.2,false,List.set (List.set q4.1 i30 x28) i31 x29)
theorem la (data : List Int) (a : Int) (b : Int) (pivot : Int) : Lo (dn data a b pivot) (b_ data a b pivot):=by
 unfold dn b_
 repeat' (first | with_reducible exact jV _ _ _ _ _ _ _ _ | with_reducible exact jR _ _ _ _ _ _ _ _ | with_reducible exact jT _ _ | with_reducible refine ad ?_ ?_ ?_ ?_ ?_ | with_reducible refine ae ?_ ?_ ?_ ?_ | with_reducible refine ab ?_ ?_ ?_ | with_reducible refine ag ?_ ?_ | with_reducible refine aj ?_ ?_ | with_reducible refine ak ?_ _ | (intro _) | with_reducible exact ai _ | exact ah | (dsimp only))
def cy (self : (List Int) → Int → Int → Int → Option (List Int)) (t : List Int × Int × Int × Int × Bool × Bool) : Option ((List Int × Int × Int × Int × Bool × Bool) ⊕ List Int) :=
 let length:=w64 (t.2.2.1 - t.2.1)
 bif decide (length ≤ 12) then
 (cm t.1 t.2.1 t.2.2.1).bind fun x =>
 some (.inr x)
 else
 bif t.2.2.2.1 == 0 then
  (dF t.1 t.2.1 t.2.2.1).bind fun x1 =>
  some (.inr x1)
 else
  (
  bif ! t.2.2.2.2.1 then
   (co t.1 t.2.1 t.2.2.1).bind fun x2 =>
   some (x2,w64 (t.2.2.2.1 - 1))
  else
   some (t.1,t.2.2.2.1)).bind fun q =>
  (cP q.1 t.2.1 t.2.2.1).bind fun x3 =>
  (
  bif x3.2 == 2 then
   (cB q.1 t.2.1 t.2.2.1).bind fun x4 =>
   let pivot:=w64 ((w64 (t.2.2.1 - 1)) - (w64 (x3.1 - t.2.1)))
   some (x4,pivot,1)
  else
   some (q.1,x3.1,x3.2)).bind fun q1 =>
  (
  (
   bif t.2.2.2.2.1 then
   bif t.2.2.2.2.2 then
    some (q1.2.2 == 1)
   else
    some false
   else
   some false).bind fun q2 =>
  bif q2 then
   (bk q1.1 t.2.1 t.2.2.1).bind fun x5 =>
   bif x5.1 then
   some (.inr (x5.2))
   else
   some (.inl (x5.2))
  else
   some (.inl (q1.1)) : Option (List Int ⊕ List Int)).bind fun q0 =>
  match q0 with
  | .inl data1 =>
  (
   bif decide (t.2.1 > 0) then
   (inb (w64 (t.2.1 - 1)) data1.length).bind fun i =>
   (data1[i]?).bind fun x6 =>
   (inb q1.2.1 data1.length).bind fun i1 =>
   (data1[i1]?).bind fun x7 =>
   (aA x6 x7).bind fun x8 =>
   some (! x8)
   else
   some false).bind fun q3 =>
  bif q3 then
   (b8 data1 t.2.1 t.2.2.1 q1.2.1).bind fun mid =>
   some (.inl (mid.2,mid.1,t.2.2.1,q.2,t.2.2.2.2.1,t.2.2.2.2.2))
  else
   (dn data1 t.2.1 t.2.2.1 q1.2.1).bind fun x9 =>
   let leftLen:=w64 (x9.1 - t.2.1)
   let rightLen:=w64 (t.2.2.1 - x9.1)
   bif decide (leftLen < rightLen) then
   let wasBalanced:=decide (leftLen ≥ (w64 (Int.tdiv length 8)))
   (self x9.2.2 t.2.1 x9.1 q.2).bind fun x10 =>
   some (.inl (x10,w64 (x9.1 + 1),t.2.2.1,q.2,wasBalanced,x9.2.1))
   else
   let wasBalanced1:=decide (rightLen ≥ (w64 (Int.tdiv length 8)))
   (self x9.2.2 (w64 (x9.1 + 1)) t.2.2.1 q.2).bind fun x11 =>
   some (.inl (x11,t.2.1,x9.1,q.2,wasBalanced1,x9.2.1))
  | .inr data2 =>
  some (.inr data2)
theorem jB (self self_' : (List Int) → Int → Int → Int → Option (List Int)) (h_self : ∀ (a0 : (List Int)) (a1 : Int) (a2 : Int) (a3 : Int),Lo (self a0 a1 a2 a3) (self_' a0 a1 a2 a3)) (t : List Int × Int × Int × Int × Bool × Bool) : Lo (cy self t) (c9 self_' t):=by
 unfold cy c9
 repeat' (first | with_reducible exact ju _ _ _ | with_reducible exact lG _ _ _ | with_reducible exact jw _ _ _ | with_reducible exact jW _ _ _ | with_reducible exact jO _ _ _ | with_reducible exact gz _ _ _ | with_reducible exact aK _ _ | with_reducible exact ja _ _ _ _ | with_reducible exact la _ _ _ _ | with_reducible refine h_self _ _ _ _ | with_reducible refine ad ?_ ?_ ?_ ?_ ?_ | with_reducible refine ae ?_ ?_ ?_ ?_ | with_reducible refine ab ?_ ?_ ?_ | with_reducible refine ag ?_ ?_ | with_reducible refine aj ?_ ?_ | with_reducible refine ak ?_ _ | (intro _) | with_reducible exact ai _ | exact ah | (dsimp only))
def dj (self : (List Int) → Int → Int → Int → Option (List Int)) (data : List Int) (a : Int) (b : Int) (limit : Int) : Option (List Int) :=
 (itr 4096 (cy self) (data,a,b,limit,true,true)).bind fun data3 =>
 some data3
theorem k_ (self self_' : (List Int) → Int → Int → Int → Option (List Int)) (h_self : ∀ (a0 : (List Int)) (a1 : Int) (a2 : Int) (a3 : Int),Lo (self a0 a1 a2 a3) (self_' a0 a1 a2 a3)) (data : List Int) (a : Int) (b : Int) (limit : Int) : Lo (dj self data a b limit) (dS self_' data a b limit):=by
 unfold dj dS
 repeat' (first | with_reducible refine jB _ _ ?_ _ | with_reducible refine h_self _ _ _ _ | with_reducible refine ad ?_ ?_ ?_ ?_ ?_ | with_reducible refine ae ?_ ?_ ?_ ?_ | with_reducible refine ab ?_ ?_ ?_ | with_reducible refine ag ?_ ?_ | with_reducible refine aj ?_ ?_ | with_reducible refine ak ?_ _ | (intro _) | with_reducible exact ai _ | exact ah | (dsimp only))
def bI : Nat → (List Int) → Int → Int → Int → Option (List Int)
 | 0 => fun _ _ _ _ => none
 | n + 1 => dj (bI n)
theorem ff : ∀ (n : Nat),∀ (a0 : List Int) (a1 : Int) (a2 : Int) (a3 : Int),Lo (bI n a0 a1 a2 a3) (be n a0 a1 a2 a3)
 | 0 => fun _ _ _ _ => ah
 | n + 1 => fun a0 a1 a2 a3 => k_ (bI n) (be n) (ff n) a0 a1 a2 a3
def dV (a0 : List Int) (a1 : Int) (a2 : Int) (a3 : Int) : Option (List Int):=bI 64 a0 a1 a2 a3
theorem mg (a0 : List Int) (a1 : Int) (a2 : Int) (a3 : Int) : Lo (dV a0 a1 a2 a3) (cH a0 a1 a2 a3):=by
 unfold dV cH
 repeat' (first | with_reducible refine ff _ _ _ _ _ | with_reducible refine ad ?_ ?_ ?_ ?_ ?_ | with_reducible refine ae ?_ ?_ ?_ ?_ | with_reducible refine ab ?_ ?_ ?_ | with_reducible refine ag ?_ ?_ | with_reducible refine aj ?_ ?_ | with_reducible refine ak ?_ _ | (intro _) | with_reducible exact ai _ | exact ah | (dsimp only))
def eW (x : List Int) : Option (List Int) :=
 (o0 (IntKind.u64.wrap (x.length : Int))).bind fun x1 =>
 (dV x 0 (x.length : Int) x1).bind fun x2 =>
 some x2
theorem oW (x : List Int) : Lo (eW x) (dZ x):=by
 unfold eW dZ
 repeat' (first | with_reducible exact wa _ | with_reducible exact mg _ _ _ _ | with_reducible refine ad ?_ ?_ ?_ ?_ ?_ | with_reducible refine ae ?_ ?_ ?_ ?_ | with_reducible refine ab ?_ ?_ ?_ | with_reducible refine ag ?_ ?_ | with_reducible refine aj ?_ ?_ | with_reducible refine ak ?_ _ | (intro _) | with_reducible exact ai _ | exact ah | (dsimp only))
def jk (s : State) (t3 : State) (t4 : List Int × Int) : Option ((List Int × Int) ⊕ List Int) :=
 bif decide (t4.2 < (s.Conts.length : Int)) then
 (
  (idx s.Conts t4.2).bind fun x5 =>
  (mG t3.Conts (fun a' => jz a'.1 x5)).bind fun x6 =>
  bif ! x6 then
  (app 8 t4.1 [x5.Id]).bind fun l =>
  some l
  else
  some t4.1).bind fun gone =>
 some (.inl (gone,w64 (t4.2 + 1)))
 else
 some (.inr t4.1)
theorem uh (s : State) (t3 : State) (t4 : List Int × Int) : Lo (jk s t3 t4) (ku s t3 t4):=by
 unfold jk ku
 repeat' (first | with_reducible refine xm _ _ _ ?_ | with_reducible exact uG _ _ | with_reducible refine ad ?_ ?_ ?_ ?_ ?_ | with_reducible refine ae ?_ ?_ ?_ ?_ | with_reducible refine ab ?_ ?_ ?_ | with_reducible refine ag ?_ ?_ | with_reducible refine aj ?_ ?_ | with_reducible refine ak ?_ _ | (intro _) | with_reducible exact ai _ | exact ah | (dsimp only))
def iW (x2 : List Int) (t1 : State × Int) : Option ((State × Int) ⊕ State) :=
 bif decide (t1.2 < (x2.length : Int)) then
 (inb t1.2 x2.length).bind fun i =>
 (x2[i]?).bind fun x3 =>
 (fW t1.1.Conts (fun a' => jy a'.1 x3)).bind fun i1 =>
 (inb i1 t1.1.Conts.length).bind fun i2 =>
 (t1.1.Conts[i2]?).bind fun x4 =>
 some (.inl ((⟨⟨t1.1.Conf.Labels,t1.1.Conf.Queues⟩,t1.1.Nodes,t1.1.Apps,List.set t1.1.Conts i2 (⟨x4.Id,x4.App,x4.Node,⟨x4.Size.Mem,x4.Size.Cores⟩,x4.Prio,x4.Label,x4.Master,imax t1.1.Now 1⟩ : Cont),t1.1.Slots,t1.1.Plans,t1.1.Now,t1.1.Epoch,t1.1.Seq⟩ : State),w64 (t1.2 + 1)))
 else
 some (.inr t1.1)
theorem uy (x2 : List Int) (t1 : State × Int) : Lo (iW x2 t1) (kz x2 t1):=by
 unfold iW kz
 repeat' (first | with_reducible refine iT _ _ _ ?_ | with_reducible exact vf _ _ | with_reducible refine ad ?_ ?_ ?_ ?_ ?_ | with_reducible refine ae ?_ ?_ ?_ ?_ | with_reducible refine ab ?_ ?_ ?_ | with_reducible refine ag ?_ ?_ | with_reducible refine aj ?_ ?_ | with_reducible refine ak ?_ _ | (intro _) | with_reducible exact ai _ | exact ah | (dsimp only))
def jb (s : State) (t : State × Int) : Option ((State × Int) ⊕ State) :=
 bif decide (t.2 < (s.Conf.Labels.length : Int)) then
 (mL t.1 t.2).bind fun x1 =>
 (jx x1 t.2).bind fun x2 =>
 (itr 4096 (iW x2) (x1,0)).bind fun t2 =>
 some (.inl (t2,w64 (t.2 + 1)))
 else
 some (.inr t.1)
theorem ui (s : State) (t : State × Int) : Lo (jb s t) (kQ s t):=by
 unfold jb kQ
 repeat' (first | with_reducible exact xe _ _ | with_reducible exact q_ _ _ | with_reducible exact uy _ _ | with_reducible refine ad ?_ ?_ ?_ ?_ ?_ | with_reducible refine ae ?_ ?_ ?_ ?_ | with_reducible refine ab ?_ ?_ ?_ | with_reducible refine ag ?_ ?_ | with_reducible refine aj ?_ ?_ | with_reducible refine ak ?_ _ | (intro _) | with_reducible exact ai _ | exact ah | (dsimp only))
def df (s : State) : Option (State × List Int) :=
 (ni s []).bind fun x =>
 (itr 4096 (jb s) (x,0)).bind fun t3 =>
 (itr 4096 (jk s t3) ([],0)).bind fun gone1 =>
 (eW gone1).bind fun x7 =>
 some (t3,x7)
theorem qe (s : State) : Lo (df s) (dB s):=by
 unfold df dB
 repeat' (first | with_reducible exact uP _ _ | with_reducible exact ui _ _ | with_reducible exact uh _ _ _ | with_reducible exact oW _ | with_reducible refine ad ?_ ?_ ?_ ?_ ?_ | with_reducible refine ae ?_ ?_ ?_ ?_ | with_reducible refine ab ?_ ?_ ?_ | with_reducible refine ag ?_ ?_ | with_reducible refine aj ?_ ?_ | with_reducible refine ak ?_ _ | (intro _) | with_reducible exact ai _ | exact ah | (dsimp only))
def gd (x2 : Queue) (x3 : Queue) (k : Int) : Option (Int ⊕ (Bool ⊕ Unit)) :=
 bif decide (k < (x2.Caps.length : Int)) then
 (idx x2.Caps k).bind fun x4 =>
 (idx x3.Caps k).bind fun x5 =>
 bif ! ((x4.Least == x5.Least) && (x4.Most == x5.Most)) then
  some (.inr (.inl false))
 else
  some (.inl (w64 (k + 1)))
 else
 some (.inr (.inr ()))
theorem qB (x2 : Queue) (x3 : Queue) (k : Int) : Lo (gd x2 x3 k) (gS x2 x3 k):=by
 unfold gd gS
 repeat' (first | with_reducible refine ad ?_ ?_ ?_ ?_ ?_ | with_reducible refine ae ?_ ?_ ?_ ?_ | with_reducible refine ab ?_ ?_ ?_ | with_reducible refine ag ?_ ?_ | with_reducible refine aj ?_ ?_ | with_reducible refine ak ?_ _ | (intro _) | with_reducible exact ai _ | exact ah | (dsimp only))
def gc (a : Conf) (b : Conf) (i1 : Int) : Option (Int ⊕ (Bool ⊕ Unit)) :=
 bif decide (i1 < (a.Queues.length : Int)) then
 (idx a.Queues i1).bind fun x2 =>
 (idx b.Queues i1).bind fun x3 =>
 (
  bif ! (x2.Path == x3.Path) then
  some true
  else
  bif x2.User != x3.User then
   some true
  else
   some ((x2.Caps.length : Int) != (x3.Caps.length : Int))).bind fun q2 =>
 bif q2 then
  some (.inr (.inl false))
 else
  (itr 4096 (gd x2 x3) 0).bind fun q0 =>
  match q0 with
  | .inl q3 =>
  some (.inr (.inl q3))
  | .inr _ =>
  some (.inl (w64 (i1 + 1)))
 else
 some (.inr (.inr ()))
theorem qw (a : Conf) (b : Conf) (i1 : Int) : Lo (gc a b i1) (gT a b i1):=by
 unfold gc gT
 repeat' (first | with_reducible exact qB _ _ _ | with_reducible refine ad ?_ ?_ ?_ ?_ ?_ | with_reducible refine ae ?_ ?_ ?_ ?_ | with_reducible refine ab ?_ ?_ ?_ | with_reducible refine ag ?_ ?_ | with_reducible refine aj ?_ ?_ | with_reducible refine ak ?_ _ | (intro _) | with_reducible exact ai _ | exact ah | (dsimp only))
def f_ (a : Conf) (b : Conf) (i : Int) : Option (Int ⊕ (Bool ⊕ Unit)) :=
 bif decide (i < (a.Labels.length : Int)) then
 (idx a.Labels i).bind fun x =>
 (idx b.Labels i).bind fun x1 =>
 bif ! (x == x1) then
  some (.inr (.inl false))
 else
  some (.inl (w64 (i + 1)))
 else
 some (.inr (.inr ()))
theorem qv (a : Conf) (b : Conf) (i : Int) : Lo (f_ a b i) (gV a b i):=by
 unfold f_ gV
 repeat' (first | with_reducible refine ad ?_ ?_ ?_ ?_ ?_ | with_reducible refine ae ?_ ?_ ?_ ?_ | with_reducible refine ab ?_ ?_ ?_ | with_reducible refine ag ?_ ?_ | with_reducible refine aj ?_ ?_ | with_reducible refine ak ?_ _ | (intro _) | with_reducible exact ai _ | exact ah | (dsimp only))
def iw (a : Conf) (b : Conf) : Option Bool :=
 (
 bif (a.Labels.length : Int) != (b.Labels.length : Int) then
  some true
 else
  some ((a.Queues.length : Int) != (b.Queues.length : Int))).bind fun q =>
 bif q then
 some false
 else
 (itr 4096 (f_ a b) 0).bind fun q0 =>
 match q0 with
 | .inl q1 =>
  some q1
 | .inr _ =>
  (itr 4096 (gc a b) 0).bind fun q0 =>
  match q0 with
  | .inl q4 =>
  some q4
  | .inr _ =>
  some true
theorem tw (a : Conf) (b : Conf) : Lo (iw a b) (gn a b):=by
 unfold iw gn
 repeat' (first | with_reducible exact qv _ _ _ | with_reducible exact qw _ _ _ | with_reducible refine ad ?_ ?_ ?_ ?_ ?_ | with_reducible refine ae ?_ ?_ ?_ ?_ | with_reducible refine ab ?_ ?_ ?_ | with_reducible refine ag ?_ ?_ | with_reducible refine aj ?_ ?_ | with_reducible refine ak ?_ _ | (intro _) | with_reducible exact ai _ | exact ah | (dsimp only))
def ft (a : List Int) (b : List Int) (i : Int) : Option (Int ⊕ (Bool ⊕ Unit)) :=
 bif decide (i < (a.length : Int)) then
 (idx a i).bind fun x =>
 (idx b i).bind fun x1 =>
 bif x != x1 then
  some (.inr (.inl false))
 else
  some (.inl (w64 (i + 1)))
 else
 some (.inr (.inr ()))
theorem pD (a : List Int) (b : List Int) (i : Int) : Lo (ft a b i) (gD a b i):=by
 unfold ft gD
 repeat' (first | with_reducible refine ad ?_ ?_ ?_ ?_ ?_ | with_reducible refine ae ?_ ?_ ?_ ?_ | with_reducible refine ab ?_ ?_ ?_ | with_reducible refine ag ?_ ?_ | with_reducible refine aj ?_ ?_ | with_reducible refine ak ?_ _ | (intro _) | with_reducible exact ai _ | exact ah | (dsimp only))
def b9 (a : List Int) (b : List Int) : Option Bool :=
 bif (a.length : Int) != (b.length : Int) then
 some false
 else
 (itr 4096 (ft a b) 0).bind fun q0 =>
 match q0 with
 | .inl q =>
  some q
 | .inr _ =>
  some true
theorem sj (a : List Int) (b : List Int) : Lo (b9 a b) (bW a b):=by
 unfold b9 bW
 repeat' (first | with_reducible exact pD _ _ _ | with_reducible refine ad ?_ ?_ ?_ ?_ ?_ | with_reducible refine ae ?_ ?_ ?_ ?_ | with_reducible refine ab ?_ ?_ ?_ | with_reducible refine ag ?_ ?_ | with_reducible refine aj ?_ ?_ | with_reducible refine ak ?_ _ | (intro _) | with_reducible exact ai _ | exact ah | (dsimp only))
def fU (a : App) (b : App) (i : Int) : Option (Int ⊕ (Bool ⊕ Unit)) :=
 bif decide (i < (a.Asks.length : Int)) then
 (idx a.Asks i).bind fun x =>
 (idx b.Asks i).bind fun x1 =>
 bif ! ((x.Prio == x1.Prio) && ((x.Label == x1.Label) && (((x.Size.Mem == x1.Size.Mem) && (x.Size.Cores == x1.Size.Cores)) && ((x.Count == x1.Count) && ((x.Node == x1.Node) && ((x.Rack == x1.Rack) && (x.Missed == x1.Missed))))))) then
  some (.inr (.inl false))
 else
  some (.inl (w64 (i + 1)))
 else
 some (.inr (.inr ()))
theorem qy (a : App) (b : App) (i : Int) : Lo (fU a b i) (hZ a b i):=by
 unfold fU hZ
 repeat' (first | with_reducible refine ad ?_ ?_ ?_ ?_ ?_ | with_reducible refine ae ?_ ?_ ?_ ?_ | with_reducible refine ab ?_ ?_ ?_ | with_reducible refine ag ?_ ?_ | with_reducible refine aj ?_ ?_ | with_reducible refine ak ?_ _ | (intro _) | with_reducible exact ai _ | exact ah | (dsimp only))
def iD (a : App) (b : App) : Option Bool :=
 (
 bif a.Id != b.Id then
  some true
 else
  bif a.State != b.State then
  some true
  else
  bif ! (a.Queue == b.Queue) then
   some true
  else
   bif a.User != b.User then
   some true
   else
   bif a.Prio != b.Prio then
    some true
   else
    bif ! ((a.Master.Mem == b.Master.Mem) && (a.Master.Cores == b.Master.Cores)) then
    some true
    else
    bif a.Seen != b.Seen then
     some true
    else
     bif a.Beat != b.Beat then
     some true
     else
     some ((a.Asks.length : Int) != (b.Asks.length : Int))).bind fun q =>
 bif q then
 some false
 else
 (itr 4096 (fU a b) 0).bind fun q0 =>
 match q0 with
 | .inl q1 =>
  some q1
 | .inr _ =>
  (b9 a.Grants b.Grants).bind fun x2 =>
  bif x2 then
  (b9 a.Kills b.Kills).bind fun x3 =>
  bif x3 then
   (b9 a.Told b.Told).bind fun x4 =>
   bif x4 then
   (b9 a.Lost b.Lost).bind fun x5 =>
   some x5
   else
   some false
  else
   some false
  else
  some false
theorem tN (a : App) (b : App) : Lo (iD a b) (gm a b):=by
 unfold iD gm
 repeat' (first | with_reducible exact qy _ _ _ | with_reducible exact sj _ _ | with_reducible refine ad ?_ ?_ ?_ ?_ ?_ | with_reducible refine ae ?_ ?_ ?_ ?_ | with_reducible refine ab ?_ ?_ ?_ | with_reducible refine ag ?_ ?_ | with_reducible refine aj ?_ ?_ | with_reducible refine ak ?_ _ | (intro _) | with_reducible exact ai _ | exact ah | (dsimp only))
def fD (a : State) (b : State) (t4 : Bool × Int) : Option ((Bool × Int) ⊕ Bool) :=
 bif decide (t4.2 < (a.Plans.length : Int)) then
 (
  bif t4.1 then
  (idx a.Plans t4.2).bind fun x10 =>
  (idx b.Plans t4.2).bind fun x11 =>
  let ok11:=(x10.Id == x11.Id) && ((x10.Label == x11.Label) && ((x10.From == x11.From) && ((x10.Until == x11.Until) && ((x10.Need.Mem == x11.Need.Mem) && (x10.Need.Cores == x11.Need.Cores)))))
  some ok11
  else
  some false).bind fun ok12 =>
 some (.inl (ok12,w64 (t4.2 + 1)))
 else
 some (.inr t4.1)
theorem qf (a : State) (b : State) (t4 : Bool × Int) : Lo (fD a b t4) (gL a b t4):=by
 unfold fD gL
 repeat' (first | with_reducible refine ad ?_ ?_ ?_ ?_ ?_ | with_reducible refine ae ?_ ?_ ?_ ?_ | with_reducible refine ab ?_ ?_ ?_ | with_reducible refine ag ?_ ?_ | with_reducible refine aj ?_ ?_ | with_reducible refine ak ?_ _ | (intro _) | with_reducible exact ai _ | exact ah | (dsimp only))
def fr (a : State) (b : State) (t3 : Bool × Int) : Option ((Bool × Int) ⊕ Bool) :=
 bif decide (t3.2 < (a.Slots.length : Int)) then
 (
  bif t3.1 then
  (idx a.Slots t3.2).bind fun x8 =>
  (idx b.Slots t3.2).bind fun x9 =>
  let ok8:=(x8.Node == x9.Node) && ((x8.App == x9.App) && (x8.Prio == x9.Prio))
  some ok8
  else
  some false).bind fun ok9 =>
 some (.inl (ok9,w64 (t3.2 + 1)))
 else
 some (.inr t3.1)
theorem p_ (a : State) (b : State) (t3 : Bool × Int) : Lo (fr a b t3) (gP a b t3):=by
 unfold fr gP
 repeat' (first | with_reducible refine ad ?_ ?_ ?_ ?_ ?_ | with_reducible refine ae ?_ ?_ ?_ ?_ | with_reducible refine ab ?_ ?_ ?_ | with_reducible refine ag ?_ ?_ | with_reducible refine aj ?_ ?_ | with_reducible refine ak ?_ _ | (intro _) | with_reducible exact ai _ | exact ah | (dsimp only))
def fy (a : State) (b : State) (t2 : Bool × Int) : Option ((Bool × Int) ⊕ Bool) :=
 bif decide (t2.2 < (a.Conts.length : Int)) then
 (
  bif t2.1 then
  (idx a.Conts t2.2).bind fun x6 =>
  (idx b.Conts t2.2).bind fun x7 =>
  let ok5:=(x6.Id == x7.Id) && ((x6.App == x7.App) && ((x6.Node == x7.Node) && (((x6.Size.Mem == x7.Size.Mem) && (x6.Size.Cores == x7.Size.Cores)) && ((x6.Prio == x7.Prio) && ((x6.Label == x7.Label) && ((x6.Master == x7.Master) && (x6.Notice == x7.Notice)))))))
  some ok5
  else
  some false).bind fun ok6 =>
 some (.inl (ok6,w64 (t2.2 + 1)))
 else
 some (.inr t2.1)
theorem p9 (a : State) (b : State) (t2 : Bool × Int) : Lo (fy a b t2) (gM a b t2):=by
 unfold fy gM
 repeat' (first | with_reducible refine ad ?_ ?_ ?_ ?_ ?_ | with_reducible refine ae ?_ ?_ ?_ ?_ | with_reducible refine ab ?_ ?_ ?_ | with_reducible refine ag ?_ ?_ | with_reducible refine aj ?_ ?_ | with_reducible refine ak ?_ _ | (intro _) | with_reducible exact ai _ | exact ah | (dsimp only))
def fj (a : State) (b : State) (t1 : Bool × Int) : Option ((Bool × Int) ⊕ Bool) :=
 bif decide (t1.2 < (a.Apps.length : Int)) then
 (
  bif t1.1 then
  (idx a.Apps t1.2).bind fun x3 =>
  (idx b.Apps t1.2).bind fun x4 =>
  (iD x3 x4).bind fun x5 =>
  some x5
  else
  some false).bind fun ok3 =>
 some (.inl (ok3,w64 (t1.2 + 1)))
 else
 some (.inr t1.1)
theorem pQ (a : State) (b : State) (t1 : Bool × Int) : Lo (fj a b t1) (gJ a b t1):=by
 unfold fj gJ
 repeat' (first | with_reducible exact tN _ _ | with_reducible refine ad ?_ ?_ ?_ ?_ ?_ | with_reducible refine ae ?_ ?_ ?_ ?_ | with_reducible refine ab ?_ ?_ ?_ | with_reducible refine ag ?_ ?_ | with_reducible refine aj ?_ ?_ | with_reducible refine ak ?_ _ | (intro _) | with_reducible exact ai _ | exact ah | (dsimp only))
def fw (a : State) (b : State) (t : Bool × Int) : Option ((Bool × Int) ⊕ Bool) :=
 bif decide (t.2 < (a.Nodes.length : Int)) then
 (
  bif t.1 then
  (idx a.Nodes t.2).bind fun x1 =>
  (idx b.Nodes t.2).bind fun x2 =>
  let ok:=(x1.Id == x2.Id) && ((x1.Label == x2.Label) && ((x1.Rack == x2.Rack) && (((x1.Cap.Mem == x2.Cap.Mem) && (x1.Cap.Cores == x2.Cap.Cores)) && ((x1.Seen == x2.Seen) && ((x1.Beat == x2.Beat) && (x1.Up == x2.Up))))))
  some ok
  else
  some false).bind fun ok1 =>
 some (.inl (ok1,w64 (t.2 + 1)))
 else
 some (.inr t.1)
theorem qn (a : State) (b : State) (t : Bool × Int) : Lo (fw a b t) (gK a b t):=by
 unfold fw gK
 repeat' (first | with_reducible refine ad ?_ ?_ ?_ ?_ ?_ | with_reducible refine ae ?_ ?_ ?_ ?_ | with_reducible refine ab ?_ ?_ ?_ | with_reducible refine ag ?_ ?_ | with_reducible refine aj ?_ ?_ | with_reducible refine ak ?_ _ | (intro _) | with_reducible exact ai _ | exact ah | (dsimp only))
def hF (a : State) (b : State) : Option Bool :=
 (
 (iw a.Conf b.Conf).bind fun x =>
 bif ! x then
  some true
 else
  bif a.Now != b.Now then
  some true
  else
  bif a.Epoch != b.Epoch then
   some true
  else
   bif a.Seq != b.Seq then
   some true
   else
   bif (a.Nodes.length : Int) != (b.Nodes.length : Int) then
    some true
   else
    bif (a.Apps.length : Int) != (b.Apps.length : Int) then
    some true
    else
    bif (a.Conts.length : Int) != (b.Conts.length : Int) then
     some true
    else
     bif (a.Slots.length : Int) != (b.Slots.length : Int) then
     some true
     else
     some ((a.Plans.length : Int) != (b.Plans.length : Int))).bind fun q =>
 bif q then
 some false
 else
 (itr 4096 (fw a b) (true,0)).bind fun ok2 =>
 (itr 4096 (fj a b) (ok2,0)).bind fun ok4 =>
 (itr 4096 (fy a b) (ok4,0)).bind fun ok7 =>
 (itr 4096 (fr a b) (ok7,0)).bind fun ok10 =>
 (itr 4096 (fD a b) (ok10,0)).bind fun ok13 =>
 some ok13
theorem sM (a : State) (b : State) : Lo (hF a b) (fL a b):=by
 unfold hF fL
 repeat' (first | with_reducible exact tw _ _ | with_reducible exact qn _ _ _ | with_reducible exact pQ _ _ _ | with_reducible exact p9 _ _ _ | with_reducible exact p_ _ _ _ | with_reducible exact qf _ _ _ | with_reducible refine ad ?_ ?_ ?_ ?_ ?_ | with_reducible refine ae ?_ ?_ ?_ ?_ | with_reducible refine ab ?_ ?_ ?_ | with_reducible refine ag ?_ ?_ | with_reducible refine aj ?_ ?_ | with_reducible refine ak ?_ _ | (intro _) | with_reducible exact ai _ | exact ah | (dsimp only))
def dN : Option State :=
 some (⟨⟨[([] : List UInt8)],[(⟨([114,111,111,116] : List UInt8),[(⟨10000,10000⟩ : Cap)],10000⟩ : Queue)]⟩,[],[],[],[],[],0,0,0⟩ : State)
theorem mc : Lo (dN) (dw):=by
 unfold dN dw
 repeat' (first | with_reducible refine ad ?_ ?_ ?_ ?_ ?_ | with_reducible refine ae ?_ ?_ ?_ ?_ | with_reducible refine ab ?_ ?_ ?_ | with_reducible refine ag ?_ ?_ | with_reducible refine aj ?_ ?_ | with_reducible refine ak ?_ _ | (intro _) | with_reducible exact ai _ | exact ah | (dsimp only))
def d9 : Option Bool :=
 (dN).bind fun x =>
 (df x).bind fun x1 =>
 (hF x x1.1).bind fun x2 =>
 bif x2 then
 bif (x1.2.length : Int) == 0 then
  (jx x 0).bind fun x3 =>
  bif (x3.length : Int) == 0 then
  some ((x1.1.Conf.Queues.length : Int) == 1)
  else
  some false
 else
  some false
 else
 some false
theorem rF : Lo (d9) (dO):=by
 unfold d9 dO
 repeat' (first | with_reducible exact mc  | with_reducible exact qe _ | with_reducible exact sM _ _ | with_reducible exact q_ _ _ | with_reducible refine ad ?_ ?_ ?_ ?_ ?_ | with_reducible refine ae ?_ ?_ ?_ ?_ | with_reducible refine ab ?_ ?_ ?_ | with_reducible refine ag ?_ ?_ | with_reducible refine aj ?_ ?_ | with_reducible refine ak ?_ _ | (intro _) | with_reducible exact ai _ | exact ah | (dsimp only))
def bC (at_ : Int) (n : Int) : Option Int :=
 (nz n).bind fun _ =>
 (
 bif decide ((Int.tmod at_ n) < 0) then
  let k:=w64 ((Int.tmod at_ n) + n)
  some k
 else
  some (Int.tmod at_ n)).bind fun k1 =>
 some k1
theorem qC (at_ : Int) (n : Int) : Lo (bC at_ n) (aE at_ n):=by
 unfold bC aE
 repeat' (first | with_reducible refine ad ?_ ?_ ?_ ?_ ?_ | with_reducible refine ae ?_ ?_ ?_ ?_ | with_reducible refine ab ?_ ?_ ?_ | with_reducible refine ag ?_ ?_ | with_reducible refine aj ?_ ?_ | with_reducible refine ak ?_ _ | (intro _) | with_reducible exact ai _ | exact ah | (dsimp only))
def fk (s : State) (id_ : Int) (t : App × Int) : Option ((App × Int) ⊕ ((App × Bool) ⊕ App)) :=
 bif decide (t.2 < (s.Apps.length : Int)) then
 (idx s.Apps t.2).bind fun x =>
 bif x.Id == id_ then
  (idx s.Apps t.2).bind fun x1 =>
  some (.inr (.inl (x1,true)))
 else
  some (.inl (t.1,w64 (t.2 + 1)))
 else
 some (.inr (.inr (t.1)))
theorem qk (s : State) (id_ : Int) (t : App × Int) : Lo (fk s id_ t) (gq s id_ t):=by
 unfold fk gq
 repeat' (first | with_reducible refine ad ?_ ?_ ?_ ?_ ?_ | with_reducible refine ae ?_ ?_ ?_ ?_ | with_reducible refine ab ?_ ?_ ?_ | with_reducible refine ag ?_ ?_ | with_reducible refine aj ?_ ?_ | with_reducible refine ak ?_ _ | (intro _) | with_reducible exact ai _ | exact ah | (dsimp only))
def cf (s : State) (id_ : Int) : Option (App × Bool) :=
 (itr 4096 (fk s id_) ((⟨0,0,[],0,0,⟨0,0⟩,[],0,0,[],[],[],[]⟩ : App),0)).bind fun q0 =>
 match q0 with
 | .inl q =>
 some (q.1,q.2)
 | .inr q1 =>
 some ((⟨0,0,[],0,0,⟨0,0⟩,[],0,0,[],[],[],[]⟩ : App),false)
theorem sw (s : State) (id_ : Int) : Lo (cf s id_) (bX s id_):=by
 unfold cf bX
 repeat' (first | with_reducible exact qk _ _ _ | with_reducible refine ad ?_ ?_ ?_ ?_ ?_ | with_reducible refine ae ?_ ?_ ?_ ?_ | with_reducible refine ab ?_ ?_ ?_ | with_reducible refine ag ?_ ?_ | with_reducible refine aj ?_ ?_ | with_reducible refine ak ?_ _ | (intro _) | with_reducible exact ai _ | exact ah | (dsimp only))
def aX (a : App) : Option Bool :=
 bif a.State == 1 then
 some true
 else
 some (a.State == 2)
theorem sm (a : App) : Lo (aX a) (aY a):=by
 unfold aX aY
 repeat' (first | with_reducible refine ad ?_ ?_ ?_ ?_ ?_ | with_reducible refine ae ?_ ?_ ?_ ?_ | with_reducible refine ab ?_ ?_ ?_ | with_reducible refine ag ?_ ?_ | with_reducible refine aj ?_ ?_ | with_reducible refine ak ?_ _ | (intro _) | with_reducible exact ai _ | exact ah | (dsimp only))
def fp (s : State) (id_ : Int) (t1 : List Slot × Int) : Option ((List Slot × Int) ⊕ List Slot) :=
 bif decide (t1.2 < (s.Slots.length : Int)) then
 (
  (idx s.Slots t1.2).bind fun x3 =>
  bif x3.App != id_ then
  (idx s.Slots t1.2).bind fun x4 =>
  (app 24 t1.1 [x4]).bind fun l2 =>
  some l2
  else
  some t1.1).bind fun slots =>
 some (.inl (slots,w64 (t1.2 + 1)))
 else
 some (.inr t1.1)
theorem pv (s : State) (id_ : Int) (t1 : List Slot × Int) : Lo (fp s id_ t1) (gp s id_ t1):=by
 unfold fp gp
 repeat' (first | with_reducible refine ad ?_ ?_ ?_ ?_ ?_ | with_reducible refine ae ?_ ?_ ?_ ?_ | with_reducible refine ab ?_ ?_ ?_ | with_reducible refine ag ?_ ?_ | with_reducible refine aj ?_ ?_ | with_reducible refine ak ?_ _ | (intro _) | with_reducible exact ai _ | exact ah | (dsimp only))
def fh (s : State) (id_ : Int) (t : List Cont × List Int × Int) : Option ((List Cont × List Int × Int) ⊕ ((List Cont × List Int))) :=
 bif decide (t.2.2 < (s.Conts.length : Int)) then
 (
  (idx s.Conts t.2.2).bind fun x =>
  bif x.App == id_ then
  (idx s.Conts t.2.2).bind fun x1 =>
  (app 8 t.2.1 [x1.Id]).bind fun l =>
  some (t.1,l)
  else
  (idx s.Conts t.2.2).bind fun x2 =>
  (app 72 t.1 [x2]).bind fun l1 =>
  some (l1,t.2.1)).bind fun q =>
 some (.inl (q.1,q.2,w64 (t.2.2 + 1)))
 else
 some (.inr (t.1,t.2.1))
theorem qj (s : State) (id_ : Int) (t : List Cont × List Int × Int) : Lo (fh s id_ t) (gH s id_ t):=by
 unfold fh gH
 repeat' (first | with_reducible refine ad ?_ ?_ ?_ ?_ ?_ | with_reducible refine ae ?_ ?_ ?_ ?_ | with_reducible refine ab ?_ ?_ ?_ | with_reducible refine ag ?_ ?_ | with_reducible refine aj ?_ ?_ | with_reducible refine ak ?_ _ | (intro _) | with_reducible exact ai _ | exact ah | (dsimp only))
def hG (s : State) (id_ : Int) : Option (State × List Int) :=
 (itr 4096 (fh s id_) ([],[],0)).bind fun q1 =>
 (itr 4096 (fp s id_) ([],0)).bind fun slots1 =>
 some ((⟨⟨s.Conf.Labels,s.Conf.Queues⟩,s.Nodes,s.Apps,q1.1,slots1,s.Plans,s.Now,s.Epoch,s.Seq⟩ : State),q1.2)
theorem sK (s : State) (id_ : Int) : Lo (hG s id_) (fG s id_):=by
 unfold hG fG
 repeat' (first | with_reducible exact qj _ _ _ | with_reducible exact pv _ _ _ | with_reducible refine ad ?_ ?_ ?_ ?_ ?_ | with_reducible refine ae ?_ ?_ ?_ ?_ | with_reducible refine ab ?_ ?_ ?_ | with_reducible refine ag ?_ ?_ | with_reducible refine aj ?_ ?_ | with_reducible refine ak ?_ _ | (intro _) | with_reducible exact ai _ | exact ah | (dsimp only))
def fZ (s : State) (a : App) (k : Int) : Option (Int ⊕ Int) :=
 (
 bif decide (k < (s.Apps.length : Int)) then
  (idx s.Apps k).bind fun x =>
  some (decide (x.Id < a.Id))
 else
  some false).bind fun q =>
 bif q then
 some (.inl (w64 (k + 1)))
 else
 some (.inr k)
theorem qu (s : State) (a : App) (k : Int) : Lo (fZ s a k) (gU s a k):=by
 unfold fZ gU
 repeat' (first | with_reducible refine ad ?_ ?_ ?_ ?_ ?_ | with_reducible refine ae ?_ ?_ ?_ ?_ | with_reducible refine ab ?_ ?_ ?_ | with_reducible refine ag ?_ ?_ | with_reducible refine aj ?_ ?_ | with_reducible refine ak ?_ _ | (intro _) | with_reducible exact ai _ | exact ah | (dsimp only))
def iI (s : State) (a : App) : Option State :=
 (itr 4096 (fZ s a) 0).bind fun k1 =>
 (slc s.Apps 0 k1).bind fun l =>
 (app 200 [] l).bind fun l1 =>
 (app 200 l1 [a]).bind fun l2 =>
 (
 (
  bif decide (k1 < (s.Apps.length : Int)) then
  (idx s.Apps k1).bind fun x1 =>
  some (x1.Id == a.Id)
  else
  some false).bind fun q1 =>
 bif q1 then
  some (w64 (k1 + 1))
 else
  some k1).bind fun k2 =>
 (slc s.Apps k2 (s.Apps.length : Int)).bind fun l3 =>
 (app 200 l2 l3).bind fun l4 =>
 some (⟨⟨s.Conf.Labels,s.Conf.Queues⟩,s.Nodes,l4,s.Conts,s.Slots,s.Plans,s.Now,s.Epoch,s.Seq⟩ : State)
theorem tg (s : State) (a : App) : Lo (iI s a) (go s a):=by
 unfold iI go
 repeat' (first | with_reducible exact qu _ _ _ | with_reducible refine ad ?_ ?_ ?_ ?_ ?_ | with_reducible refine ae ?_ ?_ ?_ ?_ | with_reducible refine ab ?_ ?_ ?_ | with_reducible refine ag ?_ ?_ | with_reducible refine aj ?_ ?_ | with_reducible refine ak ?_ _ | (intro _) | with_reducible exact ai _ | exact ah | (dsimp only))
def iz (s : State) (id_ : Int) (state : Int) : Option (State × List Int) :=
 (cf s id_).bind fun x =>
 (
 bif ! x.2 then
  some true
 else
  (aX x.1).bind fun x1 =>
  some (! x1)).bind fun q =>
 bif q then
 some (s,[])
 else
 (iI s (⟨x.1.Id,state,x.1.Queue,x.1.User,x.1.Prio,⟨x.1.Master.Mem,x.1.Master.Cores⟩,[],x.1.Seen,x.1.Beat,[],[],[],[]⟩ : App)).bind fun x2 =>
 (hG x2 id_).bind fun x3 =>
 some (x3.1,x3.2)
theorem sX (s : State) (id_ : Int) (state : Int) : Lo (iz s id_ state) (gh s id_ state):=by
 unfold iz gh
 repeat' (first | with_reducible exact sw _ _ | with_reducible exact sm _ | with_reducible exact tg _ _ | with_reducible exact sK _ _ | with_reducible refine ad ?_ ?_ ?_ ?_ ?_ | with_reducible refine ae ?_ ?_ ?_ ?_ | with_reducible refine ab ?_ ?_ ?_ | with_reducible refine ag ?_ ?_ | with_reducible refine aj ?_ ?_ | with_reducible refine ak ?_ _ | (intro _) | with_reducible exact ai _ | exact ah | (dsimp only))
def cV (x3 : State × List Int) (t1 : Int × Int) : Option ((Int × Int) ⊕ Int) :=
 bif decide (t1.2 < (x3.1.Conts.length : Int)) then
 (
  (inb t1.2 x3.1.Conts.length).bind fun i =>
  (x3.1.Conts[i]?).bind fun x4 =>
  bif x4.Notice == 5 then
  some (w64 (t1.1 + 1))
  else
  some t1.1).bind fun n =>
 some (.inl (n,w64 (t1.2 + 1)))
 else
 some (.inr t1.1)
theorem kK (x3 : State × List Int) (t1 : Int × Int) : Lo (cV x3 t1) (dH x3 t1):=by
 unfold cV dH
 repeat' (first | with_reducible refine ad ?_ ?_ ?_ ?_ ?_ | with_reducible refine ae ?_ ?_ ?_ ?_ | with_reducible refine ab ?_ ?_ ?_ | with_reducible refine ag ?_ ?_ | with_reducible refine aj ?_ ?_ | with_reducible refine ak ?_ _ | (intro _) | with_reducible exact ai _ | exact ah | (dsimp only))
def cT (units1 : Int) (t : State × Int) : Option ((State × Int) ⊕ State) :=
 bif decide (t.2 ≤ units1) then
 (app 72 t.1.Conts [(⟨t.2,1,1,⟨1,1⟩,0,0,t.2 == 1,0⟩ : Cont)]).bind fun l1 =>
 some (.inl ((⟨⟨t.1.Conf.Labels,t.1.Conf.Queues⟩,t.1.Nodes,t.1.Apps,l1,t.1.Slots,t.1.Plans,t.1.Now,t.1.Epoch,t.1.Seq⟩ : State),w64 (t.2 + 1)))
 else
 some (.inr t.1)
theorem kM (units1 : Int) (t : State × Int) : Lo (cT units1 t) (dC units1 t):=by
 unfold cT dC
 repeat' (first | with_reducible refine ad ?_ ?_ ?_ ?_ ?_ | with_reducible refine ae ?_ ?_ ?_ ?_ | with_reducible refine ab ?_ ?_ ?_ | with_reducible refine ag ?_ ?_ | with_reducible refine aj ?_ ?_ | with_reducible refine ak ?_ _ | (intro _) | with_reducible exact ai _ | exact ah | (dsimp only))
def ax (units : Int) (wait : Int) (gone : Bool) : Option Bool :=
 (d9).bind fun x =>
 bif ! x then
 some false
 else
 (bC units 8).bind fun x1 =>
 let units1:=w64 (2 * (w64 (1 + x1)))
 (dN).bind fun x2 =>
 (app 48 x2.Conf.Queues [(⟨([114,111,111,116,46,97] : List UInt8),[(⟨5000,10000⟩ : Cap)],1000000⟩ : Queue),(⟨([114,111,111,116,46,98] : List UInt8),[(⟨5000,10000⟩ : Cap)],1000000⟩ : Queue)]).bind fun l =>
 (itr 4096 (cT units1) ((⟨⟨x2.Conf.Labels,l⟩,[(⟨1,0,0,⟨units1,units1⟩,0,0,true⟩ : Node)],[(⟨1,2,([114,111,111,116,46,97] : List UInt8),0,0,⟨1,1⟩,[],0,0,[],[],[],[]⟩ : App),(⟨2,1,([114,111,111,116,46,98] : List UInt8),0,0,⟨1,1⟩,[(⟨0,0,⟨1,1⟩,1,(-1),(-1),0⟩ : Ask)],0,0,[],[],[],[]⟩ : App)],x2.Conts,x2.Slots,x2.Plans,x2.Now,x2.Epoch,x2.Seq⟩ : State),1)).bind fun s =>
 (df (⟨⟨s.Conf.Labels,s.Conf.Queues⟩,s.Nodes,s.Apps,s.Conts,s.Slots,s.Plans,5,s.Epoch,s.Seq⟩ : State)).bind fun x3 =>
 (itr 4096 (cV x3) (0,0)).bind fun n1 =>
 (
  bif (x3.2.length : Int) != 0 then
  some true
  else
  bif n1 != 1 then
   some true
  else
   (inb (w64 (units1 - 1)) x3.1.Conts.length).bind fun i1 =>
   (x3.1.Conts[i1]?).bind fun x5 =>
   some (x5.Notice != 5)).bind fun q =>
 bif q then
  some false
 else
  (
  bif gone then
   (iz x3.1 2 4).bind fun x6 =>
   some x6.1
  else
   some x3.1).bind fun s1 =>
  (bC wait 7).bind fun wait1 =>
  (df (⟨⟨s1.Conf.Labels,s1.Conf.Queues⟩,s1.Nodes,s1.Apps,s1.Conts,s1.Slots,s1.Plans,w64 (5 + wait1),s1.Epoch,s1.Seq⟩ : State)).bind fun x7 =>
  bif decide (wait1 < 3) then
  bif (x7.2.length : Int) == 0 then
   bif (x7.1.Conts.length : Int) == units1 then
   (inb (w64 (units1 - 1)) x7.1.Conts.length).bind fun i2 =>
   (x7.1.Conts[i2]?).bind fun x8 =>
   some (x8.Notice == 5)
   else
   some false
  else
   some false
  else
  bif gone then
   bif (x7.2.length : Int) == 0 then
   bif (x7.1.Conts.length : Int) == units1 then
    (inb (w64 (units1 - 1)) x7.1.Conts.length).bind fun i3 =>
    (x7.1.Conts[i3]?).bind fun x9 =>
    some (x9.Notice == 0)
   else
    some false
   else
   some false
  else
   bif (x7.2.length : Int) == 1 then
   (inb 0 x7.2.length).bind fun i4 =>
   (x7.2[i4]?).bind fun x10 =>
   bif x10 == units1 then
    some ((x7.1.Conts.length : Int) == (w64 (units1 - 1)))
   else
    some false
   else
   some false
theorem mi (units : Int) (wait : Int) (gone : Bool) : Lo (ax units wait gone) (aH units wait gone):=by
 unfold ax aH
 repeat' (first | with_reducible exact rF  | with_reducible exact qC _ _ | with_reducible exact mc  | with_reducible exact kM _ _ | with_reducible exact qe _ | with_reducible exact kK _ _ | with_reducible exact sX _ _ _ | with_reducible refine ad ?_ ?_ ?_ ?_ ?_ | with_reducible refine ae ?_ ?_ ?_ ?_ | with_reducible refine ab ?_ ?_ ?_ | with_reducible refine ag ?_ ?_ | with_reducible refine aj ?_ ?_ | with_reducible refine ak ?_ _ | (intro _) | with_reducible exact ai _ | exact ah | (dsimp only))
def rX (s : List UInt8) (i : Int) : Option (Int ⊕ (Bool ⊕ Unit)) :=
 bif decide (i < (s.length : Int)) then
 (idx s i).bind fun ch =>
 (
  bif decide ((ch.toNat : Int) < 97) then
  bif decide ((ch.toNat : Int) < 48) then
   some ((ch.toNat : Int) != 45)
  else
   bif decide ((ch.toNat : Int) > 57) then
   some ((ch.toNat : Int) != 45)
   else
   some false
  else
  bif decide ((ch.toNat : Int) > 122) then
   bif decide ((ch.toNat : Int) < 48) then
   some ((ch.toNat : Int) != 45)
   else
   bif decide ((ch.toNat : Int) > 57) then
    some ((ch.toNat : Int) != 45)
   else
    some false
  else
   some false).bind fun q1 =>
 bif q1 then
  some (.inr (.inl false))
 else
  some (.inl (w64 (i + 1)))
 else
 some (.inr (.inr ()))
def mq (s : List UInt8) : Option Bool :=
 (
 bif decide ((s.length : Int) < 1) then
  some true
 else
  some (decide ((s.length : Int) > 12))).bind fun q =>
 bif q then
 some false
 else
 (itr 4096 (rX s) 0).bind fun q0 =>
 match q0 with
 | .inl q2 =>
  some q2
 | .inr _ =>
  some true
def pu (c : Conf) (i1 : Int) (k : Int) : Option (Int ⊕ (Int ⊕ Unit)) :=
 bif decide (k < i1) then
 (idx c.Labels i1).bind fun x3 =>
 (idx c.Labels k).bind fun x4 =>
 bif x3 == x4 then
  some (.inr (.inl 7))
 else
  some (.inl (w64 (k + 1)))
 else
 some (.inr (.inr ()))
def qa (c : Conf) (i1 : Int) : Option (Int ⊕ (Int ⊕ Unit)) :=
 bif decide (i1 < (c.Labels.length : Int)) then
 (itr 4096 (pu c i1) 1).bind fun q0 =>
 match q0 with
 | .inl q2 =>
  some (.inr (.inl q2))
 | .inr _ =>
  some (.inl (w64 (i1 + 1)))
 else
 some (.inr (.inr ()))
def qd (c : Conf) (i : Int) : Option (Int ⊕ (Int ⊕ Unit)) :=
 bif decide (i < (c.Labels.length : Int)) then
 (idx c.Labels i).bind fun x1 =>
 (mq x1).bind fun x2 =>
 bif ! x2 then
  some (.inr (.inl 12))
 else
  some (.inl (w64 (i + 1)))
 else
 some (.inr (.inr ()))
def kX (c : Conf) : Option Int :=
 (
 bif decide ((c.Labels.length : Int) < 1) then
  some true
 else
  bif decide ((c.Labels.length : Int) > 3) then
  some true
  else
  some (decide ((c.Queues.length : Int) > 16))).bind fun q =>
 bif q then
 some 4
 else
 (idx c.Labels 0).bind fun x =>
 bif ! (x == ([] : List UInt8)) then
  some 12
 else
  (itr 4096 (qd c) 1).bind fun q0 =>
  match q0 with
  | .inl q1 =>
  some q1
  | .inr _ =>
  (itr 4096 (qa c) 1).bind fun q0 =>
  match q0 with
  | .inl q3 =>
   some q3
  | .inr _ =>
   some 0
def rP (c : Conf) (path : List UInt8) (t : Queue × Int) : Option ((Queue × Int) ⊕ ((Queue × Bool) ⊕ Queue)) :=
 bif decide (t.2 < (c.Queues.length : Int)) then
 (idx c.Queues t.2).bind fun x =>
 bif x.Path == path then
  (idx c.Queues t.2).bind fun x1 =>
  (app 16 [] x1.Caps).bind fun l =>
  some (.inr (.inl ((⟨x1.Path,l,x1.User⟩ : Queue),true)))
 else
  some (.inl (t.1,w64 (t.2 + 1)))
 else
 some (.inr (.inr (t.1)))
def iC (c : Conf) (path : List UInt8) : Option (Queue × Bool) :=
 (itr 4096 (rP c path) ((⟨[],[],0⟩ : Queue),0)).bind fun q0 =>
 match q0 with
 | .inl q =>
 some (q.1,q.2)
 | .inr q1 =>
 some ((⟨[],[],0⟩ : Queue),false)
def qr (path : List UInt8) (k1 : Int) : Option (Int ⊕ Int) :=
 (
 bif decide (k1 ≥ 0) then
  (idx path k1).bind fun ch =>
  some ((ch.toNat : Int) != 46)
 else
  some false).bind fun q =>
 bif q then
 some (.inl (w64 (k1 - 1)))
 else
 some (.inr k1)
def hU (path : List UInt8) : Option (List UInt8) :=
 let k:=w64 ((path.length : Int) - 1)
 (itr 4096 (qr path) k).bind fun k2 =>
 bif decide (k2 < 0) then
 some ([] : List UInt8)
 else
 (slc path 0 k2).bind fun s =>
 some s
def pz (s : List UInt8) (t : Int × Int × Int) : Option ((Int × Int × Int) ⊕ (Bool ⊕ Int)) :=
 bif decide (t.2.2 ≤ (s.length : Int)) then
 (
  (
  bif decide (t.2.2 < (s.length : Int)) then
   (idx s t.2.2).bind fun ch =>
   some ((ch.toNat : Int) != 46)
  else
   some false).bind fun q =>
  bif q then
  some (.inl (t.1,t.2.1))
  else
  (
   (slc s t.1 t.2.2).bind fun s1 =>
   (mq s1).bind fun x =>
   bif ! x then
   some true
   else
   bif t.2.1 == 0 then
    (slc s t.1 t.2.2).bind fun s2 =>
    some (! (s2 == ([114,111,111,116] : List UInt8)))
   else
    some false).bind fun q1 =>
  bif q1 then
   some (.inr false)
  else
   some (.inl (w64 (t.2.2 + 1),w64 (t.2.1 + 1))) : Option ((Int × Int) ⊕ Bool)).bind fun q0 =>
 match q0 with
 | .inl q2 =>
  some (.inl (q2.1,q2.2,w64 (t.2.2 + 1)))
 | .inr q3 =>
  some (.inr (.inl q3))
 else
 some (.inr (.inr (t.2.1)))
def sH (s : List UInt8) : Option Bool :=
 (itr 4096 (pz s) (0,0,0)).bind fun q0 =>
 match q0 with
 | .inl q4 =>
 some q4
 | .inr n =>
 some (decide (n ≤ 4))
def qN (x : Queue) (k : Int) : Option (Int ⊕ (Int ⊕ Unit)) :=
 bif decide (k < (x.Caps.length : Int)) then
 (idx x.Caps k).bind fun x5 =>
 (
  bif decide (x5.Least < 0) then
  some true
  else
  bif decide (x5.Least > 10000) then
   some true
  else
   bif decide (x5.Most < 0) then
   some true
   else
   bif decide (x5.Most > 10000) then
    some true
   else
    some (decide (x5.Least > x5.Most))).bind fun q3 =>
 bif q3 then
  some (.inr (.inl 1))
 else
  some (.inl (w64 (k + 1)))
 else
 some (.inr (.inr ()))
def lU (c : Conf) (i : Int) : Option Int :=
 (idx c.Queues i).bind fun x =>
 (sH x.Path).bind fun x1 =>
 bif ! x1 then
 some 12
 else
 (
  bif decide (i > 0) then
  (idx c.Queues (w64 (i - 1))).bind fun x2 =>
  some (strLe x.Path x2.Path)
  else
  some false).bind fun q =>
 bif q then
  some 7
 else
  (hU x.Path).bind fun x3 =>
  (iC c x3).bind fun x4 =>
  (
  bif decide (i > 0) then
   some (! x4.2)
  else
   some false).bind fun q1 =>
  bif q1 then
  some 12
  else
  (
   bif decide (x.User < 1) then
   some true
   else
   bif decide (x.User > 1000000) then
    some true
   else
    some ((x.Caps.length : Int) != (c.Labels.length : Int))).bind fun q2 =>
  bif q2 then
   some 1
  else
   (itr 4096 (qN x) 0).bind fun q0 =>
   match q0 with
   | .inl q4 =>
   some q4
   | .inr _ =>
   some 0
def rB (c : Conf) (path : List UInt8) (t : List (List UInt8) × Int) : Option ((List (List UInt8) × Int) ⊕ List (List UInt8)) :=
 bif decide (t.2 < (c.Queues.length : Int)) then
 (
  (
  bif ! (path == ([] : List UInt8)) then
   (idx c.Queues t.2).bind fun x =>
   (hU x.Path).bind fun x1 =>
   some (x1 == path)
  else
   some false).bind fun q =>
  bif q then
  (idx c.Queues t.2).bind fun x2 =>
  (app 16 t.1 [x2.Path]).bind fun l =>
  some l
  else
  some t.1).bind fun l1 =>
 some (.inl (l1,w64 (t.2 + 1)))
 else
 some (.inr t.1)
def ml (c : Conf) (path : List UInt8) : Option (List (List UInt8)) :=
 (itr 4096 (rB c path) ([],0)).bind fun l2 =>
 some l2
def rq (c : Conf) (kids : List (List UInt8)) (k : Int) (t : Int × Int) : Option ((Int × Int) ⊕ Int) :=
 bif decide (t.2 < (kids.length : Int)) then
 (inb t.2 kids.length).bind fun i1 =>
 (kids[i1]?).bind fun x1 =>
 (iC c x1).bind fun x2 =>
 (inb k x2.1.Caps.length).bind fun i2 =>
 (x2.1.Caps[i2]?).bind fun x3 =>
 let n:=w64 (t.1 + x3.Least)
 some (.inl (n,w64 (t.2 + 1)))
 else
 some (.inr t.1)
def r8 (c : Conf) (kids : List (List UInt8)) (k : Int) : Option (Int ⊕ (Bool ⊕ Unit)) :=
 (
 bif decide (k < (c.Labels.length : Int)) then
  some (decide ((kids.length : Int) > 0))
 else
  some false).bind fun q =>
 bif q then
 (itr 4096 (rq c kids k) (0,0)).bind fun n1 =>
 bif n1 != 10000 then
  some (.inr (.inl false))
 else
  some (.inl (w64 (k + 1)))
 else
 some (.inr (.inr ()))
def ri (c : Conf) (i : Int) : Option (Int ⊕ (Bool ⊕ Unit)) :=
 bif decide (i < (c.Queues.length : Int)) then
 (idx c.Queues i).bind fun x =>
 (ml c x.Path).bind fun kids =>
 (itr 4096 (r8 c kids) 0).bind fun q0 =>
 match q0 with
 | .inl q1 =>
  some (.inr (.inl q1))
 | .inr _ =>
  some (.inl (w64 (i + 1)))
 else
 some (.inr (.inr ()))
def ut (c : Conf) : Option Bool :=
 (itr 4096 (ri c) 0).bind fun q0 =>
 match q0 with
 | .inl q2 =>
 some q2
 | .inr _ =>
 some true
def qP (c : Conf) (k : Int) : Option (Int ⊕ (Int ⊕ Unit)) :=
 bif decide (k < (c.Labels.length : Int)) then
 (idx c.Queues 0).bind fun x5 =>
 (idx x5.Caps k).bind fun x6 =>
 bif ! ((x6.Least == 10000) && (x6.Most == 10000)) then
  some (.inr (.inl 13))
 else
  some (.inl (w64 (k + 1)))
 else
 some (.inr (.inr ()))
def qs (c : Conf) (i : Int) : Option (Int ⊕ (Int ⊕ Unit)) :=
 bif decide (i < (c.Queues.length : Int)) then
 (lU c i).bind fun x3 =>
 bif x3 != 0 then
  (lU c i).bind fun x4 =>
  some (.inr (.inl x4))
 else
  some (.inl (w64 (i + 1)))
 else
 some (.inr (.inr ()))
def tP (c : Conf) : Option Int :=
 (kX c).bind fun x =>
 bif x != 0 then
 (kX c).bind fun x1 =>
 some x1
 else
 (
  bif (c.Queues.length : Int) == 0 then
  some true
  else
  (idx c.Queues 0).bind fun x2 =>
  some (! (x2.Path == ([114,111,111,116] : List UInt8)))).bind fun q =>
 bif q then
  some 12
 else
  (itr 4096 (qs c) 0).bind fun q0 =>
  match q0 with
  | .inl q1 =>
  some q1
  | .inr _ =>
  (itr 4096 (qP c) 0).bind fun q0 =>
  match q0 with
  | .inl q2 =>
   some q2
  | .inr _ =>
   (ut c).bind fun x7 =>
   bif ! x7 then
   some 13
   else
   some 0
def dP (v : Vec) : Option Bool :=
 bif decide (v.Mem ≥ 0) then
 bif decide (v.Mem ≤ 1125899906842624) then
  bif decide (v.Cores ≥ 0) then
  some (decide (v.Cores ≤ 1125899906842624))
  else
  some false
 else
  some false
 else
 some false
def qE (s : State) (t3 : Bool × Int) (t4 : Bool × Int) : Option ((Bool × Int) ⊕ Bool) :=
 (idx s.Apps t3.2).bind fun x8 =>
 bif decide (t4.2 < (x8.Asks.length : Int)) then
 (
  bif t4.1 then
  (idx s.Apps t3.2).bind fun x9 =>
  (idx x9.Asks t4.2).bind fun x10 =>
  (dP x10.Size).bind fun x11 =>
  some x11
  else
  some false).bind fun ok7 =>
 some (.inl (ok7,w64 (t4.2 + 1)))
 else
 some (.inr t4.1)
def qJ (s : State) (t3 : Bool × Int) : Option ((Bool × Int) ⊕ Bool) :=
 bif decide (t3.2 < (s.Apps.length : Int)) then
 (
  bif t3.1 then
  (idx s.Apps t3.2).bind fun x6 =>
  (dP x6.Master).bind fun x7 =>
  some x7
  else
  some false).bind fun ok6 =>
 (itr 4096 (qE s t3) (ok6,0)).bind fun ok8 =>
 some (.inl (ok8,w64 (t3.2 + 1)))
 else
 some (.inr t3.1)
def qO (s : State) (t2 : Bool × Int) : Option ((Bool × Int) ⊕ Bool) :=
 bif decide (t2.2 < (s.Plans.length : Int)) then
 (
  bif t2.1 then
  (idx s.Plans t2.2).bind fun x4 =>
  (dP x4.Need).bind fun x5 =>
  some x5
  else
  some false).bind fun ok4 =>
 some (.inl (ok4,w64 (t2.2 + 1)))
 else
 some (.inr t2.1)
def qz (s : State) (t1 : Bool × Int) : Option ((Bool × Int) ⊕ Bool) :=
 bif decide (t1.2 < (s.Conts.length : Int)) then
 (
  bif t1.1 then
  (idx s.Conts t1.2).bind fun x2 =>
  (dP x2.Size).bind fun x3 =>
  some x3
  else
  some false).bind fun ok2 =>
 some (.inl (ok2,w64 (t1.2 + 1)))
 else
 some (.inr t1.1)
def qK (s : State) (t : Bool × Int) : Option ((Bool × Int) ⊕ Bool) :=
 bif decide (t.2 < (s.Nodes.length : Int)) then
 (
  bif t.1 then
  (idx s.Nodes t.2).bind fun x =>
  (dP x.Cap).bind fun x1 =>
  some x1
  else
  some false).bind fun ok =>
 some (.inl (ok,w64 (t.2 + 1)))
 else
 some (.inr t.1)
def tV (s : State) : Option Bool :=
 (itr 4096 (qK s) (true,0)).bind fun ok1 =>
 (itr 4096 (qz s) (ok1,0)).bind fun ok3 =>
 (itr 4096 (qO s) (ok3,0)).bind fun ok5 =>
 (itr 4096 (qJ s) (ok5,0)).bind fun ok9 =>
 some ok9
def o9 (s : State) (t4 : Bool × Int) : Option ((Bool × Int) ⊕ Bool) :=
 bif decide (t4.2 < (s.Plans.length : Int)) then
 (
  bif t4.1 then
  (idx s.Plans (w64 (t4.2 - 1))).bind fun x8 =>
  (idx s.Plans t4.2).bind fun x9 =>
  let ok12:=decide (x8.Id < x9.Id)
  some ok12
  else
  some false).bind fun ok13 =>
 some (.inl (ok13,w64 (t4.2 + 1)))
 else
 some (.inr t4.1)
def oX (s : State) (t3 : Bool × Int) : Option ((Bool × Int) ⊕ Bool) :=
 bif decide (t3.2 < (s.Slots.length : Int)) then
 (
  bif t3.1 then
  (idx s.Slots (w64 (t3.2 - 1))).bind fun x6 =>
  (idx s.Slots t3.2).bind fun x7 =>
  let ok9:=decide (x6.Node < x7.Node)
  some ok9
  else
  some false).bind fun ok10 =>
 some (.inl (ok10,w64 (t3.2 + 1)))
 else
 some (.inr t3.1)
def o6 (s : State) (t2 : Bool × Int) : Option ((Bool × Int) ⊕ Bool) :=
 bif decide (t2.2 < (s.Conts.length : Int)) then
 (
  bif t2.1 then
  (idx s.Conts (w64 (t2.2 - 1))).bind fun x4 =>
  (idx s.Conts t2.2).bind fun x5 =>
  let ok6:=decide (x4.Id < x5.Id)
  some ok6
  else
  some false).bind fun ok7 =>
 some (.inl (ok7,w64 (t2.2 + 1)))
 else
 some (.inr t2.1)
def pa (s : State) (t1 : Bool × Int) : Option ((Bool × Int) ⊕ Bool) :=
 bif decide (t1.2 < (s.Apps.length : Int)) then
 (
  bif t1.1 then
  (idx s.Apps (w64 (t1.2 - 1))).bind fun x2 =>
  (idx s.Apps t1.2).bind fun x3 =>
  let ok3:=decide (x2.Id < x3.Id)
  some ok3
  else
  some false).bind fun ok4 =>
 some (.inl (ok4,w64 (t1.2 + 1)))
 else
 some (.inr t1.1)
def oL (s : State) (t : Bool × Int) : Option ((Bool × Int) ⊕ Bool) :=
 bif decide (t.2 < (s.Nodes.length : Int)) then
 (
  bif t.1 then
  (idx s.Nodes (w64 (t.2 - 1))).bind fun x =>
  (idx s.Nodes t.2).bind fun x1 =>
  let ok:=decide (x.Id < x1.Id)
  some ok
  else
  some false).bind fun ok1 =>
 some (.inl (ok1,w64 (t.2 + 1)))
 else
 some (.inr t.1)
def ro (s : State) : Option Bool :=
 (
 bif decide ((s.Nodes.length : Int) > 12) then
  some true
 else
  bif decide ((s.Apps.length : Int) > 16) then
  some true
  else
  bif decide ((s.Conts.length : Int) > 200) then
   some true
  else
   some (decide ((s.Plans.length : Int) > 12))).bind fun q =>
 bif q then
 some false
 else
 (itr 4096 (oL s) (true,1)).bind fun ok2 =>
 (itr 4096 (pa s) (ok2,1)).bind fun ok5 =>
 (itr 4096 (o6 s) (ok5,1)).bind fun ok8 =>
 (itr 4096 (oX s) (ok8,1)).bind fun ok11 =>
 (itr 4096 (o9 s) (ok11,1)).bind fun ok14 =>
 some ok14
def mu (a : Vec) (b : Vec) : Option Vec :=
 some (⟨w64 (a.Mem + b.Mem),w64 (a.Cores + b.Cores)⟩ : Vec)
def rE (s : State) (id_ : Int) (t : Vec × Int) : Option ((Vec × Int) ⊕ Vec) :=
 bif decide (t.2 < (s.Conts.length : Int)) then
 (
  (idx s.Conts t.2).bind fun x =>
  bif x.Node == id_ then
  (idx s.Conts t.2).bind fun x1 =>
  (mu t.1 x1.Size).bind fun x2 =>
  some x2
  else
  some t.1).bind fun v =>
 some (.inl (v,w64 (t.2 + 1)))
 else
 some (.inr t.1)
def uk (s : State) (id_ : Int) : Option Vec :=
 (itr 4096 (rE s id_) ((⟨0,0⟩ : Vec),0)).bind fun v1 =>
 some v1
def rI (s : State) (i : Int) : Option (Int ⊕ (Bool ⊕ Unit)) :=
 bif decide (i < (s.Nodes.length : Int)) then
 (idx s.Nodes i).bind fun x =>
 (uk s x.Id).bind fun x1 =>
 (
  (idx s.Nodes i).bind fun x2 =>
  bif decide (x1.Mem > x2.Cap.Mem) then
  some true
  else
  (idx s.Nodes i).bind fun x3 =>
  some (decide (x1.Cores > x3.Cap.Cores))).bind fun q =>
 bif q then
  some (.inr (.inl false))
 else
  some (.inl (w64 (i + 1)))
 else
 some (.inr (.inr ()))
def ur (s : State) : Option Bool :=
 (itr 4096 (rI s) 0).bind fun q0 =>
 match q0 with
 | .inl q1 =>
 some q1
 | .inr _ =>
 some true
def rO (s : State) (id_ : Int) (t : Node × Int) : Option ((Node × Int) ⊕ ((Node × Bool) ⊕ Node)) :=
 bif decide (t.2 < (s.Nodes.length : Int)) then
 (idx s.Nodes t.2).bind fun x =>
 bif x.Id == id_ then
  (idx s.Nodes t.2).bind fun x1 =>
  some (.inr (.inl (x1,true)))
 else
  some (.inl (t.1,w64 (t.2 + 1)))
 else
 some (.inr (.inr (t.1)))
def ms (s : State) (id_ : Int) : Option (Node × Bool) :=
 (itr 4096 (rO s id_) ((⟨0,0,0,⟨0,0⟩,0,0,false⟩ : Node),0)).bind fun q0 =>
 match q0 with
 | .inl q =>
 some (q.1,q.2)
 | .inr q1 =>
 some ((⟨0,0,0,⟨0,0⟩,0,0,false⟩ : Node),false)
def ou (s : State) (app_ : Int) (t : Int × Int × Int) : Option ((Int × Int × Int) ⊕ ((Int × Int))) :=
 bif decide (t.2.2 < (s.Conts.length : Int)) then
 (
  (idx s.Conts t.2.2).bind fun x =>
  bif x.App == app_ then
  (idx s.Conts t.2.2).bind fun x1 =>
  bif x1.Master then
   some (w64 (t.1 + 1),w64 (t.2.1 + 1))
  else
   some (t.1,w64 (t.2.1 + 1))
  else
  some (t.1,t.2.1)).bind fun q =>
 some (.inl (q.1,q.2,w64 (t.2.2 + 1)))
 else
 some (.inr (t.1,t.2.1))
def qD (s : State) (app_ : Int) : Option (Int × Int) :=
 (itr 4096 (ou s app_) (0,0,0)).bind fun q1 =>
 some (q1.1,q1.2)
def fe (c : Conf) (path : List UInt8) : Option Bool :=
 (iC c path).bind fun x =>
 bif x.2 then
 (ml c path).bind fun x1 =>
 some ((x1.length : Int) == 0)
 else
 some false
def pm (s : State) (i2 : Int) : Option (Int ⊕ (Bool ⊕ Unit)) :=
 bif decide (i2 < (s.Slots.length : Int)) then
 (idx s.Slots i2).bind fun x18 =>
 (ms s x18.Node).bind fun x19 =>
 (
  bif ! x19.2 then
  some true
  else
  some (! x19.1.Up)).bind fun q5 =>
 bif q5 then
  some (.inr (.inl false))
 else
  some (.inl (w64 (i2 + 1)))
 else
 some (.inr (.inr ()))
def pF (s : State) (i1 : Int) : Option (Int ⊕ (Bool ⊕ Unit)) :=
 bif decide (i1 < (s.Apps.length : Int)) then
 (idx s.Apps i1).bind fun x8 =>
 (qD s x8.Id).bind fun x9 =>
 (
  bif x8.State == 2 then
  bif x9.1 != 1 then
   some true
  else
   bif x8.State == 1 then
   bif x9.2 != 0 then
    some true
   else
    (aX x8).bind fun x10 =>
    bif x10 then
    (fe s.Conf x8.Queue).bind fun x11 =>
    some (! x11)
    else
    some false
   else
   (aX x8).bind fun x12 =>
   bif x12 then
    (fe s.Conf x8.Queue).bind fun x13 =>
    some (! x13)
   else
    some false
  else
  bif x8.State == 1 then
   bif x9.2 != 0 then
   some true
   else
   (aX x8).bind fun x14 =>
   bif x14 then
    (fe s.Conf x8.Queue).bind fun x15 =>
    some (! x15)
   else
    some false
  else
   (aX x8).bind fun x16 =>
   bif x16 then
   (fe s.Conf x8.Queue).bind fun x17 =>
   some (! x17)
   else
   some false).bind fun q3 =>
 bif q3 then
  some (.inr (.inl false))
 else
  some (.inl (w64 (i1 + 1)))
 else
 some (.inr (.inr ()))
def pJ (s : State) (i : Int) : Option (Int ⊕ (Bool ⊕ Unit)) :=
 bif decide (i < (s.Conts.length : Int)) then
 (idx s.Conts i).bind fun x4 =>
 (cf s x4.App).bind fun x5 =>
 (ms s x4.Node).bind fun x6 =>
 (
  bif ! x5.2 then
  some true
  else
  (aX x5.1).bind fun x7 =>
  bif ! x7 then
   some true
  else
   bif ! x6.2 then
   some true
   else
   bif ! x6.1.Up then
    some true
   else
    bif x6.1.Label != x4.Label then
    some true
    else
    bif decide (x4.Notice < 0) then
     some true
    else
     some (decide (x4.Notice > (imax s.Now 1)))).bind fun q1 =>
 bif q1 then
  some (.inr (.inl false))
 else
  some (.inl (w64 (i + 1)))
 else
 some (.inr (.inr ()))
def sy (s : State) : Option Bool :=
 (
 (tP s.Conf).bind fun x =>
 bif x != 0 then
  some true
 else
  (tV s).bind fun x1 =>
  bif ! x1 then
  some true
  else
  (ro s).bind fun x2 =>
  bif ! x2 then
   some true
  else
   (ur s).bind fun x3 =>
   some (! x3)).bind fun q =>
 bif q then
 some false
 else
 (itr 4096 (pJ s) 0).bind fun q0 =>
 match q0 with
 | .inl q2 =>
  some q2
 | .inr _ =>
  (itr 4096 (pF s) 0).bind fun q0 =>
  match q0 with
  | .inl q4 =>
  some q4
  | .inr _ =>
  (itr 4096 (pm s) 0).bind fun q0 =>
  match q0 with
  | .inl q6 =>
   some q6
  | .inr _ =>
   some true
def tn (t : List UInt8 × List (List UInt8)) : Option ((List UInt8 × List (List UInt8)) ⊕ List (List UInt8)) :=
 bif ! (t.1 == ([] : List UInt8)) then
 (app 16 t.2 [t.1]).bind fun l =>
 (hU t.1).bind fun path1 =>
 some (.inl (path1,l))
 else
 some (.inr t.2)
def vW (path : List UInt8) : Option (List (List UInt8)) :=
 (itr 4096 tn (path,[])).bind fun l1 =>
 some l1
def pS (path : List UInt8) (up : List (List UInt8)) (i : Int) : Option (Int ⊕ (Bool ⊕ Unit)) :=
 bif decide (i < (up.length : Int)) then
 (inb i up.length).bind fun i1 =>
 (up[i1]?).bind fun x =>
 bif x == path then
  some (.inr (.inl true))
 else
  some (.inl (w64 (i + 1)))
 else
 some (.inr (.inr ()))
def sn (leaf : List UInt8) (path : List UInt8) : Option Bool :=
 (vW leaf).bind fun up =>
 (itr 4096 (pS path up) 0).bind fun q0 =>
 match q0 with
 | .inl q =>
 some q
 | .inr _ =>
 some false
def qt (s : State) (path : List UInt8) (label : Int) (all : Bool) (user : Int) (t : Vec × Int) : Option ((Vec × Int) ⊕ Vec) :=
 bif decide (t.2 < (s.Conts.length : Int)) then
 (
  (idx s.Conts t.2).bind fun x =>
  (cf s x.App).bind fun x1 =>
  (
  bif x1.2 then
   (idx s.Conts t.2).bind fun x2 =>
   bif x2.Label == label then
   (sn x1.1.Queue path).bind fun x3 =>
   bif x3 then
    bif all then
    some true
    else
    some (x1.1.User == user)
   else
    some false
   else
   some false
  else
   some false).bind fun q =>
  bif q then
  (idx s.Conts t.2).bind fun x4 =>
  (mu t.1 x4.Size).bind fun x5 =>
  some x5
  else
  some t.1).bind fun v =>
 some (.inl (v,w64 (t.2 + 1)))
 else
 some (.inr t.1)
def t_ (s : State) (path : List UInt8) (label : Int) (all : Bool) (user : Int) : Option Vec :=
 (itr 4096 (qt s path label all user) ((⟨0,0⟩ : Vec),0)).bind fun v1 =>
 some v1
def li (s : State) (path : List UInt8) (label : Int) : Option Vec :=
 (t_ s path label true 0).bind fun x =>
 some x
def rt (units : Int) (t : State × Int) : Option ((State × Int) ⊕ State) :=
 bif decide (t.2 < units) then
 (app 72 t.1.Conts [(⟨t.2,1,1,⟨1,1⟩,0,0,t.2 == 1,0⟩ : Cont)]).bind fun l1 =>
 some (.inl ((⟨⟨t.1.Conf.Labels,t.1.Conf.Queues⟩,t.1.Nodes,t.1.Apps,l1,t.1.Slots,t.1.Plans,t.1.Now,t.1.Epoch,t.1.Seq⟩ : State),w64 (t.2 + 1)))
 else
 some (.inr t.1)
def uw (units : Int) (wants : Int) (least : Int) : Option State :=
 (dN).bind fun x =>
 (app 48 x.Conf.Queues [(⟨([114,111,111,116,46,97] : List UInt8),[(⟨w64 (10000 - least),10000⟩ : Cap)],1000000⟩ : Queue),(⟨([114,111,111,116,46,98] : List UInt8),[(⟨least,10000⟩ : Cap)],1000000⟩ : Queue)]).bind fun l =>
 (
 bif decide (wants > 0) then
  (inb 1 [(⟨1,2,([114,111,111,116,46,97] : List UInt8),0,0,⟨1,1⟩,[],10,0,[],[],[],[]⟩ : App),(⟨2,2,([114,111,111,116,46,98] : List UInt8),0,0,⟨1,1⟩,[],10,0,[],[],[],[]⟩ : App)].length).bind fun i =>
  ([(⟨1,2,([114,111,111,116,46,97] : List UInt8),0,0,⟨1,1⟩,[],10,0,[],[],[],[]⟩ : App),(⟨2,2,([114,111,111,116,46,98] : List UInt8),0,0,⟨1,1⟩,[],10,0,[],[],[],[]⟩ : App)][i]?).bind fun x1 =>
  some (⟨⟨x.Conf.Labels,l⟩,[(⟨1,0,0,⟨units,units⟩,10,0,true⟩ : Node)],List.set [(⟨1,2,([114,111,111,116,46,97] : List UInt8),0,0,⟨1,1⟩,[],10,0,[],[],[],[]⟩ : App),(⟨2,2,([114,111,111,116,46,98] : List UInt8),0,0,⟨1,1⟩,[],10,0,[],[],[],[]⟩ : App)] i (⟨x1.Id,x1.State,x1.Queue,x1.User,x1.Prio,⟨x1.Master.Mem,x1.Master.Cores⟩,[(⟨1,0,⟨1,1⟩,wants,(-1),(-1),0⟩ : Ask)],x1.Seen,x1.Beat,x1.Grants,x1.Kills,x1.Told,x1.Lost⟩ : App),x.Conts,x.Slots,x.Plans,10,x.Epoch,x.Seq⟩ : State)
 else
  some (⟨⟨x.Conf.Labels,l⟩,[(⟨1,0,0,⟨units,units⟩,10,0,true⟩ : Node)],[(⟨1,2,([114,111,111,116,46,97] : List UInt8),0,0,⟨1,1⟩,[],10,0,[],[],[],[]⟩ : App),(⟨2,2,([114,111,111,116,46,98] : List UInt8),0,0,⟨1,1⟩,[],10,0,[],[],[],[]⟩ : App)],x.Conts,x.Slots,x.Plans,10,x.Epoch,x.Seq⟩ : State)).bind fun s =>
 (itr 4096 (rt units) (s,1)).bind fun s1 =>
 (app 72 s1.Conts [(⟨units,2,1,⟨1,1⟩,0,0,true,0⟩ : Cont)]).bind fun l2 =>
 some (⟨⟨s1.Conf.Labels,s1.Conf.Queues⟩,s1.Nodes,s1.Apps,l2,s1.Slots,s1.Plans,s1.Now,s1.Epoch,units⟩ : State)
def yK (units : Int) (wants : Int) : Option Bool :=
 (d9).bind fun x =>
 bif ! x then
 some false
 else
 (bC units 7).bind fun x1 =>
 let units1:=w64 (2 * (w64 (3 + x1)))
 (bC wants (w64 ((w64 (Int.tdiv units1 2)) - 1))).bind fun x2 =>
 (uw units1 (w64 (1 + x2)) 5000).bind fun x3 =>
 (df x3).bind fun x4 =>
 (df (⟨⟨x4.1.Conf.Labels,x4.1.Conf.Queues⟩,x4.1.Nodes,x4.1.Apps,x4.1.Conts,x4.1.Slots,x4.1.Plans,w64 (x4.1.Now + 3),x4.1.Epoch,x4.1.Seq⟩ : State)).bind fun x5 =>
 (
  bif (x4.2.length : Int) != 0 then
  some true
  else
  bif (x5.2.length : Int) != (w64 (1 + x2)) then
   some true
  else
   some ((x5.1.Conts.length : Int) != (w64 (units1 - (w64 (1 + x2)))))).bind fun q =>
 bif q then
  some false
 else
  (cf x5.1 1).bind fun x6 =>
  (li x5.1 ([114,111,111,116,46,97] : List UInt8) 0).bind fun x7 =>
  bif x7.Mem == (w64 ((w64 (units1 - 1)) - (w64 (1 + x2)))) then
  (li x5.1 ([114,111,111,116,46,98] : List UInt8) 0).bind fun x8 =>
  bif x8.Mem == 1 then
   bif (x6.1.Kills.length : Int) == (w64 (1 + x2)) then
   (sy x5.1).bind fun x9 =>
   some x9
   else
   some false
  else
   some false
  else
  some false
end Go.Fx.D
