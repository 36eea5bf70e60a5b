/-
  The same functions with a bound on the rounds of their loops; that they give what the others give (printed by a program). Conditions: none.
-/
import Derived.Test.YtofmfbgkkbionaaD
import Derived.Test.YtofmfbgkkbionaaFxD
namespace Go.Fx.D
open Go Go.Fx
set_option linter.unusedVariables false
set_option linter.unusedSimpArgs false
set_option maxRecDepth 100000
def bL (v : Vec) : Option Bool :=
 bif decide (v.Mem ≥ 0) then
 bif decide (v.Mem ≤ 1125899906842624) then
  bif decide (v.Cores ≥ 0) then
  some (decide (v.Cores ≤ 1125899906842624))
  else
  some false
 else
  some false
 else
 some false
theorem cZ (v : Vec) : Lo (bL v) (a8 v):=by
 unfold bL a8
 repeat' (first | with_reducible refine am ?_ ?_ ?_ ?_ ?_ | with_reducible refine aj ?_ ?_ ?_ ?_ | with_reducible refine ak ?_ ?_ ?_ | with_reducible refine ao ?_ ?_ | with_reducible refine ap ?_ ?_ | with_reducible refine aq ?_ _ | (intro _) | with_reducible exact au _ | exact ar | (dsimp only))
def cC : Option State :=
 some (⟨⟨[([] : List UInt8)],[(⟨([114,111,111,116] : List UInt8),[(⟨10000,10000⟩ : Cap)],10000⟩ : Queue)]⟩,[],[],[],[],[],0,0,0⟩ : State)
theorem gp : Lo (cC) (bu):=by
 unfold cC bu
 repeat' (first | with_reducible refine am ?_ ?_ ?_ ?_ ?_ | with_reducible refine aj ?_ ?_ ?_ ?_ | with_reducible refine ak ?_ ?_ ?_ | with_reducible refine ao ?_ ?_ | with_reducible refine ap ?_ ?_ | with_reducible refine aq ?_ _ | (intro _) | with_reducible exact au _ | exact ar | (dsimp only))
def dP (v : Vec) : Option (Vec × Int) :=
 (bL v).bind fun x =>
 bif ! x then
 some ((⟨0,0⟩ : Vec),11)
 else
 some (v,0)
theorem gP (v : Vec) : Lo (dP v) (cK v):=by
 unfold dP cK
 repeat' (first | with_reducible exact cZ _ | with_reducible refine am ?_ ?_ ?_ ?_ ?_ | with_reducible refine aj ?_ ?_ ?_ ?_ | with_reducible refine ak ?_ ?_ ?_ | with_reducible refine ao ?_ ?_ | with_reducible refine ap ?_ ?_ | with_reducible refine aq ?_ _ | (intro _) | with_reducible exact au _ | exact ar | (dsimp only))
def fU (a : Vec) (b : Vec) : Option (Vec × Int) :=
 (
 (bL a).bind fun x =>
 bif ! x then
  some true
 else
  (bL b).bind fun x1 =>
  some (! x1)).bind fun q =>
 bif q then
 some ((⟨0,0⟩ : Vec),1)
 else
 (dP (⟨w64 (a.Mem + b.Mem),w64 (a.Cores + b.Cores)⟩ : Vec)).bind fun x2 =>
 some (x2.1,x2.2)
theorem mK (a : Vec) (b : Vec) : Lo (fU a b) (dH a b):=by
 unfold fU dH
 repeat' (first | with_reducible exact cZ _ | with_reducible exact gP _ | with_reducible refine am ?_ ?_ ?_ ?_ ?_ | with_reducible refine aj ?_ ?_ ?_ ?_ | with_reducible refine ak ?_ ?_ ?_ | with_reducible refine ao ?_ ?_ | with_reducible refine ap ?_ ?_ | with_reducible refine aq ?_ _ | (intro _) | with_reducible exact au _ | exact ar | (dsimp only))
def dI (l : List Vec) (t : Vec × Int) : Option ((Vec × Int) ⊕ Vec) :=
 bif decide (t.2 < (l.length : Int)) then
 (idx l t.2).bind fun x =>
 (fU t.1 x).bind fun x1 =>
 some (.inl (x1.1,w64 (t.2 + 1)))
 else
 some (.inr t.1)
theorem jC (l : List Vec) (t : Vec × Int) : Lo (dI l t) (cq l t):=by
 unfold dI cq
 repeat' (first | with_reducible exact mK _ _ | with_reducible refine am ?_ ?_ ?_ ?_ ?_ | with_reducible refine aj ?_ ?_ ?_ ?_ | with_reducible refine ak ?_ ?_ ?_ | with_reducible refine ao ?_ ?_ | with_reducible refine ap ?_ ?_ | with_reducible refine aq ?_ _ | (intro _) | with_reducible exact au _ | exact ar | (dsimp only))
def fk (l : List Vec) : Option Vec :=
 (itr 4096 (dI l) ((⟨0,0⟩ : Vec),0)).bind fun out =>
 some out
theorem lm (l : List Vec) : Lo (fk l) (de l):=by
 unfold fk de
 repeat' (first | with_reducible exact jC _ _ | with_reducible refine am ?_ ?_ ?_ ?_ ?_ | with_reducible refine aj ?_ ?_ ?_ ?_ | with_reducible refine ak ?_ ?_ ?_ | with_reducible refine ao ?_ ?_ | with_reducible refine ap ?_ ?_ | with_reducible refine aq ?_ _ | (intro _) | with_reducible exact au _ | exact ar | (dsimp only))
def da (s : State) (label : Int) (t : List Vec × Int) : Option ((List Vec × Int) ⊕ List Vec) :=
 bif decide (t.2 < (s.Nodes.length : Int)) then
 (
  (idx s.Nodes t.2).bind fun x =>
  (
  bif x.Up then
   some (x.Label == label)
  else
   some false).bind fun q =>
  bif q then
  (app 16 t.1 [x.Cap]).bind fun l =>
  some l
  else
  some t.1).bind fun l1 =>
 some (.inl (l1,w64 (t.2 + 1)))
 else
 some (.inr t.1)
theorem iq (s : State) (label : Int) (t : List Vec × Int) : Lo (da s label t) (bY s label t):=by
 unfold da bY
 repeat' (first | with_reducible refine am ?_ ?_ ?_ ?_ ?_ | with_reducible refine aj ?_ ?_ ?_ ?_ | with_reducible refine ak ?_ ?_ ?_ | with_reducible refine ao ?_ ?_ | with_reducible refine ap ?_ ?_ | with_reducible refine aq ?_ _ | (intro _) | with_reducible exact au _ | exact ar | (dsimp only))
def cW (s : State) (label : Int) : Option Vec :=
 (itr 4096 (da s label) ([],0)).bind fun l2 =>
 (fk l2).bind fun x1 =>
 some x1
theorem fP (s : State) (label : Int) : Lo (cW s label) (bj s label):=by
 unfold cW bj
 repeat' (first | with_reducible exact iq _ _ _ | with_reducible exact lm _ | with_reducible refine am ?_ ?_ ?_ ?_ ?_ | with_reducible refine aj ?_ ?_ ?_ ?_ | with_reducible refine ak ?_ ?_ ?_ | with_reducible refine ao ?_ ?_ | with_reducible refine ap ?_ ?_ | with_reducible refine aq ?_ _ | (intro _) | with_reducible exact au _ | exact ar | (dsimp only))
def ba (s : List UInt8) (c : Int) (i1 : Int) : Option (Int ⊕ (Int ⊕ Unit)) :=
 bif decide (i1 ≥ 0) then
 (idx s i1).bind fun ch =>
 bif (ch.toNat : Int) == c then
  some (.inr (.inl i1))
 else
  some (.inl (w64 (i1 - 1)))
 else
 some (.inr (.inr ()))
theorem cV (s : List UInt8) (c : Int) (i1 : Int) : Lo (ba s c i1) (bq s c i1):=by
 unfold ba bq
 repeat' (first | with_reducible refine am ?_ ?_ ?_ ?_ ?_ | with_reducible refine aj ?_ ?_ ?_ ?_ | with_reducible refine ak ?_ ?_ ?_ | with_reducible refine ao ?_ ?_ | with_reducible refine ap ?_ ?_ | with_reducible refine aq ?_ _ | (intro _) | with_reducible exact au _ | exact ar | (dsimp only))
def bz (s : List UInt8) (c : Int) : Option Int :=
 let i:=w64 ((s.length : Int) - 1)
 (itr 4096 (ba s c) i).bind fun q0 =>
 match q0 with
 | .inl q =>
 some q
 | .inr _ =>
 some (-1)
theorem dt (s : List UInt8) (c : Int) : Lo (bz s c) (aW s c):=by
 unfold bz aW
 repeat' (first | with_reducible exact cV _ _ _ | with_reducible refine am ?_ ?_ ?_ ?_ ?_ | with_reducible refine aj ?_ ?_ ?_ ?_ | with_reducible refine ak ?_ ?_ ?_ | with_reducible refine ao ?_ ?_ | with_reducible refine ap ?_ ?_ | with_reducible refine aq ?_ _ | (intro _) | with_reducible exact au _ | exact ar | (dsimp only))
def bh (t1 : Int × Int × Int) : Option ((Int × Int × Int) ⊕ Int) :=
 bif decide (t1.2.2 > 0) then
 (
  bif (andK .i64 t1.2.2 1) != 0 then
  let pow:=IntKind.u32.wrap (t1.1 * t1.2.1)
  some pow
  else
  some t1.1).bind fun pow1 =>
 let sq:=IntKind.u32.wrap (t1.2.1 * t1.2.1)
 some (.inl (pow1,sq,shrK .i64 t1.2.2 1))
 else
 some (.inr t1.1)
theorem c9 (t1 : Int × Int × Int) : Lo (bh t1) (bw t1):=by
 unfold bh bw
 repeat' (first | with_reducible refine am ?_ ?_ ?_ ?_ ?_ | with_reducible refine aj ?_ ?_ ?_ ?_ | with_reducible refine ak ?_ ?_ ?_ | with_reducible refine ao ?_ ?_ | with_reducible refine ap ?_ ?_ | with_reducible refine aq ?_ _ | (intro _) | with_reducible exact au _ | exact ar | (dsimp only))
def bi (sep : List UInt8) (t : Int × Int) : Option ((Int × Int) ⊕ Int) :=
 bif decide (t.2 ≥ 0) then
 (idx sep t.2).bind fun ch =>
 let hash:=IntKind.u32.wrap ((IntKind.u32.wrap (t.1 * 16777619)) + (IntKind.u32.wrap (ch.toNat : Int)))
 some (.inl (hash,w64 (t.2 - 1)))
 else
 some (.inr t.1)
theorem c_ (sep : List UInt8) (t : Int × Int) : Lo (bi sep t) (bv sep t):=by
 unfold bi bv
 repeat' (first | with_reducible refine am ?_ ?_ ?_ ?_ ?_ | with_reducible refine aj ?_ ?_ ?_ ?_ | with_reducible refine ak ?_ ?_ ?_ | with_reducible refine ao ?_ ?_ | with_reducible refine ap ?_ ?_ | with_reducible refine aq ?_ _ | (intro _) | with_reducible exact au _ | exact ar | (dsimp only))
def bC (sep : List UInt8) : Option (Int × Int) :=
 let i:=w64 ((sep.length : Int) - 1)
 (itr 4096 (bi sep) (0,i)).bind fun hash1 =>
 (itr 4096 bh (1,16777619,(sep.length : Int))).bind fun pow2 =>
 some (hash1,pow2)
theorem dB (sep : List UInt8) : Lo (bC sep) (a_ sep):=by
 unfold bC a_
 repeat' (first | with_reducible exact c_ _ _ | with_reducible exact c9 _ | with_reducible refine am ?_ ?_ ?_ ?_ ?_ | with_reducible refine aj ?_ ?_ ?_ ?_ | with_reducible refine ak ?_ ?_ ?_ | with_reducible refine ao ?_ ?_ | with_reducible refine ap ?_ ?_ | with_reducible refine aq ?_ _ | (intro _) | with_reducible exact au _ | exact ar | (dsimp only))
def aN (s : List UInt8) (sep : List UInt8) (x : Int × Int) (t1 : Int × Int) : Option ((Int × Int) ⊕ (Int ⊕ Unit)) :=
 bif decide (t1.2 ≥ 0) then
 (idx s t1.2).bind fun ch1 =>
 let h2:=IntKind.u32.wrap ((IntKind.u32.wrap (t1.1 * 16777619)) + (IntKind.u32.wrap (ch1.toNat : Int)))
 (idx s (w64 (t1.2 + (sep.length : Int)))).bind fun ch2 =>
 let h3:=IntKind.u32.wrap (h2 - (IntKind.u32.wrap (x.2 * (IntKind.u32.wrap (ch2.toNat : Int)))))
 (
  bif h3 == x.1 then
  (slc s t1.2 (w64 (t1.2 + (sep.length : Int)))).bind fun s2 =>
  some (s2 == sep)
  else
  some false).bind fun q1 =>
 bif q1 then
  some (.inr (.inl (t1.2)))
 else
  some (.inl (h3,w64 (t1.2 - 1)))
 else
 some (.inr (.inr ()))
theorem cw (s : List UInt8) (sep : List UInt8) (x : Int × Int) (t1 : Int × Int) : Lo (aN s sep x t1) (aR s sep x t1):=by
 unfold aN aR
 repeat' (first | with_reducible refine am ?_ ?_ ?_ ?_ ?_ | with_reducible refine aj ?_ ?_ ?_ ?_ | with_reducible refine ak ?_ ?_ ?_ | with_reducible refine ao ?_ ?_ | with_reducible refine ap ?_ ?_ | with_reducible refine aq ?_ _ | (intro _) | with_reducible exact au _ | exact ar | (dsimp only))
def aL (s : List UInt8) (last : Int) (t : Int × Int) : Option ((Int × Int) ⊕ Int) :=
 bif decide (t.2 ≥ last) then
 (idx s t.2).bind fun ch =>
 let h:=IntKind.u32.wrap ((IntKind.u32.wrap (t.1 * 16777619)) + (IntKind.u32.wrap (ch.toNat : Int)))
 some (.inl (h,w64 (t.2 - 1)))
 else
 some (.inr t.1)
theorem cv (s : List UInt8) (last : Int) (t : Int × Int) : Lo (aL s last t) (aS s last t):=by
 unfold aL aS
 repeat' (first | with_reducible refine am ?_ ?_ ?_ ?_ ?_ | with_reducible refine aj ?_ ?_ ?_ ?_ | with_reducible refine ak ?_ ?_ ?_ | with_reducible refine ao ?_ ?_ | with_reducible refine ap ?_ ?_ | with_reducible refine aq ?_ _ | (intro _) | with_reducible exact au _ | exact ar | (dsimp only))
def aT (s : List UInt8) (sep : List UInt8) : Option Int :=
 (bC sep).bind fun x =>
 let last:=w64 ((s.length : Int) - (sep.length : Int))
 let i:=w64 ((s.length : Int) - 1)
 (itr 4096 (aL s last) (0,i)).bind fun h1 =>
 (
 bif h1 == x.1 then
  (slc s last (s.length : Int)).bind fun s1 =>
  some (s1 == sep)
 else
  some false).bind fun q =>
 bif q then
 some last
 else
 (itr 4096 (aN s sep x) (h1,w64 (last - 1))).bind fun q0 =>
 match q0 with
 | .inl q2 =>
  some q2
 | .inr _ =>
  some (-1)
theorem cF (s : List UInt8) (sep : List UInt8) : Lo (aT s sep) (aI s sep):=by
 unfold aT aI
 repeat' (first | with_reducible exact dB _ | with_reducible exact cv _ _ _ | with_reducible exact cw _ _ _ _ | with_reducible refine am ?_ ?_ ?_ ?_ ?_ | with_reducible refine aj ?_ ?_ ?_ ?_ | with_reducible refine ak ?_ ?_ ?_ | with_reducible refine ao ?_ ?_ | with_reducible refine ap ?_ ?_ | with_reducible refine aq ?_ _ | (intro _) | with_reducible exact au _ | exact ar | (dsimp only))
def cD (s : List UInt8) (substr : List UInt8) : Option Int :=
 bif (substr.length : Int) == 0 then
 some (s.length : Int)
 else
 bif (substr.length : Int) == 1 then
  (idx substr 0).bind fun ch =>
  (bz s (ch.toNat : Int)).bind fun x =>
  some x
 else
  bif (substr.length : Int) == (s.length : Int) then
  bif substr == s then
   some 0
  else
   some (-1)
  else
  bif decide ((substr.length : Int) > (s.length : Int)) then
   some (-1)
  else
   (aT s substr).bind fun x1 =>
   some x1
theorem fX (s : List UInt8) (substr : List UInt8) : Lo (cD s substr) (cj s substr):=by
 unfold cD cj
 repeat' (first | with_reducible exact dt _ _ | with_reducible exact cF _ _ | with_reducible refine am ?_ ?_ ?_ ?_ ?_ | with_reducible refine aj ?_ ?_ ?_ ?_ | with_reducible refine ak ?_ ?_ ?_ | with_reducible refine ao ?_ ?_ | with_reducible refine ap ?_ ?_ | with_reducible refine aq ?_ _ | (intro _) | with_reducible exact au _ | exact ar | (dsimp only))
def eV (path : List UInt8) : Option (List UInt8 × Bool) :=
 (cD path ([46] : List UInt8)).bind fun i =>
 bif decide (i < 0) then
 some (([] : List UInt8),false)
 else
 (slc path 0 i).bind fun s =>
 some (s,true)
theorem kX (path : List UInt8) : Lo (eV path) (eo path):=by
 unfold eV eo
 repeat' (first | with_reducible exact fX _ _ | with_reducible refine am ?_ ?_ ?_ ?_ ?_ | with_reducible refine aj ?_ ?_ ?_ ?_ | with_reducible refine ak ?_ ?_ ?_ | with_reducible refine ao ?_ ?_ | with_reducible refine ap ?_ ?_ | with_reducible refine aq ?_ _ | (intro _) | with_reducible exact au _ | exact ar | (dsimp only))
def eF (t : List UInt8 × List (List UInt8)) : Option ((List UInt8 × List (List UInt8)) ⊕ List (List UInt8)) :=
 bif ! (t.1 == ([] : List UInt8)) then
 (app 16 t.2 [t.1]).bind fun l =>
 (eV t.1).bind fun x =>
 some (.inl (x.1,l))
 else
 some (.inr t.2)
theorem kT (t : List UInt8 × List (List UInt8)) : Lo (eF t) (fS t):=by
 unfold eF fS
 repeat' (first | with_reducible exact kX _ | with_reducible refine am ?_ ?_ ?_ ?_ ?_ | with_reducible refine aj ?_ ?_ ?_ ?_ | with_reducible refine ak ?_ ?_ ?_ | with_reducible refine ao ?_ ?_ | with_reducible refine ap ?_ ?_ | with_reducible refine aq ?_ _ | (intro _) | with_reducible exact au _ | exact ar | (dsimp only))
def gG (path : List UInt8) : Option (List (List UInt8)) :=
 (itr 4096 eF (path,[])).bind fun out =>
 some out
theorem gq (path : List UInt8) : Lo (gG path) (eA path):=by
 unfold gG eA
 repeat' (first | with_reducible exact kT _ | with_reducible refine am ?_ ?_ ?_ ?_ ?_ | with_reducible refine aj ?_ ?_ ?_ ?_ | with_reducible refine ak ?_ ?_ ?_ | with_reducible refine ao ?_ ?_ | with_reducible refine ap ?_ ?_ | with_reducible refine aq ?_ _ | (intro _) | with_reducible exact au _ | exact ar | (dsimp only))
def du (s : List Queue) (f : (TupT fam [.st 2] → Option Bool)) (t : Int) : Option (Int ⊕ (Int ⊕ Unit)) :=
 bif decide (t < (s.length : Int)) then
 (idx s t).bind fun x =>
 (f (x,())).bind fun r =>
 bif r then
  some (.inr (.inl t))
 else
  some (.inl (w64 (t + 1)))
 else
 some (.inr (.inr ()))
theorem iY (s : List Queue) (f f_' : (TupT fam [.st 2] → Option Bool)) (h_f : ∀ a,Lo (f a) (f_' a)) (t : Int) : Lo (du s f t) (eh s f_' t):=by
 unfold du eh
 repeat' (first | exact h_f _ | with_reducible refine am ?_ ?_ ?_ ?_ ?_ | with_reducible refine aj ?_ ?_ ?_ ?_ | with_reducible refine ak ?_ ?_ ?_ | with_reducible refine ao ?_ ?_ | with_reducible refine ap ?_ ?_ | with_reducible refine aq ?_ _ | (intro _) | with_reducible exact au _ | exact ar | (dsimp only))
def eE (s : List Queue) (f : (TupT fam [.st 2] → Option Bool)) : Option Int :=
 (itr 4096 (du s f) 0).bind fun q0 =>
 match q0 with
 | .inl q =>
 some q
 | .inr _ =>
 some (-1)
theorem k_ (s : List Queue) (f f_' : (TupT fam [.st 2] → Option Bool)) (h_f : ∀ a,Lo (f a) (f_' a)) : Lo (eE s f) (er s f_'):=by
 unfold eE er
 repeat' (first | with_reducible refine iY _ _ _ ?_ _ | exact h_f _ | with_reducible refine am ?_ ?_ ?_ ?_ ?_ | with_reducible refine aj ?_ ?_ ?_ ?_ | with_reducible refine ak ?_ ?_ ?_ | with_reducible refine ao ?_ ?_ | with_reducible refine ap ?_ ?_ | with_reducible refine aq ?_ _ | (intro _) | with_reducible exact au _ | exact ar | (dsimp only))
def d8 (q : Queue) (p : List UInt8) : Option Bool :=
 some (q.Path == p)
theorem j6 (q : Queue) (p : List UInt8) : Lo (d8 q p) (dN q p):=by
 unfold d8 dN
 repeat' (first | with_reducible refine am ?_ ?_ ?_ ?_ ?_ | with_reducible refine aj ?_ ?_ ?_ ?_ | with_reducible refine ak ?_ ?_ ?_ | with_reducible refine ao ?_ ?_ | with_reducible refine ap ?_ ?_ | with_reducible refine aq ?_ _ | (intro _) | with_reducible exact au _ | exact ar | (dsimp only))
def ga (s : List Cap) : Option (List Cap):=app 16 [] s
theorem mJ (s : List Cap) : Lo (ga s) (gh s):=by
 unfold ga gh
 repeat' (first | with_reducible refine am ?_ ?_ ?_ ?_ ?_ | with_reducible refine aj ?_ ?_ ?_ ?_ | with_reducible refine ak ?_ ?_ ?_ | with_reducible refine ao ?_ ?_ | with_reducible refine ap ?_ ?_ | with_reducible refine aq ?_ _ | (intro _) | with_reducible exact au _ | exact ar | (dsimp only))
def dS (c : Conf) (path : List UInt8) : Option (Queue × Bool) :=
 (eE c.Queues (fun a' => d8 a'.1 path)).bind fun i =>
 bif decide (i < 0) then
 some ((⟨[],[],0⟩ : Queue),false)
 else
 (idx c.Queues i).bind fun x =>
 (ga x.Caps).bind fun x1 =>
 some ((⟨x.Path,x1,x.User⟩ : Queue),true)
theorem dn (c : Conf) (path : List UInt8) : Lo (dS c path) (cH c path):=by
 unfold dS cH
 repeat' (first | with_reducible refine k_ _ _ _ ?_ | with_reducible exact j6 _ _ | with_reducible exact mJ _ | with_reducible refine am ?_ ?_ ?_ ?_ ?_ | with_reducible refine aj ?_ ?_ ?_ ?_ | with_reducible refine ak ?_ ?_ ?_ | with_reducible refine ao ?_ ?_ | with_reducible refine ap ?_ ?_ | with_reducible refine aq ?_ _ | (intro _) | with_reducible exact au _ | exact ar | (dsimp only))
def eW (x : Int) (y : Int) : Option (Int × Int) :=
 let w0:=IntKind.u64.wrap ((andK .u64 x 4294967295) * (andK .u64 y 4294967295))
 let t:=IntKind.u64.wrap ((IntKind.u64.wrap ((shrK .u64 x 32) * (andK .u64 y 4294967295))) + (shrK .u64 w0 32))
 let w1:=IntKind.u64.wrap ((andK .u64 t 4294967295) + (IntKind.u64.wrap ((andK .u64 x 4294967295) * (shrK .u64 y 32))))
 let hi:=IntKind.u64.wrap ((IntKind.u64.wrap ((IntKind.u64.wrap ((shrK .u64 x 32) * (shrK .u64 y 32))) + (shrK .u64 t 32))) + (shrK .u64 w1 32))
 some (hi,IntKind.u64.wrap (x * y))
theorem la (x : Int) (y : Int) : Lo (eW x y) (en x y):=by
 unfold eW en
 repeat' (first | with_reducible refine am ?_ ?_ ?_ ?_ ?_ | with_reducible refine aj ?_ ?_ ?_ ?_ | with_reducible refine ak ?_ ?_ ?_ | with_reducible refine ao ?_ ?_ | with_reducible refine ap ?_ ?_ | with_reducible refine aq ?_ _ | (intro _) | with_reducible exact au _ | exact ar | (dsimp only))
def eJ (x : Int) : Option Int :=
 (
 bif decide (x ≥ 4294967296) then
  some (shrK .u64 x 32,32)
 else
  some (x,0)).bind fun q =>
 (
 bif decide (q.1 ≥ 65536) then
  some (shrK .u64 q.1 16,w64 (q.2 + 16))
 else
  some (q.1,q.2)).bind fun q1 =>
 (
 bif decide (q1.1 ≥ 256) then
  some (shrK .u64 q1.1 8,w64 (q1.2 + 8))
 else
  some (q1.1,q1.2)).bind fun q2 =>
 (idx ([0,1,2,2,3,3,3,3,4,4,4,4,4,4,4,4,5,5,5,5,5,5,5,5,5,5,5,5,5,5,5,5,6,6,6,6,6,6,6,6,6,6,6,6,6,6,6,6,6,6,6,6,6,6,6,6,6,6,6,6,6,6,6,6,7,7,7,7,7,7,7,7,7,7,7,7,7,7,7,7,7,7,7,7,7,7,7,7,7,7,7,7,7,7,7,7,7,7,7,7,7,7,7,7,7,7,7,7,7,7,7,7,7,7,7,7,7,7,7,7,7,7,7,7,7,7,7,7,8,8,8,8,8,8,8,8,8,8,8,8,8,8,8,8,8,8,8,8,8,8,8,8,8,8,8,8,8,8,8,8,8,8,8,8,8,8,8,8,8,8,8,8,8,8,8,8,8,8,8,8,8,8,8,8,8,8,8,8,8,8,8,8,8,8,8,8,8,8,8,8,8,8,8,8,8,8,8,8,8,8,8,8,8,8,8,8,8,8,8,8,8,8,8,8,8,8,8,8,8,8,8,8,8,8,8,8,8,8,8,8,8,8,8,8,8,8,8,8,8,8,8,8,8,8,8,8] : List UInt8) (IntKind.u8.wrap q2.1)).bind fun ch =>
 let n:=w64 (q2.2 + (w64 (ch.toNat : Int)))
 some n
theorem kW (x : Int) : Lo (eJ x) (eu x):=by
 unfold eJ eu
 repeat' (first | with_reducible refine am ?_ ?_ ?_ ?_ ?_ | with_reducible refine aj ?_ ?_ ?_ ?_ | with_reducible refine ak ?_ ?_ ?_ | with_reducible refine ao ?_ ?_ | with_reducible refine ap ?_ ?_ | with_reducible refine aq ?_ _ | (intro _) | with_reducible exact au _ | exact ar | (dsimp only))
def ck (x : Int) : Option Int :=
 (eJ x).bind fun x1 =>
 some (w64 (64 - x1))
theorem fr (x : Int) : Lo (ck x) (b8 x):=by
 unfold ck b8
 repeat' (first | with_reducible exact kW _ | with_reducible refine am ?_ ?_ ?_ ?_ ?_ | with_reducible refine aj ?_ ?_ ?_ ?_ | with_reducible refine ak ?_ ?_ ?_ | with_reducible refine ao ?_ ?_ | with_reducible refine ap ?_ ?_ | with_reducible refine aq ?_ _ | (intro _) | with_reducible exact au _ | exact ar | (dsimp only))
def dm (yn1 : Int) (yn0 : Int) (un0 : Int) (t1 : Int × Int) : Option ((Int × Int) ⊕ Int) :=
 (
 bif decide (t1.2 ≥ 4294967296) then
  some true
 else
  some (decide ((IntKind.u64.wrap (t1.2 * yn0)) > (IntKind.u64.wrap ((IntKind.u64.wrap (4294967296 * t1.1)) + un0))))).bind fun q2 =>
 bif q2 then
 bif decide ((IntKind.u64.wrap (t1.1 + yn1)) ≥ 4294967296) then
  some (.inr (IntKind.u64.wrap (t1.2 - 1)))
 else
  some (.inl (IntKind.u64.wrap (t1.1 + yn1),IntKind.u64.wrap (t1.2 - 1)))
 else
 some (.inr t1.2)
theorem iQ (yn1 : Int) (yn0 : Int) (un0 : Int) (t1 : Int × Int) : Lo (dm yn1 yn0 un0 t1) (d9 yn1 yn0 un0 t1):=by
 unfold dm d9
 repeat' (first | with_reducible refine am ?_ ?_ ?_ ?_ ?_ | with_reducible refine aj ?_ ?_ ?_ ?_ | with_reducible refine ak ?_ ?_ ?_ | with_reducible refine ao ?_ ?_ | with_reducible refine ap ?_ ?_ | with_reducible refine aq ?_ _ | (intro _) | with_reducible exact au _ | exact ar | (dsimp only))
def dl (yn1 : Int) (yn0 : Int) (un1 : Int) (t : Int × Int) : Option ((Int × Int) ⊕ Int) :=
 (
 bif decide (t.1 ≥ 4294967296) then
  some true
 else
  some (decide ((IntKind.u64.wrap (t.1 * yn0)) > (IntKind.u64.wrap ((IntKind.u64.wrap (4294967296 * t.2)) + un1))))).bind fun q =>
 bif q then
 bif decide ((IntKind.u64.wrap (t.2 + yn1)) ≥ 4294967296) then
  some (.inr (IntKind.u64.wrap (t.1 - 1)))
 else
  some (.inl (IntKind.u64.wrap (t.1 - 1),IntKind.u64.wrap (t.2 + yn1)))
 else
 some (.inr t.1)
theorem iR (yn1 : Int) (yn0 : Int) (un1 : Int) (t : Int × Int) : Lo (dl yn1 yn0 un1 t) (em yn1 yn0 un1 t):=by
 unfold dl em
 repeat' (first | with_reducible refine am ?_ ?_ ?_ ?_ ?_ | with_reducible refine aj ?_ ?_ ?_ ?_ | with_reducible refine ak ?_ ?_ ?_ | with_reducible refine ao ?_ ?_ | with_reducible refine ap ?_ ?_ | with_reducible refine aq ?_ _ | (intro _) | with_reducible exact au _ | exact ar | (dsimp only))
def eN (hi : Int) (lo : Int) (y : Int) : Option (Int × Int) :=
 bif y == 0 then
 none
 else
 bif decide (y ≤ hi) then
  none
 else
  bif hi == 0 then
  (nz y).bind fun _ =>
  (nz y).bind fun _ =>
  some (IntKind.u64.wrap (Int.tdiv lo y),Int.tmod lo y)
  else
  (ck y).bind fun x =>
  (nn (IntKind.u64.wrap x)).bind fun _ =>
  let yn1:=shrK .u64 (shlK .u64 y (IntKind.u64.wrap x)) 32
  let yn0:=andK .u64 (shlK .u64 y (IntKind.u64.wrap x)) 4294967295
  (nn (IntKind.u64.wrap x)).bind fun _ =>
  (nn (IntKind.u64.wrap (64 - (IntKind.u64.wrap x)))).bind fun _ =>
  let un32:=orK .u64 (shlK .u64 hi (IntKind.u64.wrap x)) (shrK .u64 lo (IntKind.u64.wrap (64 - (IntKind.u64.wrap x))))
  (nn (IntKind.u64.wrap x)).bind fun _ =>
  let un1:=shrK .u64 (shlK .u64 lo (IntKind.u64.wrap x)) 32
  let un0:=andK .u64 (shlK .u64 lo (IntKind.u64.wrap x)) 4294967295
  (nz yn1).bind fun _ =>
  let rhat:=IntKind.u64.wrap (un32 - (IntKind.u64.wrap ((IntKind.u64.wrap (Int.tdiv un32 yn1)) * yn1)))
  (itr 4096 (dl yn1 yn0 un1) (IntKind.u64.wrap (Int.tdiv un32 yn1),rhat)).bind fun q1 =>
  let un21:=IntKind.u64.wrap ((IntKind.u64.wrap ((IntKind.u64.wrap (un32 * 4294967296)) + un1)) - (IntKind.u64.wrap (q1 * (shlK .u64 y (IntKind.u64.wrap x)))))
  (nz yn1).bind fun _ =>
  let rhat1:=IntKind.u64.wrap (un21 - (IntKind.u64.wrap ((IntKind.u64.wrap (Int.tdiv un21 yn1)) * yn1)))
  (itr 4096 (dm yn1 yn0 un0) (rhat1,IntKind.u64.wrap (Int.tdiv un21 yn1))).bind fun q0 =>
  (nn (IntKind.u64.wrap x)).bind fun _ =>
  let quo:=IntKind.u64.wrap ((IntKind.u64.wrap (q1 * 4294967296)) + q0)
  let rem:=shrK .u64 (IntKind.u64.wrap ((IntKind.u64.wrap ((IntKind.u64.wrap (un21 * 4294967296)) + un0)) - (IntKind.u64.wrap (q0 * (shlK .u64 y (IntKind.u64.wrap x)))))) (IntKind.u64.wrap x)
  some (quo,rem)
theorem lg (hi : Int) (lo : Int) (y : Int) : Lo (eN hi lo y) (et hi lo y):=by
 unfold eN et
 repeat' (first | with_reducible exact fr _ | with_reducible exact iR _ _ _ _ | with_reducible exact iQ _ _ _ _ | with_reducible refine am ?_ ?_ ?_ ?_ ?_ | with_reducible refine aj ?_ ?_ ?_ ?_ | with_reducible refine ak ?_ ?_ ?_ | with_reducible refine ao ?_ ?_ | with_reducible refine ap ?_ ?_ | with_reducible refine aq ?_ _ | (intro _) | with_reducible exact au _ | exact ar | (dsimp only))
def dR (n : Int) (bp : Int) : Option Int :=
 (eW (IntKind.u64.wrap n) (IntKind.u64.wrap bp)).bind fun x =>
 (eN x.1 x.2 10000).bind fun x1 =>
 some (w64 x1.1)
theorem lQ (n : Int) (bp : Int) : Lo (dR n bp) (dX n bp):=by
 unfold dR dX
 repeat' (first | with_reducible exact la _ _ | with_reducible exact lg _ _ _ | with_reducible refine am ?_ ?_ ?_ ?_ ?_ | with_reducible refine aj ?_ ?_ ?_ ?_ | with_reducible refine ak ?_ ?_ ?_ | with_reducible refine ao ?_ ?_ | with_reducible refine ap ?_ ?_ | with_reducible refine aq ?_ _ | (intro _) | with_reducible exact au _ | exact ar | (dsimp only))
def eC (a : Vec) (bp : Int) : Option (Vec × Int) :=
 (
 (bL a).bind fun x =>
 bif ! x then
  some true
 else
  bif decide (bp < 0) then
  some true
  else
  some (decide (bp > 1000000))).bind fun q =>
 bif q then
 some ((⟨0,0⟩ : Vec),1)
 else
 (dR a.Mem bp).bind fun x1 =>
 (dR a.Cores bp).bind fun x2 =>
 (dP (⟨x1,x2⟩ : Vec)).bind fun x3 =>
 some (x3.1,x3.2)
theorem lb (a : Vec) (bp : Int) : Lo (eC a bp) (ep a bp):=by
 unfold eC ep
 repeat' (first | with_reducible exact cZ _ | with_reducible exact lQ _ _ | with_reducible exact gP _ | with_reducible refine am ?_ ?_ ?_ ?_ ?_ | with_reducible refine aj ?_ ?_ ?_ ?_ | with_reducible refine ak ?_ ?_ ?_ | with_reducible refine ao ?_ ?_ | with_reducible refine ap ?_ ?_ | with_reducible refine aq ?_ _ | (intro _) | with_reducible exact au _ | exact ar | (dsimp only))
def dz (s : State) (label : Int) (part : (TupT fam [.st 1] → Option Int)) (up : List (List UInt8)) (t : Vec × Vec × Int) : Option ((Vec × Vec × Int) ⊕ (Vec ⊕ (Vec × Vec))) :=
 bif decide (t.2.2 ≥ 0) then
 (inb t.2.2 up.length).bind fun i1 =>
 (up[i1]?).bind fun x2 =>
 (dS s.Conf x2).bind fun x3 =>
 (
  bif ! x3.2 then
  some true
  else
  bif decide (label < 0) then
   some true
  else
   some (decide (label ≥ (x3.1.Caps.length : Int)))).bind fun q =>
 bif q then
  some (.inr (.inl (⟨0,0⟩ : Vec)))
 else
  (inb label x3.1.Caps.length).bind fun i2 =>
  (x3.1.Caps[i2]?).bind fun x4 =>
  (part (x4,())).bind fun r =>
  (eC t.2.1 r).bind fun x5 =>
  some (.inl (t.1,x5.1,w64 (t.2.2 - 1)))
 else
 some (.inr (.inr (t.1,t.2.1)))
theorem iS (s : State) (label : Int) (part part_' : (TupT fam [.st 1] → Option Int)) (h_part : ∀ a,Lo (part a) (part_' a)) (up : List (List UInt8)) (t : Vec × Vec × Int) : Lo (dz s label part up t) (cX s label part_' up t):=by
 unfold dz cX
 repeat' (first | with_reducible exact dn _ _ | with_reducible exact lb _ _ | exact h_part _ | with_reducible refine am ?_ ?_ ?_ ?_ ?_ | with_reducible refine aj ?_ ?_ ?_ ?_ | with_reducible refine ak ?_ ?_ ?_ | with_reducible refine ao ?_ ?_ | with_reducible refine ap ?_ ?_ | with_reducible refine aq ?_ _ | (intro _) | with_reducible exact au _ | exact ar | (dsimp only))
def dv (s : State) (path : List UInt8) (label : Int) (part : (TupT fam [.st 1] → Option Int)) : Option Vec :=
 (gG path).bind fun up =>
 (dS s.Conf path).bind fun x =>
 bif ! x.2 then
 some (⟨0,0⟩ : Vec)
 else
 (cW s label).bind fun x1 =>
 let i:=w64 ((up.length : Int) - 2)
 (itr 4096 (dz s label part up) ((⟨0,0⟩ : Vec),x1,i)).bind fun q0 =>
 match q0 with
 | .inl q1 =>
  some q1
 | .inr q2 =>
  some q2.2
theorem gr (s : State) (path : List UInt8) (label : Int) (part part_' : (TupT fam [.st 1] → Option Int)) (h_part : ∀ a,Lo (part a) (part_' a)) : Lo (dv s path label part) (bR s path label part_'):=by
 unfold dv bR
 repeat' (first | with_reducible exact gq _ | with_reducible exact dn _ _ | with_reducible exact fP _ _ | with_reducible refine iS _ _ _ _ ?_ _ _ | exact h_part _ | with_reducible refine am ?_ ?_ ?_ ?_ ?_ | with_reducible refine aj ?_ ?_ ?_ ?_ | with_reducible refine ak ?_ ?_ ?_ | with_reducible refine ao ?_ ?_ | with_reducible refine ap ?_ ?_ | with_reducible refine aq ?_ _ | (intro _) | with_reducible exact au _ | exact ar | (dsimp only))
def cg (c : Cap) : Option Int :=
 some c.Least
theorem eX (c : Cap) : Lo (cg c) (bT c):=by
 unfold cg bT
 repeat' (first | with_reducible refine am ?_ ?_ ?_ ?_ ?_ | with_reducible refine aj ?_ ?_ ?_ ?_ | with_reducible refine ak ?_ ?_ ?_ | with_reducible refine ao ?_ ?_ | with_reducible refine ap ?_ ?_ | with_reducible refine aq ?_ _ | (intro _) | with_reducible exact au _ | exact ar | (dsimp only))
def eb (s : State) (path : List UInt8) (label : Int) : Option Vec :=
 (dv s path label (fun a' => cg a'.1)).bind fun x =>
 some x
theorem jG (s : State) (path : List UInt8) (label : Int) : Lo (eb s path label) (ci s path label):=by
 unfold eb ci
 repeat' (first | with_reducible refine gr _ _ _ _ _ ?_ | with_reducible exact eX _ | with_reducible refine am ?_ ?_ ?_ ?_ ?_ | with_reducible refine aj ?_ ?_ ?_ ?_ | with_reducible refine ak ?_ ?_ ?_ | with_reducible refine ao ?_ ?_ | with_reducible refine ap ?_ ?_ | with_reducible refine aq ?_ _ | (intro _) | with_reducible exact au _ | exact ar | (dsimp only))
def cp (c : Cap) : Option Int :=
 some c.Most
theorem fp (c : Cap) : Lo (cp c) (b9 c):=by
 unfold cp b9
 repeat' (first | with_reducible refine am ?_ ?_ ?_ ?_ ?_ | with_reducible refine aj ?_ ?_ ?_ ?_ | with_reducible refine ak ?_ ?_ ?_ | with_reducible refine ao ?_ ?_ | with_reducible refine ap ?_ ?_ | with_reducible refine aq ?_ _ | (intro _) | with_reducible exact au _ | exact ar | (dsimp only))
def eS (s : State) (path : List UInt8) (label : Int) : Option Vec :=
 (dv s path label (fun a' => cp a'.1)).bind fun x =>
 some x
theorem kY (s : State) (path : List UInt8) (label : Int) : Lo (eS s path label) (cP s path label):=by
 unfold eS cP
 repeat' (first | with_reducible refine gr _ _ _ _ _ ?_ | with_reducible exact fp _ | with_reducible refine am ?_ ?_ ?_ ?_ ?_ | with_reducible refine aj ?_ ?_ ?_ ?_ | with_reducible refine ak ?_ ?_ ?_ | with_reducible refine ao ?_ ?_ | with_reducible refine ap ?_ ?_ | with_reducible refine aq ?_ _ | (intro _) | with_reducible exact au _ | exact ar | (dsimp only))
def dj : Option Bool :=
 (cC).bind fun x =>
 (cW x 0).bind fun x1 =>
 bif (x1.Mem == 0) && (x1.Cores == 0) then
 (eb x ([114,111,111,116] : List UInt8) 0).bind fun x2 =>
 bif (x2.Mem == 0) && (x2.Cores == 0) then
  (eS (⟨⟨x.Conf.Labels,x.Conf.Queues⟩,[(⟨0,0,0,⟨8,4⟩,0,0,true⟩ : Node)],x.Apps,x.Conts,x.Slots,x.Plans,x.Now,x.Epoch,x.Seq⟩ : State) ([114,111,111,116] : List UInt8) 0).bind fun x3 =>
  some ((x3.Mem == 8) && (x3.Cores == 4))
 else
  some false
 else
 some false
theorem fC : Lo (dj) (bI):=by
 unfold dj bI
 repeat' (first | with_reducible exact gp  | with_reducible exact fP _ _ | with_reducible exact jG _ _ _ | with_reducible exact kY _ _ _ | with_reducible refine am ?_ ?_ ?_ ?_ ?_ | with_reducible refine aj ?_ ?_ ?_ ?_ | with_reducible refine ak ?_ ?_ ?_ | with_reducible refine ao ?_ ?_ | with_reducible refine ap ?_ ?_ | with_reducible refine aq ?_ _ | (intro _) | with_reducible exact au _ | exact ar | (dsimp only))
end Go.Fx.D
