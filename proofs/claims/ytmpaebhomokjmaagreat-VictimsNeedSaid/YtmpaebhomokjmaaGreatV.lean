/-
  Some of the functions with a bound on the rounds of their loops; that they give what the others give (printed by a program). Conditions: none.
-/
import Derived.Test.YtmpaebhomokjmaaGreatD
import Derived.Test.YtmpaebhomokjmaaGreatFxD
namespace Go.Fx.D
open Go Go.Fx
set_option linter.unusedVariables false
set_option linter.unusedSimpArgs false
set_option maxRecDepth 100000
def ju (k : Looker) (c : Cont) : Option Looker:=none
theorem mK (k : Looker) (c : Cont) : Lo (ju k c) (bD k c):=ah
def tW (a : Vec) (b : Vec) : Option (Vec × Int):=none
theorem v8 (a : Vec) (b : Vec) : Lo (tW a b) (nR a b):=ah
def pu (l : List Vec) (t : Vec × Int) : Option ((Vec × Int) ⊕ Vec) :=
 bif decide (t.2 < (l.length : Int)) then
 (idx l t.2).bind fun x =>
 (tW t.1 x).bind fun x1 =>
 some (.inl (x1.1,w64 (t.2 + 1)))
 else
 some (.inr t.1)
theorem wT (l : List Vec) (t : Vec × Int) : Lo (pu l t) (kS l t):=by
 unfold pu kS
 repeat' (first | with_reducible exact v8 _ _ | with_reducible refine aw ?_ ?_ ?_ ?_ ?_ | with_reducible refine av ?_ ?_ ?_ ?_ | with_reducible refine ax ?_ ?_ ?_ | with_reducible refine aA ?_ ?_ | with_reducible refine aF ?_ ?_ | with_reducible refine aE ?_ _ | (intro _) | with_reducible exact aC _ | exact ah | (dsimp only))
def so (l : List Vec) : Option Vec :=
 (itr 4096 (pu l) ((⟨0,0⟩ : Vec),0)).bind fun out =>
 some out
theorem AP (l : List Vec) : Lo (so l) (oq l):=by
 unfold so oq
 repeat' (first | with_reducible exact wT _ _ | with_reducible refine aw ?_ ?_ ?_ ?_ ?_ | with_reducible refine av ?_ ?_ ?_ ?_ | with_reducible refine ax ?_ ?_ ?_ | with_reducible refine aA ?_ ?_ | with_reducible refine aF ?_ ?_ | with_reducible refine aE ?_ _ | (intro _) | with_reducible exact aC _ | exact ah | (dsimp only))
def nT (s : State) (label : Int) (t : List Vec × Int) : Option ((List Vec × Int) ⊕ List Vec) :=
 bif decide (t.2 < (s.Nodes.length : Int)) then
 (
  (idx s.Nodes t.2).bind fun x =>
  (
  bif x.Up then
   some (x.Label == label)
  else
   some false).bind fun q =>
  bif q then
  (app 16 t.1 [x.Cap]).bind fun l =>
  some l
  else
  some t.1).bind fun l1 =>
 some (.inl (l1,w64 (t.2 + 1)))
 else
 some (.inr t.1)
theorem vM (s : State) (label : Int) (t : List Vec × Int) : Lo (nT s label t) (iL s label t):=by
 unfold nT iL
 repeat' (first | with_reducible refine aw ?_ ?_ ?_ ?_ ?_ | with_reducible refine av ?_ ?_ ?_ ?_ | with_reducible refine ax ?_ ?_ ?_ | with_reducible refine aA ?_ ?_ | with_reducible refine aF ?_ ?_ | with_reducible refine aE ?_ _ | (intro _) | with_reducible exact aC _ | exact ah | (dsimp only))
def lM (s : State) (label : Int) : Option Vec :=
 (itr 4096 (nT s label) ([],0)).bind fun l2 =>
 (so l2).bind fun x1 =>
 some x1
theorem pS (s : State) (label : Int) : Lo (lM s label) (iF s label):=by
 unfold lM iF
 repeat' (first | with_reducible exact vM _ _ _ | with_reducible exact AP _ | with_reducible refine aw ?_ ?_ ?_ ?_ ?_ | with_reducible refine av ?_ ?_ ?_ ?_ | with_reducible refine ax ?_ ?_ ?_ | with_reducible refine aA ?_ ?_ | with_reducible refine aF ?_ ?_ | with_reducible refine aE ?_ _ | (intro _) | with_reducible exact aC _ | exact ah | (dsimp only))
def qm (v : View) (c : Cont) : Option (App × Bool):=none
theorem ui (v : View) (c : Cont) : Lo (qm v c) (iQ v c):=ah
def rr (v : View) (a : App) : Option Bool:=none
theorem vL (v : View) (a : App) : Lo (rr v a) (iK v a):=ah
def lB (v : View) (t : Vec × Int) : Option ((Vec × Int) ⊕ Vec) :=
 bif decide (t.2 < (v.s.Conts.length : Int)) then
 (
  (idx v.s.Conts t.2).bind fun x =>
  (qm v x).bind fun x1 =>
  (
  bif x1.2 then
   bif x.Label == v.label then
   (rr v x1.1).bind fun x2 =>
   some x2
   else
   some false
  else
   some false).bind fun q =>
  bif q then
  (tW t.1 x.Size).bind fun x3 =>
  some x3.1
  else
  some t.1).bind fun out =>
 some (.inl (out,w64 (t.2 + 1)))
 else
 some (.inr t.1)
theorem tq (v : View) (t : Vec × Int) : Lo (lB v t) (dq v t):=by
 unfold lB dq
 repeat' (first | with_reducible exact ui _ _ | with_reducible exact vL _ _ | with_reducible exact v8 _ _ | with_reducible refine aw ?_ ?_ ?_ ?_ ?_ | with_reducible refine av ?_ ?_ ?_ ?_ | with_reducible refine ax ?_ ?_ ?_ | with_reducible refine aA ?_ ?_ | with_reducible refine aF ?_ ?_ | with_reducible refine aE ?_ _ | (intro _) | with_reducible exact aC _ | exact ah | (dsimp only))
def nq (v : View) : Option Vec :=
 (itr 4096 (lB v) ((⟨0,0⟩ : Vec),0)).bind fun out1 =>
 some out1
theorem uM (v : View) : Lo (nq v) (gv v):=by
 unfold nq gv
 repeat' (first | with_reducible exact tq _ _ | with_reducible refine aw ?_ ?_ ?_ ?_ ?_ | with_reducible refine av ?_ ?_ ?_ ?_ | with_reducible refine ax ?_ ?_ ?_ | with_reducible refine aA ?_ ?_ | with_reducible refine aF ?_ ?_ | with_reducible refine aE ?_ _ | (intro _) | with_reducible exact aC _ | exact ah | (dsimp only))
def mJ (s : State) (path : List UInt8) (label : Int) : Option Vec :=
 (nq (⟨⟨⟨s.Conf.Labels,s.Conf.Queues⟩,s.Nodes,s.Apps,s.Conts,s.Slots,s.Plans,s.Now,s.Epoch,s.Seq⟩,path,label,(-1)⟩ : View)).bind fun x =>
 some x
theorem qw (s : State) (path : List UInt8) (label : Int) : Lo (mJ s path label) (il s path label):=by
 unfold mJ il
 repeat' (first | with_reducible exact uM _ | with_reducible refine aw ?_ ?_ ?_ ?_ ?_ | with_reducible refine av ?_ ?_ ?_ ?_ | with_reducible refine ax ?_ ?_ ?_ | with_reducible refine aA ?_ ?_ | with_reducible refine aF ?_ ?_ | with_reducible refine aE ?_ _ | (intro _) | with_reducible exact aC _ | exact ah | (dsimp only))
def c_ (s : List UInt8) (c : Int) (i1 : Int) : Option (Int ⊕ (Int ⊕ Unit)) :=
 bif decide (i1 ≥ 0) then
 (idx s i1).bind fun ch =>
 bif (ch.toNat : Int) == c then
  some (.inr (.inl i1))
 else
  some (.inl (w64 (i1 - 1)))
 else
 some (.inr (.inr ()))
theorem nN (s : List UInt8) (c : Int) (i1 : Int) : Lo (c_ s c i1) (bo s c i1):=by
 unfold c_ bo
 repeat' (first | with_reducible refine aw ?_ ?_ ?_ ?_ ?_ | with_reducible refine av ?_ ?_ ?_ ?_ | with_reducible refine ax ?_ ?_ ?_ | with_reducible refine aA ?_ ?_ | with_reducible refine aF ?_ ?_ | with_reducible refine aE ?_ _ | (intro _) | with_reducible exact aC _ | exact ah | (dsimp only))
def d8 (s : List UInt8) (c : Int) : Option Int :=
 let i:=w64 ((s.length : Int) - 1)
 (itr 4096 (c_ s c) i).bind fun q0 =>
 match q0 with
 | .inl q =>
 some q
 | .inr _ =>
 some (-1)
theorem oR (s : List UInt8) (c : Int) : Lo (d8 s c) (aL s c):=by
 unfold d8 aL
 repeat' (first | with_reducible exact nN _ _ _ | with_reducible refine aw ?_ ?_ ?_ ?_ ?_ | with_reducible refine av ?_ ?_ ?_ ?_ | with_reducible refine ax ?_ ?_ ?_ | with_reducible refine aA ?_ ?_ | with_reducible refine aF ?_ ?_ | with_reducible refine aE ?_ _ | (intro _) | with_reducible exact aC _ | exact ah | (dsimp only))
def fO (s : List UInt8) (sep : List UInt8) : Option Int:=none
theorem mi (s : List UInt8) (sep : List UInt8) : Lo (fO s sep) (cA s sep):=ah
def l9 (s : List UInt8) (substr : List UInt8) : Option Int :=
 bif (substr.length : Int) == 0 then
 some (s.length : Int)
 else
 bif (substr.length : Int) == 1 then
  (idx substr 0).bind fun ch =>
  (d8 s (ch.toNat : Int)).bind fun x =>
  some x
 else
  bif (substr.length : Int) == (s.length : Int) then
  bif substr == s then
   some 0
  else
   some (-1)
  else
  bif decide ((substr.length : Int) > (s.length : Int)) then
   some (-1)
  else
   (fO s substr).bind fun x1 =>
   some x1
theorem tV (s : List UInt8) (substr : List UInt8) : Lo (l9 s substr) (bV s substr):=by
 unfold l9 bV
 repeat' (first | with_reducible exact oR _ _ | with_reducible exact mi _ _ | with_reducible refine aw ?_ ?_ ?_ ?_ ?_ | with_reducible refine av ?_ ?_ ?_ ?_ | with_reducible refine ax ?_ ?_ ?_ | with_reducible refine aA ?_ ?_ | with_reducible refine aF ?_ ?_ | with_reducible refine aE ?_ _ | (intro _) | with_reducible exact aC _ | exact ah | (dsimp only))
def pb (path : List UInt8) : Option (List UInt8 × Bool) :=
 (l9 path ([46] : List UInt8)).bind fun i =>
 bif decide (i < 0) then
 some (([] : List UInt8),false)
 else
 (slc path 0 i).bind fun s =>
 some (s,true)
theorem ud (path : List UInt8) : Lo (pb path) (hG path):=by
 unfold pb hG
 repeat' (first | with_reducible exact tV _ _ | with_reducible refine aw ?_ ?_ ?_ ?_ ?_ | with_reducible refine av ?_ ?_ ?_ ?_ | with_reducible refine ax ?_ ?_ ?_ | with_reducible refine aA ?_ ?_ | with_reducible refine aF ?_ ?_ | with_reducible refine aE ?_ _ | (intro _) | with_reducible exact aC _ | exact ah | (dsimp only))
def rC (t : List UInt8 × List (List UInt8)) : Option ((List UInt8 × List (List UInt8)) ⊕ List (List UInt8)) :=
 bif ! (t.1 == ([] : List UInt8)) then
 (app 16 t.2 [t.1]).bind fun l =>
 (pb t.1).bind fun x =>
 some (.inl (x.1,l))
 else
 some (.inr t.2)
theorem zq (t : List UInt8 × List (List UInt8)) : Lo (rC t) (li t):=by
 unfold rC li
 repeat' (first | with_reducible exact ud _ | with_reducible refine aw ?_ ?_ ?_ ?_ ?_ | with_reducible refine av ?_ ?_ ?_ ?_ | with_reducible refine ax ?_ ?_ ?_ | with_reducible refine aA ?_ ?_ | with_reducible refine aF ?_ ?_ | with_reducible refine aE ?_ _ | (intro _) | with_reducible exact aC _ | exact ah | (dsimp only))
def vo (path : List UInt8) : Option (List (List UInt8)) :=
 (itr 4096 rC (path,[])).bind fun out =>
 some out
theorem C5 (path : List UInt8) : Lo (vo path) (qP path):=by
 unfold vo qP
 repeat' (first | with_reducible exact zq _ | with_reducible refine aw ?_ ?_ ?_ ?_ ?_ | with_reducible refine av ?_ ?_ ?_ ?_ | with_reducible refine ax ?_ ?_ ?_ | with_reducible refine aA ?_ ?_ | with_reducible refine aF ?_ ?_ | with_reducible refine aE ?_ _ | (intro _) | with_reducible exact aC _ | exact ah | (dsimp only))
def qD (s : List Cap) : Option (List Cap):=app 16 [] s
theorem vT (s : List Cap) : Lo (qD s) (pT s):=by
 unfold qD pT
 repeat' (first | with_reducible refine aw ?_ ?_ ?_ ?_ ?_ | with_reducible refine av ?_ ?_ ?_ ?_ | with_reducible refine ax ?_ ?_ ?_ | with_reducible refine aA ?_ ?_ | with_reducible refine aF ?_ ?_ | with_reducible refine aE ?_ _ | (intro _) | with_reducible exact aC _ | exact ah | (dsimp only))
def oQ (s : List Queue) (f : (TupT fam [.st 2] → Option Bool)) (t : Int) : Option (Int ⊕ (Int ⊕ Unit)) :=
 bif decide (t < (s.length : Int)) then
 (idx s t).bind fun x =>
 (f (x,())).bind fun r =>
 bif r then
  some (.inr (.inl t))
 else
  some (.inl (w64 (t + 1)))
 else
 some (.inr (.inr ()))
theorem wg (s : List Queue) (f f_' : (TupT fam [.st 2] → Option Bool)) (h_f : ∀ a,Lo (f a) (f_' a)) (t : Int) : Lo (oQ s f t) (gI s f_' t):=by
 unfold oQ gI
 repeat' (first | exact h_f _ | with_reducible refine aw ?_ ?_ ?_ ?_ ?_ | with_reducible refine av ?_ ?_ ?_ ?_ | with_reducible refine ax ?_ ?_ ?_ | with_reducible refine aA ?_ ?_ | with_reducible refine aF ?_ ?_ | with_reducible refine aE ?_ _ | (intro _) | with_reducible exact aC _ | exact ah | (dsimp only))
def q_ (s : List Queue) (f : (TupT fam [.st 2] → Option Bool)) : Option Int :=
 (itr 4096 (oQ s f) 0).bind fun q0 =>
 match q0 with
 | .inl q =>
 some q
 | .inr _ =>
 some (-1)
theorem zp (s : List Queue) (f f_' : (TupT fam [.st 2] → Option Bool)) (h_f : ∀ a,Lo (f a) (f_' a)) : Lo (q_ s f) (pa s f_'):=by
 unfold q_ pa
 repeat' (first | with_reducible refine wg _ _ _ ?_ _ | exact h_f _ | with_reducible refine aw ?_ ?_ ?_ ?_ ?_ | with_reducible refine av ?_ ?_ ?_ ?_ | with_reducible refine ax ?_ ?_ ?_ | with_reducible refine aA ?_ ?_ | with_reducible refine aF ?_ ?_ | with_reducible refine aE ?_ _ | (intro _) | with_reducible exact aC _ | exact ah | (dsimp only))
def qz (q : Queue) (p : List UInt8) : Option Bool :=
 some (q.Path == p)
theorem xQ (q : Queue) (p : List UInt8) : Lo (qz q p) (kc q p):=by
 unfold qz kc
 repeat' (first | with_reducible refine aw ?_ ?_ ?_ ?_ ?_ | with_reducible refine av ?_ ?_ ?_ ?_ | with_reducible refine ax ?_ ?_ ?_ | with_reducible refine aA ?_ ?_ | with_reducible refine aF ?_ ?_ | with_reducible refine aE ?_ _ | (intro _) | with_reducible exact aC _ | exact ah | (dsimp only))
def pW (c : Conf) (path : List UInt8) : Option (Queue × Bool) :=
 (q_ c.Queues (fun a' => qz a'.1 path)).bind fun i =>
 bif decide (i < 0) then
 some ((⟨[],[],0⟩ : Queue),false)
 else
 (idx c.Queues i).bind fun x =>
 (qD x.Caps).bind fun x1 =>
 some ((⟨x.Path,x1,x.User⟩ : Queue),true)
theorem uJ (c : Conf) (path : List UInt8) : Lo (pW c path) (mq c path):=by
 unfold pW mq
 repeat' (first | with_reducible refine zp _ _ _ ?_ | with_reducible exact xQ _ _ | with_reducible exact vT _ | with_reducible refine aw ?_ ?_ ?_ ?_ ?_ | with_reducible refine av ?_ ?_ ?_ ?_ | with_reducible refine ax ?_ ?_ ?_ | with_reducible refine aA ?_ ?_ | with_reducible refine aF ?_ ?_ | with_reducible refine aE ?_ _ | (intro _) | with_reducible exact aC _ | exact ah | (dsimp only))
def rE (x : Int) : Option Int :=
 (
 bif decide (x ≥ 4294967296) then
  some (shrK .u64 x 32,32)
 else
  some (x,0)).bind fun q =>
 (
 bif decide (q.1 ≥ 65536) then
  some (shrK .u64 q.1 16,w64 (q.2 + 16))
 else
  some (q.1,q.2)).bind fun q1 =>
 (
 bif decide (q1.1 ≥ 256) then
  some (shrK .u64 q1.1 8,w64 (q1.2 + 8))
 else
  some (q1.1,q1.2)).bind fun q2 =>
 (idx ([0,1,2,2,3,3,3,3,4,4,4,4,4,4,4,4,5,5,5,5,5,5,5,5,5,5,5,5,5,5,5,5,6,6,6,6,6,6,6,6,6,6,6,6,6,6,6,6,6,6,6,6,6,6,6,6,6,6,6,6,6,6,6,6,7,7,7,7,7,7,7,7,7,7,7,7,7,7,7,7,7,7,7,7,7,7,7,7,7,7,7,7,7,7,7,7,7,7,7,7,7,7,7,7,7,7,7,7,7,7,7,7,7,7,7,7,7,7,7,7,7,7,7,7,7,7,7,7,8,8,8,8,8,8,8,8,8,8,8,8,8,8,8,8,8,8,8,8,8,8,8,8,8,8,8,8,8,8,8,8,8,8,8,8,8,8,8,8,8,8,8,8,8,8,8,8,8,8,8,8,8,8,8,8,8,8,8,8,8,8,8,8,8,8,8,8,8,8,8,8,8,8,8,8,8,8,8,8,8,8,8,8,8,8,8,8,8,8,8,8,8,8,8,8,8,8,8,8,8,8,8,8,8,8,8,8,8,8,8,8,8,8,8,8,8,8,8,8,8,8,8,8,8,8,8,8] : List UInt8) (IntKind.u8.wrap q2.1)).bind fun ch =>
 let n:=w64 (q2.2 + (w64 (ch.toNat : Int)))
 some n
theorem zo (x : Int) : Lo (rE x) (oN x):=by
 unfold rE oN
 repeat' (first | with_reducible refine aw ?_ ?_ ?_ ?_ ?_ | with_reducible refine av ?_ ?_ ?_ ?_ | with_reducible refine ax ?_ ?_ ?_ | with_reducible refine aA ?_ ?_ | with_reducible refine aF ?_ ?_ | with_reducible refine aE ?_ _ | (intro _) | with_reducible exact aC _ | exact ah | (dsimp only))
def uP (a : Vec) (bp : Int) : Option (Vec × Int):=none
theorem zk (a : Vec) (bp : Int) : Lo (uP a bp) (pc a bp):=ah
def oW (s : State) (label : Int) (part : (TupT fam [.st 1] → Option Int)) (up : List (List UInt8)) (t : Vec × Vec × Int) : Option ((Vec × Vec × Int) ⊕ (Vec ⊕ (Vec × Vec))) :=
 bif decide (t.2.2 ≥ 0) then
 (inb t.2.2 up.length).bind fun i1 =>
 (up[i1]?).bind fun x2 =>
 (pW s.Conf x2).bind fun x3 =>
 (
  bif ! x3.2 then
  some true
  else
  bif decide (label < 0) then
   some true
  else
   some (decide (label ≥ (x3.1.Caps.length : Int)))).bind fun q =>
 bif q then
  some (.inr (.inl (⟨0,0⟩ : Vec)))
 else
  (inb label x3.1.Caps.length).bind fun i2 =>
  (x3.1.Caps[i2]?).bind fun x4 =>
  (part (x4,())).bind fun r =>
  (uP t.2.1 r).bind fun x5 =>
  some (.inl (t.1,x5.1,w64 (t.2.2 - 1)))
 else
 some (.inr (.inr (t.1,t.2.1)))
theorem wA (s : State) (label : Int) (part part_' : (TupT fam [.st 1] → Option Int)) (h_part : ∀ a,Lo (part a) (part_' a)) (up : List (List UInt8)) (t : Vec × Vec × Int) : Lo (oW s label part up t) (jv s label part_' up t):=by
 unfold oW jv
 repeat' (first | with_reducible exact uJ _ _ | with_reducible exact zk _ _ | exact h_part _ | with_reducible refine aw ?_ ?_ ?_ ?_ ?_ | with_reducible refine av ?_ ?_ ?_ ?_ | with_reducible refine ax ?_ ?_ ?_ | with_reducible refine aA ?_ ?_ | with_reducible refine aF ?_ ?_ | with_reducible refine aE ?_ _ | (intro _) | with_reducible exact aC _ | exact ah | (dsimp only))
def rg (s : State) (path : List UInt8) (label : Int) (part : (TupT fam [.st 1] → Option Int)) : Option Vec :=
 (vo path).bind fun up =>
 (pW s.Conf path).bind fun x =>
 bif ! x.2 then
 some (⟨0,0⟩ : Vec)
 else
 (lM s label).bind fun x1 =>
 let i:=w64 ((up.length : Int) - 2)
 (itr 4096 (oW s label part up) ((⟨0,0⟩ : Vec),x1,i)).bind fun q0 =>
 match q0 with
 | .inl q1 =>
  some q1
 | .inr q2 =>
  some q2.2
theorem zj (s : State) (path : List UInt8) (label : Int) (part part_' : (TupT fam [.st 1] → Option Int)) (h_part : ∀ a,Lo (part a) (part_' a)) : Lo (rg s path label part) (lw s path label part_'):=by
 unfold rg lw
 repeat' (first | with_reducible exact C5 _ | with_reducible exact uJ _ _ | with_reducible exact pS _ _ | with_reducible refine wA _ _ _ _ ?_ _ _ | exact h_part _ | with_reducible refine aw ?_ ?_ ?_ ?_ ?_ | with_reducible refine av ?_ ?_ ?_ ?_ | with_reducible refine ax ?_ ?_ ?_ | with_reducible refine aA ?_ ?_ | with_reducible refine aF ?_ ?_ | with_reducible refine aE ?_ _ | (intro _) | with_reducible exact aC _ | exact ah | (dsimp only))
def nI (c : Cap) : Option Int:=none
theorem rL (c : Cap) : Lo (nI c) (lv c):=ah
def qA (s : State) (path : List UInt8) (label : Int) : Option Vec :=
 (rg s path label (fun a' => nI a'.1)).bind fun x =>
 some x
theorem yo (s : State) (path : List UInt8) (label : Int) : Lo (qA s path label) (j9 s path label):=by
 unfold qA j9
 repeat' (first | with_reducible refine zj _ _ _ _ _ ?_ | with_reducible exact rL _ | with_reducible refine aw ?_ ?_ ?_ ?_ ?_ | with_reducible refine av ?_ ?_ ?_ ?_ | with_reducible refine ax ?_ ?_ ?_ | with_reducible refine aA ?_ ?_ | with_reducible refine aF ?_ ?_ | with_reducible refine aE ?_ _ | (intro _) | with_reducible exact aC _ | exact ah | (dsimp only))
def v7 (a : App) : Option Bool:=none
theorem A0 (a : App) : Lo (v7 a) (ml a):=ah
def pR (c : Conf) (path : List UInt8) (t : List (List UInt8) × Int) : Option ((List (List UInt8) × Int) ⊕ List (List UInt8)) :=
 bif decide (t.2 < (c.Queues.length : Int)) then
 (
  (idx c.Queues t.2).bind fun x =>
  (pb x.Path).bind fun x1 =>
  (
  bif x1.2 then
   some (x1.1 == path)
  else
   some false).bind fun q =>
  bif q then
  (app 16 t.1 [x.Path]).bind fun l =>
  some l
  else
  some t.1).bind fun out =>
 some (.inl (out,w64 (t.2 + 1)))
 else
 some (.inr t.1)
theorem xB (c : Conf) (path : List UInt8) (t : List (List UInt8) × Int) : Lo (pR c path t) (kM c path t):=by
 unfold pR kM
 repeat' (first | with_reducible exact ud _ | with_reducible refine aw ?_ ?_ ?_ ?_ ?_ | with_reducible refine av ?_ ?_ ?_ ?_ | with_reducible refine ax ?_ ?_ ?_ | with_reducible refine aA ?_ ?_ | with_reducible refine aF ?_ ?_ | with_reducible refine aE ?_ _ | (intro _) | with_reducible exact aC _ | exact ah | (dsimp only))
def su (c : Conf) (path : List UInt8) : Option (List (List UInt8)) :=
 (itr 4096 (pR c path) ([],0)).bind fun out1 =>
 some out1
theorem zU (c : Conf) (path : List UInt8) : Lo (su c path) (oy c path):=by
 unfold su oy
 repeat' (first | with_reducible exact xB _ _ _ | with_reducible refine aw ?_ ?_ ?_ ?_ ?_ | with_reducible refine av ?_ ?_ ?_ ?_ | with_reducible refine ax ?_ ?_ ?_ | with_reducible refine aA ?_ ?_ | with_reducible refine aF ?_ ?_ | with_reducible refine aE ?_ _ | (intro _) | with_reducible exact aC _ | exact ah | (dsimp only))
def ue (total : Int) (least : List Int) (want : List Int) (most : List Int) : Option (List Int):=none
theorem yg (total : Int) (least : List Int) (want : List Int) (most : List Int) : Lo (ue total least want most) (nG total least want most):=ah
def p7 (s : State) (label : Int) (deep : Int) (self : State → (List UInt8) → Int → Int → Int → Option (List Share)) (kids : List (List UInt8)) (x5 : List Int) (t1 : List Share × Int) : Option ((List Share × Int) ⊕ List Share):=none
theorem uk (s : State) (label : Int) (deep : Int) (self self_' : State → (List UInt8) → Int → Int → Int → Option (List Share)) (h_self : ∀ (a0 : State) (a1 : (List UInt8)) (a2 : Int) (a3 : Int) (a4 : Int),Lo (self a0 a1 a2 a3 a4) (self_' a0 a1 a2 a3 a4)) (kids : List (List UInt8)) (x5 : List Int) (t1 : List Share × Int) : Lo (p7 s label deep self kids x5 t1) (eR s label deep self_' kids x5 t1):=ah
def qq (s : State) (label : Int) (kids : List (List UInt8)) (t : Rows3_ListInt × Int) : Option ((Rows3_ListInt × Int) ⊕ Rows3_ListInt):=none
theorem uo (s : State) (label : Int) (kids : List (List UInt8)) (t : Rows3_ListInt × Int) : Lo (qq s label kids t) (iV s label kids t):=ah
def pd (self : State → (List UInt8) → Int → Int → Int → Option (List Share)) (s : State) (path : List UInt8) (label : Int) (mem : Int) (deep : Int) : Option (List Share) :=
 (su s.Conf path).bind fun kids =>
 (
 bif (kids.length : Int) == 0 then
  some true
 else
  some (decide (deep > 4))).bind fun q =>
 bif q then
 some [(⟨path,mem⟩ : Share)]
 else
 (mkl 8 (kids.length : Int) (kids.length : Int) 0).bind fun l =>
 (mkl 8 (kids.length : Int) (kids.length : Int) 0).bind fun l1 =>
 (mkl 8 (kids.length : Int) (kids.length : Int) 0).bind fun l2 =>
 (itr 4096 (qq s label kids) ((⟨l,l1,l2⟩ : Rows3_ListInt),0)).bind fun rows =>
 (ue mem rows.r0 rows.r1 rows.r2).bind fun x5 =>
 (itr 4096 (p7 s label deep self kids x5) ([],0)).bind fun out =>
 some out
theorem v9 (self self_' : State → (List UInt8) → Int → Int → Int → Option (List Share)) (h_self : ∀ (a0 : State) (a1 : (List UInt8)) (a2 : Int) (a3 : Int) (a4 : Int),Lo (self a0 a1 a2 a3 a4) (self_' a0 a1 a2 a3 a4)) (s : State) (path : List UInt8) (label : Int) (mem : Int) (deep : Int) : Lo (pd self s path label mem deep) (gK self_' s path label mem deep):=by
 unfold pd gK
 repeat' (first | with_reducible exact zU _ _ | with_reducible exact uo _ _ _ _ | with_reducible exact yg _ _ _ _ | with_reducible refine uk _ _ _ _ _ ?_ _ _ _ | with_reducible refine h_self _ _ _ _ _ | with_reducible refine aw ?_ ?_ ?_ ?_ ?_ | with_reducible refine av ?_ ?_ ?_ ?_ | with_reducible refine ax ?_ ?_ ?_ | with_reducible refine aA ?_ ?_ | with_reducible refine aF ?_ ?_ | with_reducible refine aE ?_ _ | (intro _) | with_reducible exact aC _ | exact ah | (dsimp only))
def md : Nat → State → (List UInt8) → Int → Int → Int → Option (List Share)
 | 0 => fun _ _ _ _ _ => none
 | n + 1 => pd (md n)
theorem rq : ∀ (n : Nat),∀ (a0 : State) (a1 : List UInt8) (a2 : Int) (a3 : Int) (a4 : Int),Lo (md n a0 a1 a2 a3 a4) (cg n a0 a1 a2 a3 a4)
 | 0 => fun _ _ _ _ _ => ah
 | n + 1 => fun a0 a1 a2 a3 a4 => v9 (md n) (cg n) (rq n) a0 a1 a2 a3 a4
def qv (a0 : State) (a1 : List UInt8) (a2 : Int) (a3 : Int) (a4 : Int) : Option (List Share):=md 64 a0 a1 a2 a3 a4
theorem yj (a0 : State) (a1 : List UInt8) (a2 : Int) (a3 : Int) (a4 : Int) : Lo (qv a0 a1 a2 a3 a4) (nF a0 a1 a2 a3 a4):=by
 unfold qv nF
 repeat' (first | with_reducible refine rq _ _ _ _ _ _ | with_reducible refine aw ?_ ?_ ?_ ?_ ?_ | with_reducible refine av ?_ ?_ ?_ ?_ | with_reducible refine ax ?_ ?_ ?_ | with_reducible refine aA ?_ ?_ | with_reducible refine aF ?_ ?_ | with_reducible refine aE ?_ _ | (intro _) | with_reducible exact aC _ | exact ah | (dsimp only))
def mP (s : State) (label : Int) : Option (List Share) :=
 (lM s label).bind fun x =>
 (qv s ([114,111,111,116] : List UInt8) label x.Mem 1).bind fun x1 =>
 some x1
theorem rV (s : State) (label : Int) : Lo (mP s label) (iP s label):=by
 unfold mP iP
 repeat' (first | with_reducible exact pS _ _ | with_reducible exact yj _ _ _ _ _ | with_reducible refine aw ?_ ?_ ?_ ?_ ?_ | with_reducible refine av ?_ ?_ ?_ ?_ | with_reducible refine ax ?_ ?_ ?_ | with_reducible refine aA ?_ ?_ | with_reducible refine aF ?_ ?_ | with_reducible refine aE ?_ _ | (intro _) | with_reducible exact aC _ | exact ah | (dsimp only))
def zi (s : State) (id_ : Int) : Option Int:=none
theorem C7 (s : State) (id_ : Int) : Lo (zi s id_) (pO s id_):=ah
def xn (a : App) : Option App:=none
theorem BM (a : App) : Lo (xn a) (pQ a):=ah
def vO (s : State) (id_ : Int) : Option (App × Bool):=none
theorem AY (s : State) (id_ : Int) : Lo (vO s id_) (qe s id_):=ah
def nf (s : State) (label : Int) (t1 : Looker × Int) : Option ((Looker × Int) ⊕ Looker) :=
 bif decide (t1.2 < (s.Conts.length : Int)) then
 (
  (idx s.Conts t1.2).bind fun x4 =>
  bif x4.Label != label then
  some t1.1
  else
  (vO s x4.App).bind fun x5 =>
  bif x4.Notice != 0 then
   (ju (⟨⟨⟨t1.1.s.Conf.Labels,t1.1.s.Conf.Queues⟩,t1.1.s.Nodes,t1.1.s.Apps,t1.1.s.Conts,t1.1.s.Slots,t1.1.s.Plans,t1.1.s.Now,t1.1.s.Epoch,t1.1.s.Seq⟩,t1.1.label,t1.1.over,mput (fun x6 => x4.Id == x6.k) t1.1.leaf (⟨x4.Id,x5.1.Queue⟩ : Ent2_IntListUInt8),t1.1.noticed,t1.1.gone⟩ : Looker) x4).bind fun x7 =>
   some x7
  else
   some (⟨⟨⟨t1.1.s.Conf.Labels,t1.1.s.Conf.Queues⟩,t1.1.s.Nodes,t1.1.s.Apps,t1.1.s.Conts,t1.1.s.Slots,t1.1.s.Plans,t1.1.s.Now,t1.1.s.Epoch,t1.1.s.Seq⟩,t1.1.label,t1.1.over,mput (fun x6 => x4.Id == x6.k) t1.1.leaf (⟨x4.Id,x5.1.Queue⟩ : Ent2_IntListUInt8),t1.1.noticed,t1.1.gone⟩ : Looker)).bind fun k1 =>
 some (.inl (k1,w64 (t1.2 + 1)))
 else
 some (.inr t1.1)
theorem uK (s : State) (label : Int) (t1 : Looker × Int) : Lo (nf s label t1) (gA s label t1):=by
 unfold nf gA
 repeat' (first | with_reducible exact AY _ _ | with_reducible exact mK _ _ | with_reducible refine aw ?_ ?_ ?_ ?_ ?_ | with_reducible refine av ?_ ?_ ?_ ?_ | with_reducible refine ax ?_ ?_ ?_ | with_reducible refine aA ?_ ?_ | with_reducible refine aF ?_ ?_ | with_reducible refine aE ?_ _ | (intro _) | with_reducible exact aC _ | exact ah | (dsimp only))
def ni (s : State) (label : Int) (x : List Share) (t : Looker × Int) : Option ((Looker × Int) ⊕ Looker) :=
 bif decide (t.2 < (x.length : Int)) then
 (inb t.2 x.length).bind fun i =>
 (x[i]?).bind fun x1 =>
 (mJ s x1.Path label).bind fun x2 =>
 some (.inl ((⟨⟨⟨t.1.s.Conf.Labels,t.1.s.Conf.Queues⟩,t.1.s.Nodes,t.1.s.Apps,t.1.s.Conts,t.1.s.Slots,t.1.s.Plans,t.1.s.Now,t.1.s.Epoch,t.1.s.Seq⟩,t.1.label,mput (fun x3 => x1.Path == x3.k) t.1.over (⟨x1.Path,w64 (x2.Mem - x1.Mem)⟩ : Ent0_ListUInt8Int),t.1.leaf,t.1.noticed,t.1.gone⟩ : Looker),w64 (t.2 + 1)))
 else
 some (.inr t.1)
theorem u_ (s : State) (label : Int) (x : List Share) (t : Looker × Int) : Lo (ni s label x t) (fW s label x t):=by
 unfold ni fW
 repeat' (first | with_reducible exact qw _ _ _ | with_reducible refine aw ?_ ?_ ?_ ?_ ?_ | with_reducible refine av ?_ ?_ ?_ ?_ | with_reducible refine ax ?_ ?_ ?_ | with_reducible refine aA ?_ ?_ | with_reducible refine aF ?_ ?_ | with_reducible refine aE ?_ _ | (intro _) | with_reducible exact aC _ | exact ah | (dsimp only))
def pE (s : State) (label : Int) : Option Looker :=
 (mP s label).bind fun x =>
 (itr 4096 (ni s label x) ((⟨⟨⟨s.Conf.Labels,s.Conf.Queues⟩,s.Nodes,s.Apps,s.Conts,s.Slots,s.Plans,s.Now,s.Epoch,s.Seq⟩,label,[],[],[],0⟩ : Looker),0)).bind fun k =>
 (itr 4096 (nf s label) (k,0)).bind fun k2 =>
 some k2
theorem xA (s : State) (label : Int) : Lo (pE s label) (kJ s label):=by
 unfold pE kJ
 repeat' (first | with_reducible exact rV _ _ | with_reducible exact u_ _ _ _ _ | with_reducible exact uK _ _ _ | with_reducible refine aw ?_ ?_ ?_ ?_ ?_ | with_reducible refine av ?_ ?_ ?_ ?_ | with_reducible refine ax ?_ ?_ ?_ | with_reducible refine aA ?_ ?_ | with_reducible refine aF ?_ ?_ | with_reducible refine aE ?_ _ | (intro _) | with_reducible exact aC _ | exact ah | (dsimp only))
def l_ (k : Looker) (path : List UInt8) (x : Vec) (x1 : Vec) (x2 : App) (t1 : Int) : Option (Int ⊕ (Int ⊕ Unit)):=none
theorem qu (k : Looker) (path : List UInt8) (x : Vec) (x1 : Vec) (x2 : App) (t1 : Int) : Lo (l_ k path x x1 x2 t1) (ct k path x x1 x2 t1):=ah
def hZ (k : Looker) (path : List UInt8) (x : Vec) (x1 : Vec) (t : Int) : Option (Int ⊕ (Int ⊕ Unit)) :=
 bif decide (t < (k.s.Apps.length : Int)) then
 (
  (idx k.s.Apps t).bind fun x2 =>
  (
  (v7 x2).bind fun x3 =>
  bif ! x3 then
   some true
  else
   some (! (x2.Queue == path))).bind fun q =>
  bif q then
  some (.inl ())
  else
  (itr 4096 (l_ k path x x1 x2) 0).bind fun q0 =>
  match q0 with
  | .inl q2 =>
   some (.inr q2)
  | .inr _ =>
   some (.inl ()) : Option (Unit ⊕ Int)).bind fun q0 =>
 match q0 with
 | .inl _ =>
  some (.inl (w64 (t + 1)))
 | .inr q3 =>
  some (.inr (.inl q3))
 else
 some (.inr (.inr ()))
theorem qt (k : Looker) (path : List UInt8) (x : Vec) (x1 : Vec) (t : Int) : Lo (hZ k path x x1 t) (cv k path x x1 t):=by
 unfold hZ cv
 repeat' (first | with_reducible exact A0 _ | with_reducible exact qu _ _ _ _ _ _ | with_reducible refine aw ?_ ?_ ?_ ?_ ?_ | with_reducible refine av ?_ ?_ ?_ ?_ | with_reducible refine ax ?_ ?_ ?_ | with_reducible refine aA ?_ ?_ | with_reducible refine aF ?_ ?_ | with_reducible refine aE ?_ _ | (intro _) | with_reducible exact aC _ | exact ah | (dsimp only))
def kf (k : Looker) (path : List UInt8) : Option (Int × Looker) :=
 (mJ k.s path k.label).bind fun x =>
 (qA k.s path k.label).bind fun x1 =>
 (itr 4096 (hZ k path x x1) 0).bind fun q0 =>
 match q0 with
 | .inl q4 =>
 some (q4,k)
 | .inr _ =>
 some (0,k)
theorem rI (k : Looker) (path : List UInt8) : Lo (kf k path) (co k path):=by
 unfold kf co
 repeat' (first | with_reducible exact qw _ _ _ | with_reducible exact yo _ _ _ | with_reducible exact qt _ _ _ _ _ | with_reducible refine aw ?_ ?_ ?_ ?_ ?_ | with_reducible refine av ?_ ?_ ?_ ?_ | with_reducible refine ax ?_ ?_ ?_ | with_reducible refine aA ?_ ?_ | with_reducible refine aF ?_ ?_ | with_reducible refine aE ?_ _ | (intro _) | with_reducible exact aC _ | exact ah | (dsimp only))
def iS (x : List Share) (t : Looker × Int × Int) : Option ((Looker × Int × Int) ⊕ ((Looker × Int))) :=
 bif decide (t.2.2 < (x.length : Int)) then
 (inb t.2.2 x.length).bind fun i =>
 (x[i]?).bind fun x1 =>
 (kf t.1 x1.Path).bind fun x2 =>
 let sum:=w64 (t.2.1 + x2.1)
 some (.inl (x2.2,sum,w64 (t.2.2 + 1)))
 else
 some (.inr (t.1,t.2.1))
theorem qJ (x : List Share) (t : Looker × Int × Int) : Lo (iS x t) (bT x t):=by
 unfold iS bT
 repeat' (first | with_reducible exact rI _ _ | with_reducible refine aw ?_ ?_ ?_ ?_ ?_ | with_reducible refine av ?_ ?_ ?_ ?_ | with_reducible refine ax ?_ ?_ ?_ | with_reducible refine aA ?_ ?_ | with_reducible refine aF ?_ ?_ | with_reducible refine aE ?_ _ | (intro _) | with_reducible exact aC _ | exact ah | (dsimp only))
def kO (k : Looker) : Option (Int × Looker) :=
 (mP k.s k.label).bind fun x =>
 (itr 4096 (iS x) (k,0,0)).bind fun q =>
 (lM q.1.s q.1.label).bind fun x3 =>
 (mJ q.1.s ([114,111,111,116] : List UInt8) q.1.label).bind fun x4 =>
 some (w64 (q.2 - (imax (w64 (x3.Mem - x4.Mem)) 0)),q.1)
theorem sC (k : Looker) : Lo (kO k) (cK k):=by
 unfold kO cK
 repeat' (first | with_reducible exact rV _ _ | with_reducible exact qJ _ _ | with_reducible exact pS _ _ | with_reducible exact qw _ _ _ | with_reducible refine aw ?_ ?_ ?_ ?_ ?_ | with_reducible refine av ?_ ?_ ?_ ?_ | with_reducible refine ax ?_ ?_ ?_ | with_reducible refine aA ?_ ?_ | with_reducible refine aF ?_ ?_ | with_reducible refine aE ?_ _ | (intro _) | with_reducible exact aC _ | exact ah | (dsimp only))
def oh (k : Looker) : Option (Cont × Bool × Looker):=none
theorem sH (k : Looker) : Lo (oh k) (eG k):=ah
def np (need : Int × Looker) (t : Looker × List Int) : Option ((Looker × List Int) ⊕ List Int) :=
 bif decide (t.1.gone < need.1) then
 (oh t.1).bind fun x =>
 bif ! x.2.1 then
  some (.inr t.2)
 else
  (ju x.2.2 x.1).bind fun x1 =>
  (app 8 t.2 [x.1.Id]).bind fun l =>
  some (.inl (x1,l))
 else
 some (.inr t.2)
theorem vj (need : Int × Looker) (t : Looker × List Int) : Lo (np need t) (ma need t):=by
 unfold np ma
 repeat' (first | with_reducible exact sH _ | with_reducible exact mK _ _ | with_reducible refine aw ?_ ?_ ?_ ?_ ?_ | with_reducible refine av ?_ ?_ ?_ ?_ | with_reducible refine ax ?_ ?_ ?_ | with_reducible refine aA ?_ ?_ | with_reducible refine aF ?_ ?_ | with_reducible refine aE ?_ _ | (intro _) | with_reducible exact aC _ | exact ah | (dsimp only))
def mS (s : State) (label : Int) : Option (List Int) :=
 (pE s label).bind fun k =>
 (kO k).bind fun need =>
 (itr 4096 (np need) (need.2,[])).bind fun out =>
 some out
theorem rP (s : State) (label : Int) : Lo (mS s label) (fM s label):=by
 unfold mS fM
 repeat' (first | with_reducible exact xA _ _ | with_reducible exact sC _ | with_reducible exact vj _ _ | with_reducible refine aw ?_ ?_ ?_ ?_ ?_ | with_reducible refine av ?_ ?_ ?_ ?_ | with_reducible refine ax ?_ ?_ ?_ | with_reducible refine aA ?_ ?_ | with_reducible refine aF ?_ ?_ | with_reducible refine aE ?_ _ | (intro _) | with_reducible exact aC _ | exact ah | (dsimp only))
def sm (s : List Cont) (f : (TupT fam [.st 7] → Option Bool)) : Option Int:=none
theorem uq (s : List Cont) (f f_' : (TupT fam [.st 7] → Option Bool)) (h_f : ∀ a,Lo (f a) (f_' a)) : Lo (sm s f) (qr s f_'):=ah
def mb (s : List Cont) : Option (List Cont):=app 72 [] s
theorem ri (s : List Cont) : Lo (mb s) (lK s):=by
 unfold mb lK
 repeat' (first | with_reducible refine aw ?_ ?_ ?_ ?_ ?_ | with_reducible refine av ?_ ?_ ?_ ?_ | with_reducible refine ax ?_ ?_ ?_ | with_reducible refine aA ?_ ?_ | with_reducible refine aF ?_ ?_ | with_reducible refine aE ?_ _ | (intro _) | with_reducible exact aC _ | exact ah | (dsimp only))
def dC (s : List (List UInt8)) : Option (List (List UInt8)):=app 16 [] s
theorem nQ (s : List (List UInt8)) : Lo (dC s) (b_ s):=by
 unfold dC b_
 repeat' (first | with_reducible refine aw ?_ ?_ ?_ ?_ ?_ | with_reducible refine av ?_ ?_ ?_ ?_ | with_reducible refine ax ?_ ?_ ?_ | with_reducible refine aA ?_ ?_ | with_reducible refine aF ?_ ?_ | with_reducible refine aE ?_ _ | (intro _) | with_reducible exact aC _ | exact ah | (dsimp only))
def nS (s : List Queue) : Option (List Queue):=app 48 [] s
theorem vK (s : List Queue) : Lo (nS s) (mN s):=by
 unfold nS mN
 repeat' (first | with_reducible refine aw ?_ ?_ ?_ ?_ ?_ | with_reducible refine av ?_ ?_ ?_ ?_ | with_reducible refine ax ?_ ?_ ?_ | with_reducible refine aA ?_ ?_ | with_reducible refine aF ?_ ?_ | with_reducible refine aE ?_ _ | (intro _) | with_reducible exact aC _ | exact ah | (dsimp only))
def sI (s : List Node) : Option (List Node):=app 64 [] s
theorem At (s : List Node) : Lo (sI s) (sg s):=by
 unfold sI sg
 repeat' (first | with_reducible refine aw ?_ ?_ ?_ ?_ ?_ | with_reducible refine av ?_ ?_ ?_ ?_ | with_reducible refine ax ?_ ?_ ?_ | with_reducible refine aA ?_ ?_ | with_reducible refine aF ?_ ?_ | with_reducible refine aE ?_ _ | (intro _) | with_reducible exact aC _ | exact ah | (dsimp only))
def sB (s : List Slot) : Option (List Slot):=app 24 [] s
theorem Az (s : List Slot) : Lo (sB s) (rX s):=by
 unfold sB rX
 repeat' (first | with_reducible refine aw ?_ ?_ ?_ ?_ ?_ | with_reducible refine av ?_ ?_ ?_ ?_ | with_reducible refine ax ?_ ?_ ?_ | with_reducible refine aA ?_ ?_ | with_reducible refine aF ?_ ?_ | with_reducible refine aE ?_ _ | (intro _) | with_reducible exact aC _ | exact ah | (dsimp only))
def sD (s : List Plan) : Option (List Plan):=app 48 [] s
theorem AU (s : List Plan) : Lo (sD s) (r6 s):=by
 unfold sD r6
 repeat' (first | with_reducible refine aw ?_ ?_ ?_ ?_ ?_ | with_reducible refine av ?_ ?_ ?_ ?_ | with_reducible refine ax ?_ ?_ ?_ | with_reducible refine aA ?_ ?_ | with_reducible refine aF ?_ ?_ | with_reducible refine aE ?_ _ | (intro _) | with_reducible exact aC _ | exact ah | (dsimp only))
def pJ (s : List App) : Option (List App):=app 200 [] s
theorem xv (s : List App) : Lo (pJ s) (oI s):=by
 unfold pJ oI
 repeat' (first | with_reducible refine aw ?_ ?_ ?_ ?_ ?_ | with_reducible refine av ?_ ?_ ?_ ?_ | with_reducible refine ax ?_ ?_ ?_ | with_reducible refine aA ?_ ?_ | with_reducible refine aF ?_ ?_ | with_reducible refine aE ?_ _ | (intro _) | with_reducible exact aC _ | exact ah | (dsimp only))
def qy (x9 : List App) (t1 : List App × Int) : Option ((List App × Int) ⊕ List App) :=
 bif decide (t1.2 < (x9.length : Int)) then
 (inb t1.2 t1.1.length).bind fun i2 =>
 (t1.1[i2]?).bind fun x10 =>
 (xn x10).bind fun x11 =>
 (inb t1.2 t1.1.length).bind fun i3 =>
 (t1.1[i3]?).bind fun x12 =>
 some (.inl (List.set t1.1 i3 x11,w64 (t1.2 + 1)))
 else
 some (.inr t1.1)
theorem yq (x9 : List App) (t1 : List App × Int) : Lo (qy x9 t1) (sA x9 t1):=by
 unfold qy sA
 repeat' (first | with_reducible exact BM _ | with_reducible refine aw ?_ ?_ ?_ ?_ ?_ | with_reducible refine av ?_ ?_ ?_ ?_ | with_reducible refine ax ?_ ?_ ?_ | with_reducible refine aA ?_ ?_ | with_reducible refine aF ?_ ?_ | with_reducible refine aE ?_ _ | (intro _) | with_reducible exact aC _ | exact ah | (dsimp only))
def qx (x1 : List Queue) (t : List Queue × Int) : Option ((List Queue × Int) ⊕ List Queue) :=
 bif decide (t.2 < (x1.length : Int)) then
 (inb t.2 t.1.length).bind fun i =>
 (t.1[i]?).bind fun x2 =>
 (qD x2.Caps).bind fun x3 =>
 (inb t.2 t.1.length).bind fun i1 =>
 (t.1[i1]?).bind fun x4 =>
 some (.inl (List.set t.1 i1 (⟨x4.Path,x3,x4.User⟩ : Queue),w64 (t.2 + 1)))
 else
 some (.inr t.1)
theorem yp (x1 : List Queue) (t : List Queue × Int) : Lo (qx x1 t) (sx x1 t):=by
 unfold qx sx
 repeat' (first | with_reducible exact vT _ | with_reducible refine aw ?_ ?_ ?_ ?_ ?_ | with_reducible refine av ?_ ?_ ?_ ?_ | with_reducible refine ax ?_ ?_ ?_ | with_reducible refine aA ?_ ?_ | with_reducible refine aF ?_ ?_ | with_reducible refine aE ?_ _ | (intro _) | with_reducible exact aC _ | exact ah | (dsimp only))
def qL (s : State) : Option State :=
 (dC s.Conf.Labels).bind fun x =>
 (nS s.Conf.Queues).bind fun x1 =>
 (itr 4096 (qx x1) (x1,0)).bind fun q =>
 (sI s.Nodes).bind fun x5 =>
 (mb s.Conts).bind fun x6 =>
 (sB s.Slots).bind fun x7 =>
 (sD s.Plans).bind fun x8 =>
 (pJ s.Apps).bind fun x9 =>
 (itr 4096 (qy x9) (x9,0)).bind fun q1 =>
 some (⟨⟨x,q⟩,x5,q1,x6,x7,x8,s.Now,s.Epoch,s.Seq⟩ : State)
theorem Bu (s : State) : Lo (qL s) (ro s):=by
 unfold qL ro
 repeat' (first | with_reducible exact nQ _ | with_reducible exact vK _ | with_reducible exact yp _ _ | with_reducible exact At _ | with_reducible exact ri _ | with_reducible exact Az _ | with_reducible exact AU _ | with_reducible exact xv _ | with_reducible exact yq _ _ | with_reducible refine aw ?_ ?_ ?_ ?_ ?_ | with_reducible refine av ?_ ?_ ?_ ?_ | with_reducible refine ax ?_ ?_ ?_ | with_reducible refine aA ?_ ?_ | with_reducible refine aF ?_ ?_ | with_reducible refine aE ?_ _ | (intro _) | with_reducible exact aC _ | exact ah | (dsimp only))
def uf (c : Cont) (p : Int) : Option Bool:=none
theorem xL (c : Cont) (p : Int) : Lo (uf c p) (sE c p):=ah
def pH (ids : List Int) (x : State) (t : Int) : Option (Int ⊕ Unit) :=
 bif decide (t < (ids.length : Int)) then
 (idx ids t).bind fun x1 =>
 (sm x.Conts (fun a' => uf a'.1 x1)).bind fun k =>
 bif decide (k < 0) then
  some (.inl (w64 (t + 1)))
 else
  (inb k x.Conts.length).bind fun i =>
  (x.Conts[i]?).bind fun x2 =>
  (zi x x2.App).bind fun i1 =>
  (
  bif decide (i1 ≥ 0) then
   some x2.Master
  else
   some false).bind fun q =>
  bif q then
  none
  else
  none
 else
 some (.inr ())
theorem xi (ids : List Int) (x : State) (t : Int) : Lo (pH ids x t) (rF ids x t):=by
 unfold pH rF
 repeat' (first | with_reducible refine uq _ _ _ ?_ | with_reducible exact xL _ _ | with_reducible exact C7 _ _ | with_reducible refine aw ?_ ?_ ?_ ?_ ?_ | with_reducible refine av ?_ ?_ ?_ ?_ | with_reducible refine ax ?_ ?_ ?_ | with_reducible refine aA ?_ ?_ | with_reducible refine aF ?_ ?_ | with_reducible refine aE ?_ _ | (intro _) | with_reducible exact aC _ | exact ah | (dsimp only))
def sn (s : State) (ids : List Int) : Option State :=
 (qL s).bind fun x =>
 (itr 4096 (pH ids x) 0).bind fun _ =>
 (qL x).bind fun x3 =>
 some x3
theorem z8 (s : State) (ids : List Int) : Lo (sn s ids) (r8 s ids):=by
 unfold sn r8
 repeat' (first | with_reducible exact Bu _ | with_reducible exact xi _ _ _ | with_reducible refine aw ?_ ?_ ?_ ?_ ?_ | with_reducible refine av ?_ ?_ ?_ ?_ | with_reducible refine ax ?_ ?_ ?_ | with_reducible refine aA ?_ ?_ | with_reducible refine aF ?_ ?_ | with_reducible refine aE ?_ _ | (intro _) | with_reducible exact aC _ | exact ah | (dsimp only))
def pv (s : State) (label : Int) : Option State :=
 (mb s.Conts).bind fun x =>
 bif x.isEmpty then
 some s
 else
 none
theorem wM (s : State) (label : Int) : Lo (pv s label) (o9 s label):=by
 unfold pv o9
 repeat' (first | with_reducible exact ri _ | with_reducible refine aw ?_ ?_ ?_ ?_ ?_ | with_reducible refine av ?_ ?_ ?_ ?_ | with_reducible refine ax ?_ ?_ ?_ | with_reducible refine aA ?_ ?_ | with_reducible refine aF ?_ ?_ | with_reducible refine aE ?_ _ | (intro _) | with_reducible exact aC _ | exact ah | (dsimp only))
def qC (x : Cont) (p : Int) : Option Bool:=none
theorem vh (x : Cont) (p : Int) : Lo (qC x p) (oT x p):=ah
def sZ (s : List Cont) (f : (TupT fam [.st 7] → Option Bool)) : Option Bool:=none
theorem wY (s : List Cont) (f f_' : (TupT fam [.st 7] → Option Bool)) (h_f : ∀ a,Lo (f a) (f_' a)) : Lo (sZ s f) (ra s f_'):=ah
def qB (x : Cont) (p : Cont) : Option Bool:=none
theorem vi (x : Cont) (p : Cont) : Lo (qB x p) (o_ x p):=ah
def rT (x : Int) (y : Int) : Option Bool:=none
theorem wC (x : Int) (y : Int) : Lo (rT x y) (aX x y):=ah
def eX (a : Int) (t1 : List Int × Int) : Option ((List Int × Int) ⊕ List Int):=none
theorem l8 (a : Int) (t1 : List Int × Int) : Lo (eX a t1) (gm a t1):=ah
def b8 (a : Int) (b : Int) (t : List Int × Int) : Option ((List Int × Int) ⊕ List Int) :=
 bif decide (t.2 < b) then
 (itr 4096 (eX a) (t.1,t.2)).bind fun data1 =>
 some (.inl (data1,w64 (t.2 + 1)))
 else
 some (.inr t.1)
theorem lX (a : Int) (b : Int) (t : List Int × Int) : Lo (b8 a b t) (cm a b t):=by
 unfold b8 cm
 repeat' (first | with_reducible exact l8 _ _ | with_reducible refine aw ?_ ?_ ?_ ?_ ?_ | with_reducible refine av ?_ ?_ ?_ ?_ | with_reducible refine ax ?_ ?_ ?_ | with_reducible refine aA ?_ ?_ | with_reducible refine aF ?_ ?_ | with_reducible refine aE ?_ _ | (intro _) | with_reducible exact aC _ | exact ah | (dsimp only))
def cD (data : List Int) (a : Int) (b : Int) : Option (List Int) :=
 (itr 4096 (b8 a b) (data,w64 (a + 1))).bind fun data2 =>
 some data2
theorem m6 (data : List Int) (a : Int) (b : Int) : Lo (cD data a b) (bO data a b):=by
 unfold cD bO
 repeat' (first | with_reducible exact lX _ _ _ | with_reducible refine aw ?_ ?_ ?_ ?_ ?_ | with_reducible refine av ?_ ?_ ?_ ?_ | with_reducible refine ax ?_ ?_ ?_ | with_reducible refine aA ?_ ?_ | with_reducible refine aF ?_ ?_ | with_reducible refine aE ?_ _ | (intro _) | with_reducible exact aC _ | exact ah | (dsimp only))
def kj (data : List Int) (a : Int) (b : Int) : Option (List Int):=none
theorem pe (data : List Int) (a : Int) (b : Int) : Lo (kj data a b) (ft data a b):=ah
def tC (x : Int) : Option Int :=
 (rE x).bind fun x1 =>
 some x1
theorem Bq (x : Int) : Lo (tC x) (rf x):=by
 unfold tC rf
 repeat' (first | with_reducible exact zo _ | with_reducible refine aw ?_ ?_ ?_ ?_ ?_ | with_reducible refine av ?_ ?_ ?_ ?_ | with_reducible refine ax ?_ ?_ ?_ | with_reducible refine aA ?_ ?_ | with_reducible refine aF ?_ ?_ | with_reducible refine aE ?_ _ | (intro _) | with_reducible exact aC _ | exact ah | (dsimp only))
def gO (data : List Int) (a : Int) (b : Int) : Option (List Int):=none
theorem m9 (data : List Int) (a : Int) (b : Int) : Lo (gO data a b) (c9 data a b):=ah
def iN (data : List Int) (a : Int) (b : Int) : Option (Int × Int):=none
theorem nD (data : List Int) (a : Int) (b : Int) : Lo (iN data a b) (dS data a b):=ah
def iD (data : List Int) (a : Int) (b : Int) : Option (List Int):=none
theorem m_ (data : List Int) (a : Int) (b : Int) : Lo (iD data a b) (dB data a b):=ah
def dD (data : List Int) (a : Int) (b : Int) : Option (Bool × List Int):=none
theorem kV (data : List Int) (a : Int) (b : Int) : Lo (dD data a b) (bR data a b):=ah
def gx (data : List Int) (a : Int) (b : Int) (pivot : Int) : Option (Int × List Int):=none
theorem mF (data : List Int) (a : Int) (b : Int) (pivot : Int) : Lo (gx data a b pivot) (cQ data a b pivot):=ah
def jL (data : List Int) (a : Int) (b : Int) (pivot : Int) : Option (Int × Bool × List Int):=none
theorem oD (data : List Int) (a : Int) (b : Int) (pivot : Int) : Lo (jL data a b pivot) (eS data a b pivot):=ah
def cR (self : (List Int) → Int → Int → Int → Option (List Int)) (t : List Int × Int × Int × Int × Bool × Bool) : Option ((List Int × Int × Int × Int × Bool × Bool) ⊕ List Int) :=
 let length:=w64 (t.2.2.1 - t.2.1)
 bif decide (length ≤ 12) then
 (cD t.1 t.2.1 t.2.2.1).bind fun x =>
 some (.inr x)
 else
 bif t.2.2.2.1 == 0 then
  (kj t.1 t.2.1 t.2.2.1).bind fun x1 =>
  some (.inr x1)
 else
  (
  bif ! t.2.2.2.2.1 then
   (gO t.1 t.2.1 t.2.2.1).bind fun x2 =>
   some (x2,w64 (t.2.2.2.1 - 1))
  else
   some (t.1,t.2.2.2.1)).bind fun q =>
  (iN q.1 t.2.1 t.2.2.1).bind fun x3 =>
  (
  bif x3.2 == 2 then
   (iD q.1 t.2.1 t.2.2.1).bind fun x4 =>
   let pivot:=w64 ((w64 (t.2.2.1 - 1)) - (w64 (x3.1 - t.2.1)))
   some (x4,pivot,1)
  else
   some (q.1,x3.1,x3.2)).bind fun q1 =>
  (
  (
   bif t.2.2.2.2.1 then
   bif t.2.2.2.2.2 then
    some (q1.2.2 == 1)
   else
    some false
   else
   some false).bind fun q2 =>
  bif q2 then
   (dD q1.1 t.2.1 t.2.2.1).bind fun x5 =>
   bif x5.1 then
   some (.inr (x5.2))
   else
   some (.inl (x5.2))
  else
   some (.inl (q1.1)) : Option (List Int ⊕ List Int)).bind fun q0 =>
  match q0 with
  | .inl data1 =>
  (
   bif decide (t.2.1 > 0) then
   (inb (w64 (t.2.1 - 1)) data1.length).bind fun i =>
   (data1[i]?).bind fun x6 =>
   (inb q1.2.1 data1.length).bind fun i1 =>
   (data1[i1]?).bind fun x7 =>
   (rT x6 x7).bind fun x8 =>
   some (! x8)
   else
   some false).bind fun q3 =>
  bif q3 then
   (gx data1 t.2.1 t.2.2.1 q1.2.1).bind fun mid =>
   some (.inl (mid.2,mid.1,t.2.2.1,q.2,t.2.2.2.2.1,t.2.2.2.2.2))
  else
   (jL data1 t.2.1 t.2.2.1 q1.2.1).bind fun x9 =>
   let leftLen:=w64 (x9.1 - t.2.1)
   let rightLen:=w64 (t.2.2.1 - x9.1)
   bif decide (leftLen < rightLen) then
   let wasBalanced:=decide (leftLen ≥ (w64 (Int.tdiv length 8)))
   (self x9.2.2 t.2.1 x9.1 q.2).bind fun x10 =>
   some (.inl (x10,w64 (x9.1 + 1),t.2.2.1,q.2,wasBalanced,x9.2.1))
   else
   let wasBalanced1:=decide (rightLen ≥ (w64 (Int.tdiv length 8)))
   (self x9.2.2 (w64 (x9.1 + 1)) t.2.2.1 q.2).bind fun x11 =>
   some (.inl (x11,t.2.1,x9.1,q.2,wasBalanced1,x9.2.1))
  | .inr data2 =>
  some (.inr data2)
theorem nh (self self_' : (List Int) → Int → Int → Int → Option (List Int)) (h_self : ∀ (a0 : (List Int)) (a1 : Int) (a2 : Int) (a3 : Int),Lo (self a0 a1 a2 a3) (self_' a0 a1 a2 a3)) (t : List Int × Int × Int × Int × Bool × Bool) : Lo (cR self t) (dA self_' t):=by
 unfold cR dA
 repeat' (first | with_reducible exact m6 _ _ _ | with_reducible exact pe _ _ _ | with_reducible exact m9 _ _ _ | with_reducible exact nD _ _ _ | with_reducible exact m_ _ _ _ | with_reducible exact kV _ _ _ | with_reducible exact wC _ _ | with_reducible exact mF _ _ _ _ | with_reducible exact oD _ _ _ _ | with_reducible refine h_self _ _ _ _ | with_reducible refine aw ?_ ?_ ?_ ?_ ?_ | with_reducible refine av ?_ ?_ ?_ ?_ | with_reducible refine ax ?_ ?_ ?_ | with_reducible refine aA ?_ ?_ | with_reducible refine aF ?_ ?_ | with_reducible refine aE ?_ _ | (intro _) | with_reducible exact aC _ | exact ah | (dsimp only))
def dT (self : (List Int) → Int → Int → Int → Option (List Int)) (data : List Int) (a : Int) (b : Int) (limit : Int) : Option (List Int) :=
 (itr 4096 (cR self) (data,a,b,limit,true,true)).bind fun data3 =>
 some data3
theorem oG (self self_' : (List Int) → Int → Int → Int → Option (List Int)) (h_self : ∀ (a0 : (List Int)) (a1 : Int) (a2 : Int) (a3 : Int),Lo (self a0 a1 a2 a3) (self_' a0 a1 a2 a3)) (data : List Int) (a : Int) (b : Int) (limit : Int) : Lo (dT self data a b limit) (eM self_' data a b limit):=by
 unfold dT eM
 repeat' (first | with_reducible refine nh _ _ ?_ _ | with_reducible refine h_self _ _ _ _ | with_reducible refine aw ?_ ?_ ?_ ?_ ?_ | with_reducible refine av ?_ ?_ ?_ ?_ | with_reducible refine ax ?_ ?_ ?_ | with_reducible refine aA ?_ ?_ | with_reducible refine aF ?_ ?_ | with_reducible refine aE ?_ _ | (intro _) | with_reducible exact aC _ | exact ah | (dsimp only))
def b6 : Nat → (List Int) → Int → Int → Int → Option (List Int)
 | 0 => fun _ _ _ _ => none
 | n + 1 => dT (b6 n)
theorem jo : ∀ (n : Nat),∀ (a0 : List Int) (a1 : Int) (a2 : Int) (a3 : Int),Lo (b6 n a0 a1 a2 a3) (bE n a0 a1 a2 a3)
 | 0 => fun _ _ _ _ => ah
 | n + 1 => fun a0 a1 a2 a3 => oG (b6 n) (bE n) (jo n) a0 a1 a2 a3
def eK (a0 : List Int) (a1 : Int) (a2 : Int) (a3 : Int) : Option (List Int):=b6 64 a0 a1 a2 a3
theorem pj (a0 : List Int) (a1 : Int) (a2 : Int) (a3 : Int) : Lo (eK a0 a1 a2 a3) (cY a0 a1 a2 a3):=by
 unfold eK cY
 repeat' (first | with_reducible refine jo _ _ _ _ _ | with_reducible refine aw ?_ ?_ ?_ ?_ ?_ | with_reducible refine av ?_ ?_ ?_ ?_ | with_reducible refine ax ?_ ?_ ?_ | with_reducible refine aA ?_ ?_ | with_reducible refine aF ?_ ?_ | with_reducible refine aE ?_ _ | (intro _) | with_reducible exact aC _ | exact ah | (dsimp only))
def iT (x : List Int) : Option (List Int) :=
 (tC (IntKind.u64.wrap (x.length : Int))).bind fun x1 =>
 (eK x 0 (x.length : Int) x1).bind fun x2 =>
 some x2
theorem qK (x : List Int) : Lo (iT x) (fa x):=by
 unfold iT fa
 repeat' (first | with_reducible exact Bq _ | with_reducible exact pj _ _ _ _ | with_reducible refine aw ?_ ?_ ?_ ?_ ?_ | with_reducible refine av ?_ ?_ ?_ ?_ | with_reducible refine ax ?_ ?_ ?_ | with_reducible refine aA ?_ ?_ | with_reducible refine aF ?_ ?_ | with_reducible refine aE ?_ _ | (intro _) | with_reducible exact aC _ | exact ah | (dsimp only))
def mr (s : State) (t2 : State) (t3 : List Int × Int) : Option ((List Int × Int) ⊕ List Int) :=
 bif decide (t3.2 < (s.Conts.length : Int)) then
 (
  (idx s.Conts t3.2).bind fun x5 =>
  (sZ t2.Conts (fun a' => qB a'.1 x5)).bind fun x6 =>
  bif ! x6 then
  (app 8 t3.1 [x5.Id]).bind fun l =>
  some l
  else
  some t3.1).bind fun gone =>
 some (.inl (gone,w64 (t3.2 + 1)))
 else
 some (.inr t3.1)
theorem ul (s : State) (t2 : State) (t3 : List Int × Int) : Lo (mr s t2 t3) (nU s t2 t3):=by
 unfold mr nU
 repeat' (first | with_reducible refine wY _ _ _ ?_ | with_reducible exact vi _ _ | with_reducible refine aw ?_ ?_ ?_ ?_ ?_ | with_reducible refine av ?_ ?_ ?_ ?_ | with_reducible refine ax ?_ ?_ ?_ | with_reducible refine aA ?_ ?_ | with_reducible refine aF ?_ ?_ | with_reducible refine aE ?_ _ | (intro _) | with_reducible exact aC _ | exact ah | (dsimp only))
def mE (x1 : State) (x2 : List Int) (t1 : Int) : Option (Int ⊕ Unit) :=
 bif decide (t1 < (x2.length : Int)) then
 (inb t1 x2.length).bind fun i =>
 (x2[i]?).bind fun x3 =>
 (sm x1.Conts (fun a' => qC a'.1 x3)).bind fun i1 =>
 (idx x1.Conts i1).bind fun x4 =>
 none
 else
 some (.inr ())
theorem uh (x1 : State) (x2 : List Int) (t1 : Int) : Lo (mE x1 x2 t1) (nW x1 x2 t1):=by
 unfold mE nW
 repeat' (first | with_reducible refine uq _ _ _ ?_ | with_reducible exact vh _ _ | with_reducible refine aw ?_ ?_ ?_ ?_ ?_ | with_reducible refine av ?_ ?_ ?_ ?_ | with_reducible refine ax ?_ ?_ ?_ | with_reducible refine aA ?_ ?_ | with_reducible refine aF ?_ ?_ | with_reducible refine aE ?_ _ | (intro _) | with_reducible exact aC _ | exact ah | (dsimp only))
def mH (s : State) (t : State × Int) : Option ((State × Int) ⊕ State) :=
 bif decide (t.2 < (s.Conf.Labels.length : Int)) then
 (pv t.1 t.2).bind fun x1 =>
 (mS x1 t.2).bind fun x2 =>
 (itr 4096 (mE x1 x2) 0).bind fun _ =>
 some (.inl (x1,w64 (t.2 + 1)))
 else
 some (.inr t.1)
theorem uj (s : State) (t : State × Int) : Lo (mH s t) (nZ s t):=by
 unfold mH nZ
 repeat' (first | with_reducible exact wM _ _ | with_reducible exact rP _ _ | with_reducible exact uh _ _ _ | with_reducible refine aw ?_ ?_ ?_ ?_ ?_ | with_reducible refine av ?_ ?_ ?_ ?_ | with_reducible refine ax ?_ ?_ ?_ | with_reducible refine aA ?_ ?_ | with_reducible refine aF ?_ ?_ | with_reducible refine aE ?_ _ | (intro _) | with_reducible exact aC _ | exact ah | (dsimp only))
def oL (s : State) : Option (State × List Int) :=
 (sn s []).bind fun x =>
 (itr 4096 (mH s) (x,0)).bind fun t2 =>
 (itr 4096 (mr s t2) ([],0)).bind fun gone1 =>
 (iT gone1).bind fun x7 =>
 some (t2,x7)
theorem wu (s : State) : Lo (oL s) (nP s):=by
 unfold oL nP
 repeat' (first | with_reducible exact z8 _ _ | with_reducible exact uj _ _ | with_reducible exact ul _ _ _ | with_reducible exact qK _ | with_reducible refine aw ?_ ?_ ?_ ?_ ?_ | with_reducible refine av ?_ ?_ ?_ ?_ | with_reducible refine ax ?_ ?_ ?_ | with_reducible refine aA ?_ ?_ | with_reducible refine aF ?_ ?_ | with_reducible refine aE ?_ _ | (intro _) | with_reducible exact aC _ | exact ah | (dsimp only))
def j_ (x2 : Queue) (x3 : Queue) (k : Int) : Option (Int ⊕ (Bool ⊕ Unit)) :=
 bif decide (k < (x2.Caps.length : Int)) then
 (idx x2.Caps k).bind fun x4 =>
 (idx x3.Caps k).bind fun x5 =>
 bif ! ((x4.Least == x5.Least) && (x4.Most == x5.Most)) then
  some (.inr (.inl false))
 else
  some (.inl (w64 (k + 1)))
 else
 some (.inr (.inr ()))
theorem rK (x2 : Queue) (x3 : Queue) (k : Int) : Lo (j_ x2 x3 k) (lq x2 x3 k):=by
 unfold j_ lq
 repeat' (first | with_reducible refine aw ?_ ?_ ?_ ?_ ?_ | with_reducible refine av ?_ ?_ ?_ ?_ | with_reducible refine ax ?_ ?_ ?_ | with_reducible refine aA ?_ ?_ | with_reducible refine aF ?_ ?_ | with_reducible refine aE ?_ _ | (intro _) | with_reducible exact aC _ | exact ah | (dsimp only))
def j8 (a : Conf) (b : Conf) (i1 : Int) : Option (Int ⊕ (Bool ⊕ Unit)) :=
 bif decide (i1 < (a.Queues.length : Int)) then
 (idx a.Queues i1).bind fun x2 =>
 (idx b.Queues i1).bind fun x3 =>
 (
  bif ! (x2.Path == x3.Path) then
  some true
  else
  bif x2.User != x3.User then
   some true
  else
   some ((x2.Caps.length : Int) != (x3.Caps.length : Int))).bind fun q2 =>
 bif q2 then
  some (.inr (.inl false))
 else
  (itr 4096 (j_ x2 x3) 0).bind fun q0 =>
  match q0 with
  | .inl q3 =>
  some (.inr (.inl q3))
  | .inr _ =>
  some (.inl (w64 (i1 + 1)))
 else
 some (.inr (.inr ()))
theorem rH (a : Conf) (b : Conf) (i1 : Int) : Lo (j8 a b i1) (lm a b i1):=by
 unfold j8 lm
 repeat' (first | with_reducible exact rK _ _ _ | with_reducible refine aw ?_ ?_ ?_ ?_ ?_ | with_reducible refine av ?_ ?_ ?_ ?_ | with_reducible refine ax ?_ ?_ ?_ | with_reducible refine aA ?_ ?_ | with_reducible refine aF ?_ ?_ | with_reducible refine aE ?_ _ | (intro _) | with_reducible exact aC _ | exact ah | (dsimp only))
def kb (a : Conf) (b : Conf) (i : Int) : Option (Int ⊕ (Bool ⊕ Unit)) :=
 bif decide (i < (a.Labels.length : Int)) then
 (idx a.Labels i).bind fun x =>
 (idx b.Labels i).bind fun x1 =>
 bif ! (x == x1) then
  some (.inr (.inl false))
 else
  some (.inl (w64 (i + 1)))
 else
 some (.inr (.inr ()))
theorem rJ (a : Conf) (b : Conf) (i : Int) : Lo (kb a b i) (lk a b i):=by
 unfold kb lk
 repeat' (first | with_reducible refine aw ?_ ?_ ?_ ?_ ?_ | with_reducible refine av ?_ ?_ ?_ ?_ | with_reducible refine ax ?_ ?_ ?_ | with_reducible refine aA ?_ ?_ | with_reducible refine aF ?_ ?_ | with_reducible refine aE ?_ _ | (intro _) | with_reducible exact aC _ | exact ah | (dsimp only))
def l7 (a : Conf) (b : Conf) : Option Bool :=
 (
 bif (a.Labels.length : Int) != (b.Labels.length : Int) then
  some true
 else
  some ((a.Queues.length : Int) != (b.Queues.length : Int))).bind fun q =>
 bif q then
 some false
 else
 (itr 4096 (kb a b) 0).bind fun q0 =>
 match q0 with
 | .inl q1 =>
  some q1
 | .inr _ =>
  (itr 4096 (j8 a b) 0).bind fun q0 =>
  match q0 with
  | .inl q4 =>
  some q4
  | .inr _ =>
  some true
theorem tZ (a : Conf) (b : Conf) : Lo (l7 a b) (kA a b):=by
 unfold l7 kA
 repeat' (first | with_reducible exact rJ _ _ _ | with_reducible exact rH _ _ _ | with_reducible refine aw ?_ ?_ ?_ ?_ ?_ | with_reducible refine av ?_ ?_ ?_ ?_ | with_reducible refine ax ?_ ?_ ?_ | with_reducible refine aA ?_ ?_ | with_reducible refine aF ?_ ?_ | with_reducible refine aE ?_ _ | (intro _) | with_reducible exact aC _ | exact ah | (dsimp only))
def pm (a : App) (b : App) : Option Bool:=none
theorem tG (a : App) (b : App) : Lo (pm a b) (nj a b):=ah
def jr (a : State) (b : State) (t4 : Bool × Int) : Option ((Bool × Int) ⊕ Bool) :=
 bif decide (t4.2 < (a.Plans.length : Int)) then
 (
  bif t4.1 then
  (idx a.Plans t4.2).bind fun x10 =>
  (idx b.Plans t4.2).bind fun x11 =>
  let ok11:=(x10.Id == x11.Id) && ((x10.Label == x11.Label) && ((x10.From == x11.From) && ((x10.Until == x11.Until) && ((x10.Need.Mem == x11.Need.Mem) && (x10.Need.Cores == x11.Need.Cores)))))
  some ok11
  else
  some false).bind fun ok12 =>
 some (.inl (ok12,w64 (t4.2 + 1)))
 else
 some (.inr t4.1)
theorem rb (a : State) (b : State) (t4 : Bool × Int) : Lo (jr a b t4) (kR a b t4):=by
 unfold jr kR
 repeat' (first | with_reducible refine aw ?_ ?_ ?_ ?_ ?_ | with_reducible refine av ?_ ?_ ?_ ?_ | with_reducible refine ax ?_ ?_ ?_ | with_reducible refine aA ?_ ?_ | with_reducible refine aF ?_ ?_ | with_reducible refine aE ?_ _ | (intro _) | with_reducible exact aC _ | exact ah | (dsimp only))
def jq (a : State) (b : State) (t3 : Bool × Int) : Option ((Bool × Int) ⊕ Bool) :=
 bif decide (t3.2 < (a.Slots.length : Int)) then
 (
  bif t3.1 then
  (idx a.Slots t3.2).bind fun x8 =>
  (idx b.Slots t3.2).bind fun x9 =>
  let ok8:=(x8.Node == x9.Node) && ((x8.App == x9.App) && (x8.Prio == x9.Prio))
  some ok8
  else
  some false).bind fun ok9 =>
 some (.inl (ok9,w64 (t3.2 + 1)))
 else
 some (.inr t3.1)
theorem rv (a : State) (b : State) (t3 : Bool × Int) : Lo (jq a b t3) (kY a b t3):=by
 unfold jq kY
 repeat' (first | with_reducible refine aw ?_ ?_ ?_ ?_ ?_ | with_reducible refine av ?_ ?_ ?_ ?_ | with_reducible refine ax ?_ ?_ ?_ | with_reducible refine aA ?_ ?_ | with_reducible refine aF ?_ ?_ | with_reducible refine aE ?_ _ | (intro _) | with_reducible exact aC _ | exact ah | (dsimp only))
def js (a : State) (b : State) (t2 : Bool × Int) : Option ((Bool × Int) ⊕ Bool) :=
 bif decide (t2.2 < (a.Conts.length : Int)) then
 (
  bif t2.1 then
  (idx a.Conts t2.2).bind fun x6 =>
  (idx b.Conts t2.2).bind fun x7 =>
  let ok5:=(x6.Id == x7.Id) && ((x6.App == x7.App) && ((x6.Node == x7.Node) && (((x6.Size.Mem == x7.Size.Mem) && (x6.Size.Cores == x7.Size.Cores)) && ((x6.Prio == x7.Prio) && ((x6.Label == x7.Label) && ((x6.Master == x7.Master) && (x6.Notice == x7.Notice)))))))
  some ok5
  else
  some false).bind fun ok6 =>
 some (.inl (ok6,w64 (t2.2 + 1)))
 else
 some (.inr t2.1)
theorem rh (a : State) (b : State) (t2 : Bool × Int) : Lo (js a b t2) (kW a b t2):=by
 unfold js kW
 repeat' (first | with_reducible refine aw ?_ ?_ ?_ ?_ ?_ | with_reducible refine av ?_ ?_ ?_ ?_ | with_reducible refine ax ?_ ?_ ?_ | with_reducible refine aA ?_ ?_ | with_reducible refine aF ?_ ?_ | with_reducible refine aE ?_ _ | (intro _) | with_reducible exact aC _ | exact ah | (dsimp only))
def jt (a : State) (b : State) (t1 : Bool × Int) : Option ((Bool × Int) ⊕ Bool) :=
 bif decide (t1.2 < (a.Apps.length : Int)) then
 (
  bif t1.1 then
  (idx a.Apps t1.2).bind fun x3 =>
  (idx b.Apps t1.2).bind fun x4 =>
  (pm x3 x4).bind fun x5 =>
  some x5
  else
  some false).bind fun ok3 =>
 some (.inl (ok3,w64 (t1.2 + 1)))
 else
 some (.inr t1.1)
theorem qT (a : State) (b : State) (t1 : Bool × Int) : Lo (jt a b t1) (kZ a b t1):=by
 unfold jt kZ
 repeat' (first | with_reducible exact tG _ _ | with_reducible refine aw ?_ ?_ ?_ ?_ ?_ | with_reducible refine av ?_ ?_ ?_ ?_ | with_reducible refine ax ?_ ?_ ?_ | with_reducible refine aA ?_ ?_ | with_reducible refine aF ?_ ?_ | with_reducible refine aE ?_ _ | (intro _) | with_reducible exact aC _ | exact ah | (dsimp only))
def jp (a : State) (b : State) (t : Bool × Int) : Option ((Bool × Int) ⊕ Bool) :=
 bif decide (t.2 < (a.Nodes.length : Int)) then
 (
  bif t.1 then
  (idx a.Nodes t.2).bind fun x1 =>
  (idx b.Nodes t.2).bind fun x2 =>
  let ok:=(x1.Id == x2.Id) && ((x1.Label == x2.Label) && ((x1.Rack == x2.Rack) && (((x1.Cap.Mem == x2.Cap.Mem) && (x1.Cap.Cores == x2.Cap.Cores)) && ((x1.Seen == x2.Seen) && ((x1.Beat == x2.Beat) && (x1.Up == x2.Up))))))
  some ok
  else
  some false).bind fun ok1 =>
 some (.inl (ok1,w64 (t.2 + 1)))
 else
 some (.inr t.1)
theorem re (a : State) (b : State) (t : Bool × Int) : Lo (jp a b t) (k9 a b t):=by
 unfold jp k9
 repeat' (first | with_reducible refine aw ?_ ?_ ?_ ?_ ?_ | with_reducible refine av ?_ ?_ ?_ ?_ | with_reducible refine ax ?_ ?_ ?_ | with_reducible refine aA ?_ ?_ | with_reducible refine aF ?_ ?_ | with_reducible refine aE ?_ _ | (intro _) | with_reducible exact aC _ | exact ah | (dsimp only))
def lD (a : State) (b : State) : Option Bool :=
 (
 (l7 a.Conf b.Conf).bind fun x =>
 bif ! x then
  some true
 else
  bif a.Now != b.Now then
  some true
  else
  bif a.Epoch != b.Epoch then
   some true
  else
   bif a.Seq != b.Seq then
   some true
   else
   bif (a.Nodes.length : Int) != (b.Nodes.length : Int) then
    some true
   else
    bif (a.Apps.length : Int) != (b.Apps.length : Int) then
    some true
    else
    bif (a.Conts.length : Int) != (b.Conts.length : Int) then
     some true
    else
     bif (a.Slots.length : Int) != (b.Slots.length : Int) then
     some true
     else
     some ((a.Plans.length : Int) != (b.Plans.length : Int))).bind fun q =>
 bif q then
 some false
 else
 (itr 4096 (jp a b) (true,0)).bind fun ok2 =>
 (itr 4096 (jt a b) (ok2,0)).bind fun ok4 =>
 (itr 4096 (js a b) (ok4,0)).bind fun ok7 =>
 (itr 4096 (jq a b) (ok7,0)).bind fun ok10 =>
 (itr 4096 (jr a b) (ok10,0)).bind fun ok13 =>
 some ok13
theorem sN (a : State) (b : State) : Lo (lD a b) (jP a b):=by
 unfold lD jP
 repeat' (first | with_reducible exact tZ _ _ | with_reducible exact re _ _ _ | with_reducible exact qT _ _ _ | with_reducible exact rh _ _ _ | with_reducible exact rv _ _ _ | with_reducible exact rb _ _ _ | with_reducible refine aw ?_ ?_ ?_ ?_ ?_ | with_reducible refine av ?_ ?_ ?_ ?_ | with_reducible refine ax ?_ ?_ ?_ | with_reducible refine aA ?_ ?_ | with_reducible refine aF ?_ ?_ | with_reducible refine aE ?_ _ | (intro _) | with_reducible exact aC _ | exact ah | (dsimp only))
def lY : Option State :=
 some (⟨⟨[([] : List UInt8)],[(⟨([114,111,111,116] : List UInt8),[(⟨10000,10000⟩ : Cap)],10000⟩ : Queue)]⟩,[],[],[],[],[],0,0,0⟩ : State)
theorem tz : Lo (lY) (d4):=by
 unfold lY d4
 repeat' (first | with_reducible refine aw ?_ ?_ ?_ ?_ ?_ | with_reducible refine av ?_ ?_ ?_ ?_ | with_reducible refine ax ?_ ?_ ?_ | with_reducible refine aA ?_ ?_ | with_reducible refine aF ?_ ?_ | with_reducible refine aE ?_ _ | (intro _) | with_reducible exact aC _ | exact ah | (dsimp only))
def ox : Option Bool :=
 (lY).bind fun x =>
 (oL x).bind fun x1 =>
 (lD x x1.1).bind fun x2 =>
 bif x2 then
 bif (x1.2.length : Int) == 0 then
  (mS x 0).bind fun x3 =>
  bif (x3.length : Int) == 0 then
  some ((x1.1.Conf.Queues.length : Int) == 1)
  else
  some false
 else
  some false
 else
 some false
theorem si : Lo (ox) (cL):=by
 unfold ox cL
 repeat' (first | with_reducible exact tz  | with_reducible exact wu _ | with_reducible exact sN _ _ | with_reducible exact rP _ _ | with_reducible refine aw ?_ ?_ ?_ ?_ ?_ | with_reducible refine av ?_ ?_ ?_ ?_ | with_reducible refine ax ?_ ?_ ?_ | with_reducible refine aA ?_ ?_ | with_reducible refine aF ?_ ?_ | with_reducible refine aE ?_ _ | (intro _) | with_reducible exact aC _ | exact ah | (dsimp only))
end Go.Fx.D
