/-
  The same functions with a bound on the rounds of their loops; that they give what the others give (printed by a program). Conditions: none.
-/
import Derived.Test.YtkagmokhbmbjdaaGreatDoorD
import Derived.Test.YtkagmokhbmbjdaaGreatDoorFxD
namespace Go.Fx.D
open Go Go.Fx
set_option linter.unusedVariables false
set_option linter.unusedSimpArgs false
set_option maxRecDepth 100000
def n8 (l : List (List UInt8)) : Option Int :=
 (itr 4096 (sE l) ([],0)).bind fun q0 =>
 match q0 with
 | .inl q1 =>
 some q1
 | .inr was =>
 bif decide ((was.length : Int) < (l.length : Int)) then
  some 7
 else
  some 0
theorem zg (l : List (List UInt8)) : Lo (n8 l) (mX l):=by
 unfold n8 mX
 repeat' (first | (with_reducible first | apply aA | apply ay | apply az | apply af | apply ai | refine ah ?_ _ | exact ag _) | (intro _) | exact ae | (dsimp only))
def cE (s : List UInt8) (c : Int) : Option Int :=
 let i:=w64 ((s.length : Int) - 1)
 (itr 4096 (eY s c) i).bind fun q0 =>
 match q0 with
 | .inl q =>
 some q
 | .inr _ =>
 some (-1)
theorem lJ (s : List UInt8) (c : Int) : Lo (cE s c) (bN s c):=by
 unfold cE bN
 repeat' (first | (with_reducible first | apply aA | apply ay | apply az | apply af | apply ai | refine ah ?_ _ | exact ag _) | (intro _) | exact ae | (dsimp only))
def gY (s : List UInt8) (substr : List UInt8) : Option Int :=
 bif (substr.length : Int) == 0 then
 some (s.length : Int)
 else
 bif (substr.length : Int) == 1 then
  (idx substr 0).bind fun ch =>
  (cE s (ch.toNat : Int)).bind fun x =>
  some x
 else
  bif (substr.length : Int) == (s.length : Int) then
  bif substr == s then
   some 0
  else
   some (-1)
  else
  bif decide ((substr.length : Int) > (s.length : Int)) then
   some (-1)
  else
   none
theorem tw (s : List UInt8) (substr : List UInt8) : Lo (gY s substr) (fF s substr):=by
 unfold gY fF
 repeat' (first | (with_reducible first | exact lJ _ _ | apply af | apply ai | refine ah ?_ _ | exact ag _) | (intro _) | exact ae | (dsimp only))
def ig (path : List UInt8) : Option (List UInt8 × Bool) :=
 (gY path ([46] : List UInt8)).bind fun i =>
 bif decide (i < 0) then
 some (([] : List UInt8),false)
 else
 (slc path 0 i).bind fun s =>
 some (s,true)
theorem oG (path : List UInt8) : Lo (ig path) (iR path):=by
 unfold ig iR
 repeat' (first | (with_reducible first | exact tw _ _ | apply af | apply ai | refine ah ?_ _ | exact ag _) | (intro _) | exact ae | (dsimp only))
def iz (s : List UInt8) (sep : List UInt8) (sepSave : Int) (n : Int) : Option (List (List UInt8)) :=
 bif n == 0 then
 some []
 else
 bif sep == ([] : List UInt8) then
  none
 else
  (
  bif decide (n < 0) then
   (oR s sep).bind fun x =>
   some (w64 (x + 1))
  else
   some n).bind fun n1 =>
  let n2:=imin n1 (w64 ((s.length : Int) + 1))
  (mkl 16 n2 n2 []).bind fun l =>
  (itr 4096 (lZ n2) (s,0)).bind fun q =>
  (inb q.2 l.length).bind fun i =>
  (l[i]?).bind fun x1 =>
  (inS 0 (w64 (q.2 + 1)) (List.set l i q.1).length).bind fun p =>
  some (sub (List.set l i q.1) p.1 p.2)
theorem tX (s : List UInt8) (sep : List UInt8) (sepSave : Int) (n : Int) : Lo (iz s sep sepSave n) (gz s sep sepSave n):=by
 unfold iz gz
 repeat' (first | (with_reducible first | apply af | apply ai | refine ah ?_ _ | exact ag _) | (intro _) | exact ae | (dsimp only))
def lE (s : List UInt8) (sep : List UInt8) : Option (List (List UInt8)) :=
 (iz s sep 0 (-1)).bind fun x =>
 some x
theorem xm (s : List UInt8) (sep : List UInt8) : Lo (lE s sep) (jM s sep):=by
 unfold lE jM
 repeat' (first | (with_reducible first | exact tX _ _ _ _ | apply af | apply ai | refine ah ?_ _ | exact ag _) | (intro _) | exact ae | (dsimp only))
def bh (s : List (List UInt8)) (f : (TupT fam [.str] → Option Bool)) (t : Int) : Option (Int ⊕ (Int ⊕ Unit)) :=
 bif decide (t < (s.length : Int)) then
 (idx s t).bind fun x =>
 (f (x,())).bind fun r =>
 bif r then
  some (.inr (.inl t))
 else
  some (.inl (w64 (t + 1)))
 else
 some (.inr (.inr ()))
theorem gI (s : List (List UInt8)) (f f_' : (TupT fam [.str] → Option Bool)) (h_f : ∀ a,Lo (f a) (f_' a)) (t : Int) : Lo (bh s f t) (bH s f_' t):=by
 unfold bh bH
 repeat' (first | (with_reducible first | exact h_f _ | apply af | apply ai | refine ah ?_ _ | exact ag _) | (intro _) | exact ae | (dsimp only))
def bI (s : List (List UInt8)) (f : (TupT fam [.str] → Option Bool)) : Option Int :=
 (itr 4096 (bh s f) 0).bind fun q0 =>
 match q0 with
 | .inl q =>
 some q
 | .inr _ =>
 some (-1)
theorem iL (s : List (List UInt8)) (f f_' : (TupT fam [.str] → Option Bool)) (h_f : ∀ a,Lo (f a) (f_' a)) : Lo (bI s f) (aZ s f_'):=by
 unfold bI aZ
 repeat' (first | (with_reducible first | refine gI _ _ _ ?_ _ | exact h_f _ | apply aA | apply ay | apply az | apply af | apply ai | refine ah ?_ _ | exact ag _) | (intro _) | exact ae | (dsimp only))
def bj (s : List (List UInt8)) (f : (TupT fam [.str] → Option Bool)) : Option Bool :=
 (bI s f).bind fun x =>
 some (decide (x ≥ 0))
theorem gJ (s : List (List UInt8)) (f f_' : (TupT fam [.str] → Option Bool)) (h_f : ∀ a,Lo (f a) (f_' a)) : Lo (bj s f) (aU s f_'):=by
 unfold bj aU
 repeat' (first | (with_reducible first | refine iL _ _ _ ?_ | exact h_f _ | apply af | apply ai | refine ah ?_ _ | exact ag _) | (intro _) | exact ae | (dsimp only))
def nY (s : List UInt8) : Option Bool :=
 (lE s ([46] : List UInt8)).bind fun l =>
 (idx l 0).bind fun x =>
 bif x == ([114,111,111,116] : List UInt8) then
 bif decide ((l.length : Int) ≤ 4) then
  (bj l (fun a' => oQ a'.1)).bind fun x1 =>
  some (! x1)
 else
  some false
 else
 some false
theorem zK (s : List UInt8) : Lo (nY s) (nt s):=by
 unfold nY nt
 repeat' (first | (with_reducible first | exact xm _ _ | refine gJ _ _ _ ?_ | apply af | apply ai | refine ah ?_ _ | exact ag _) | (intro _) | exact ae | (dsimp only))
def ox (s : List Cap) (f : (TupT fam [.st 1] → Option Bool)) (t : Int) : Option (Int ⊕ (Int ⊕ Unit)) :=
 bif decide (t < (s.length : Int)) then
 (idx s t).bind fun x =>
 (f (x,())).bind fun r =>
 bif r then
  some (.inr (.inl t))
 else
  some (.inl (w64 (t + 1)))
 else
 some (.inr (.inr ()))
theorem y8 (s : List Cap) (f f_' : (TupT fam [.st 1] → Option Bool)) (h_f : ∀ a,Lo (f a) (f_' a)) (t : Int) : Lo (ox s f t) (rE s f_' t):=by
 unfold ox rE
 repeat' (first | (with_reducible first | exact h_f _ | apply af | apply ai | refine ah ?_ _ | exact ag _) | (intro _) | exact ae | (dsimp only))
def tC (s : List Cap) (f : (TupT fam [.st 1] → Option Bool)) : Option Int :=
 (itr 4096 (ox s f) 0).bind fun q0 =>
 match q0 with
 | .inl q =>
 some q
 | .inr _ =>
 some (-1)
theorem Cr (s : List Cap) (f f_' : (TupT fam [.st 1] → Option Bool)) (h_f : ∀ a,Lo (f a) (f_' a)) : Lo (tC s f) (tv s f_'):=by
 unfold tC tv
 repeat' (first | (with_reducible first | refine y8 _ _ _ ?_ _ | exact h_f _ | apply aA | apply ay | apply az | apply af | apply ai | refine ah ?_ _ | exact ag _) | (intro _) | exact ae | (dsimp only))
def mj (s : List Cap) (f : (TupT fam [.st 1] → Option Bool)) : Option Bool :=
 (tC s f).bind fun x =>
 some (decide (x ≥ 0))
theorem yB (s : List Cap) (f f_' : (TupT fam [.st 1] → Option Bool)) (h_f : ∀ a,Lo (f a) (f_' a)) : Lo (mj s f) (lI s f_'):=by
 unfold mj lI
 repeat' (first | (with_reducible first | refine Cr _ _ _ ?_ | exact h_f _ | apply af | apply ai | refine ah ?_ _ | exact ag _) | (intro _) | exact ae | (dsimp only))
def rY (l : List Cap) : Option Bool :=
 (mj l (fun a' => rU a'.1)).bind fun x =>
 some (! x)
theorem Bn (l : List Cap) : Lo (rY l) (rq l):=by
 unfold rY rq
 repeat' (first | (with_reducible first | refine yB _ _ _ ?_ | apply af | apply ai | refine ah ?_ _ | exact ag _) | (intro _) | exact ae | (dsimp only))
def jP (c : Conf) (t : List Ent0_ListUInt8Int × List UInt8 × Int) : Option ((List Ent0_ListUInt8Int × List UInt8 × Int) ⊕ (Int ⊕ Unit)) :=
 bif decide (t.2.2 < (c.Queues.length : Int)) then
 (idx c.Queues t.2.2).bind fun x =>
 (ig x.Path).bind fun x1 =>
 (nY x.Path).bind fun x2 =>
 bif ! x2 then
  some (.inr (.inl 12))
 else
  (
  bif decide (t.2.2 > 0) then
   some (strLe x.Path t.2.1)
  else
   some false).bind fun q =>
  bif q then
  some (.inr (.inl 7))
  else
  (
   bif x1.2 then
   let e:=mget (fun x3 => x1.1 == x3.k) t.1 (⟨x1.1,0⟩ : Ent0_ListUInt8Int)
   some (e.v == 0)
   else
   some false).bind fun q1 =>
  bif q1 then
   some (.inr (.inl 12))
  else
   (
   bif decide (x.User < 1) then
    some true
   else
    bif decide (x.User > 1000000) then
    some true
    else
    bif (x.Caps.length : Int) != (c.Labels.length : Int) then
     some true
    else
     (rY x.Caps).bind fun x4 =>
     some (! x4)).bind fun q2 =>
   bif q2 then
   some (.inr (.inl 1))
   else
   let e1:=mget (fun x5 => x.Path == x5.k) t.1 (⟨x.Path,0⟩ : Ent0_ListUInt8Int)
   some (.inl (mput (fun x6 => x.Path == x6.k) t.1 (⟨x.Path,w64 (e1.v + 1)⟩ : Ent0_ListUInt8Int),x.Path,w64 (t.2.2 + 1)))
 else
 some (.inr (.inr ()))
theorem v_ (c : Conf) (t : List Ent0_ListUInt8Int × List UInt8 × Int) : Lo (jP c t) (mU c t):=by
 unfold jP mU
 repeat' (first | (with_reducible first | exact oG _ | exact zK _ | exact Bn _ | apply af | apply ai | refine ah ?_ _ | exact ag _) | (intro _) | exact ae | (dsimp only))
def oV (c : Conf) : Option Int :=
 (itr 4096 (jP c) ([],([] : List UInt8),0)).bind fun q0 =>
 match q0 with
 | .inl q3 =>
 some q3
 | .inr _ =>
 some 0
theorem zd (c : Conf) : Lo (oV c) (nr c):=by
 unfold oV nr
 repeat' (first | (with_reducible first | exact v_ _ _ | apply aA | apply ay | apply az | apply af | apply ai | refine ah ?_ _ | exact ag _) | (intro _) | exact ae | (dsimp only))
def mJ (c : Conf) (path : List UInt8) (t : List (List UInt8) × Int) : Option ((List (List UInt8) × Int) ⊕ List (List UInt8)) :=
 bif decide (t.2 < (c.Queues.length : Int)) then
 (
  (idx c.Queues t.2).bind fun x =>
  (ig x.Path).bind fun x1 =>
  (
  bif x1.2 then
   some (x1.1 == path)
  else
   some false).bind fun q =>
  bif q then
  (app 16 t.1 [x.Path]).bind fun l =>
  some l
  else
  some t.1).bind fun out =>
 some (.inl (out,w64 (t.2 + 1)))
 else
 some (.inr t.1)
theorem yO (c : Conf) (path : List UInt8) (t : List (List UInt8) × Int) : Lo (mJ c path t) (qg c path t):=by
 unfold mJ qg
 repeat' (first | (with_reducible first | exact oG _ | apply af | apply ai | refine ah ?_ _ | exact ag _) | (intro _) | exact ae | (dsimp only))
def gL (c : Conf) (path : List UInt8) : Option (List (List UInt8)) :=
 (itr 4096 (mJ c path) ([],0)).bind fun out1 =>
 some out1
theorem kL (c : Conf) (path : List UInt8) : Lo (gL c path) (iD c path):=by
 unfold gL iD
 repeat' (first | (with_reducible first | exact yO _ _ _ | apply af | apply ai | refine ah ?_ _ | exact ag _) | (intro _) | exact ae | (dsimp only))
def kw (s : List Queue) (f : (TupT fam [.st 2] → Option Bool)) (t : Int) : Option (Int ⊕ (Int ⊕ Unit)) :=
 bif decide (t < (s.length : Int)) then
 (idx s t).bind fun x =>
 (f (x,())).bind fun r =>
 bif r then
  some (.inr (.inl t))
 else
  some (.inl (w64 (t + 1)))
 else
 some (.inr (.inr ()))
theorem xr (s : List Queue) (f f_' : (TupT fam [.st 2] → Option Bool)) (h_f : ∀ a,Lo (f a) (f_' a)) (t : Int) : Lo (kw s f t) (oT s f_' t):=by
 unfold kw oT
 repeat' (first | (with_reducible first | exact h_f _ | apply af | apply ai | refine ah ?_ _ | exact ag _) | (intro _) | exact ae | (dsimp only))
def qz (s : List Queue) (f : (TupT fam [.st 2] → Option Bool)) : Option Int :=
 (itr 4096 (kw s f) 0).bind fun q0 =>
 match q0 with
 | .inl q =>
 some q
 | .inr _ =>
 some (-1)
theorem AE (s : List Queue) (f f_' : (TupT fam [.st 2] → Option Bool)) (h_f : ∀ a,Lo (f a) (f_' a)) : Lo (qz s f) (pz s f_'):=by
 unfold qz pz
 repeat' (first | (with_reducible first | refine xr _ _ _ ?_ _ | exact h_f _ | apply aA | apply ay | apply az | apply af | apply ai | refine ah ?_ _ | exact ag _) | (intro _) | exact ae | (dsimp only))
def fp (c : Conf) (path : List UInt8) : Option (Queue × Bool) :=
 (qz c.Queues (fun a' => rQ a'.1 path)).bind fun i =>
 bif decide (i < 0) then
 some ((⟨[],[],0⟩ : Queue),false)
 else
 (idx c.Queues i).bind fun x =>
 (fO x.Caps).bind fun x1 =>
 some ((⟨x.Path,x1,x.User⟩ : Queue),true)
theorem il (c : Conf) (path : List UInt8) : Lo (fp c path) (gc c path):=by
 unfold fp gc
 repeat' (first | (with_reducible first | refine AE _ _ _ ?_ | apply af | apply ai | refine ah ?_ _ | exact ag _) | (intro _) | exact ae | (dsimp only))
def mM (c : Conf) (kids : List (List UInt8)) (t2 : Int) (t3 : Int × Int) : Option ((Int × Int) ⊕ Int) :=
 bif decide (t3.2 < (kids.length : Int)) then
 (inb t3.2 kids.length).bind fun i =>
 (kids[i]?).bind fun x3 =>
 (fp c x3).bind fun x4 =>
 (inb t2 x4.1.Caps.length).bind fun i1 =>
 (x4.1.Caps[i1]?).bind fun x5 =>
 let sum:=w64 (t3.1 + x5.Least)
 some (.inl (sum,w64 (t3.2 + 1)))
 else
 some (.inr t3.1)
theorem xW (c : Conf) (kids : List (List UInt8)) (t2 : Int) (t3 : Int × Int) : Lo (mM c kids t2 t3) (qu c kids t2 t3):=by
 unfold mM qu
 repeat' (first | (with_reducible first | exact il _ _ | apply af | apply ai | refine ah ?_ _ | exact ag _) | (intro _) | exact ae | (dsimp only))
def mT (c : Conf) (kids : List (List UInt8)) (t2 : Int) : Option (Int ⊕ (Int ⊕ Unit)) :=
 bif decide (t2 < (c.Labels.length : Int)) then
 (itr 4096 (mM c kids t2) (0,0)).bind fun sum1 =>
 (
  bif decide ((kids.length : Int) > 0) then
  some (sum1 != 10000)
  else
  some false).bind fun q2 =>
 bif q2 then
  some (.inr (.inl 13))
 else
  some (.inl (w64 (t2 + 1)))
 else
 some (.inr (.inr ()))
theorem yG (c : Conf) (kids : List (List UInt8)) (t2 : Int) : Lo (mT c kids t2) (qc c kids t2):=by
 unfold mT qc
 repeat' (first | (with_reducible first | exact xW _ _ _ _ | apply af | apply ai | refine ah ?_ _ | exact ag _) | (intro _) | exact ae | (dsimp only))
def mc (c : Conf) (t1 : Int) : Option (Int ⊕ (Int ⊕ Unit)) :=
 bif decide (t1 < (c.Queues.length : Int)) then
 (idx c.Queues t1).bind fun x2 =>
 (gL c x2.Path).bind fun kids =>
 (itr 4096 (mT c kids) 0).bind fun q0 =>
 match q0 with
 | .inl q3 =>
  some (.inr (.inl q3))
 | .inr _ =>
  some (.inl (w64 (t1 + 1)))
 else
 some (.inr (.inr ()))
theorem yo (c : Conf) (t1 : Int) : Lo (mc c t1) (ql c t1):=by
 unfold mc ql
 repeat' (first | (with_reducible first | exact kL _ _ | exact yG _ _ _ | apply aA | apply ay | apply az | apply af | apply ai | refine ah ?_ _ | exact ag _) | (intro _) | exact ae | (dsimp only))
def rF (c : Conf) : Option Int :=
 (idx c.Queues 0).bind fun x =>
 (itr 4096 (vr x) 0).bind fun q0 =>
 match q0 with
 | .inl q1 =>
 some q1
 | .inr _ =>
 (itr 4096 (mc c) 0).bind fun q0 =>
 match q0 with
 | .inl q4 =>
  some q4
 | .inr _ =>
  some 0
theorem Bt (c : Conf) : Lo (rF c) (re c):=by
 unfold rF re
 repeat' (first | (with_reducible first | exact yo _ _ | apply aA | apply ay | apply az | apply af | apply ai | refine ah ?_ _ | exact ag _) | (intro _) | exact ae | (dsimp only))
def qf (c : Conf) : Option Int :=
 (
 bif (c.Labels.length : Int) == 0 then
  some true
 else
  bif decide ((c.Labels.length : Int) > 3) then
  some true
  else
  some (decide ((c.Queues.length : Int) > 16))).bind fun q =>
 bif q then
 some 4
 else
 (n8 c.Labels).bind fun e =>
 bif e != 0 then
  some e
 else
  (
  bif (c.Queues.length : Int) == 0 then
   some true
  else
   (idx c.Queues 0).bind fun x =>
   some (! (x.Path == ([114,111,111,116] : List UInt8)))).bind fun q1 =>
  bif q1 then
  some 12
  else
  (oV c).bind fun e1 =>
  bif e1 != 0 then
   some e1
  else
   (rF c).bind fun x1 =>
   some x1
theorem AT (c : Conf) : Lo (qf c) (pI c):=by
 unfold qf pI
 repeat' (first | (with_reducible first | exact zg _ | exact zd _ | exact Bt _ | apply af | apply ai | refine ah ?_ _ | exact ag _) | (intro _) | exact ae | (dsimp only))
def oF (s : List Vec) (f : (TupT fam [.st 0] → Option Bool)) (t : Int) : Option (Int ⊕ (Int ⊕ Unit)) :=
 bif decide (t < (s.length : Int)) then
 (idx s t).bind fun x =>
 (f (x,())).bind fun r =>
 bif r then
  some (.inr (.inl t))
 else
  some (.inl (w64 (t + 1)))
 else
 some (.inr (.inr ()))
theorem y7 (s : List Vec) (f f_' : (TupT fam [.st 0] → Option Bool)) (h_f : ∀ a,Lo (f a) (f_' a)) (t : Int) : Lo (oF s f t) (rZ s f_' t):=by
 unfold oF rZ
 repeat' (first | (with_reducible first | exact h_f _ | apply af | apply ai | refine ah ?_ _ | exact ag _) | (intro _) | exact ae | (dsimp only))
def tp (s : List Vec) (f : (TupT fam [.st 0] → Option Bool)) : Option Int :=
 (itr 4096 (oF s f) 0).bind fun q0 =>
 match q0 with
 | .inl q =>
 some q
 | .inr _ =>
 some (-1)
theorem Ct (s : List Vec) (f f_' : (TupT fam [.st 0] → Option Bool)) (h_f : ∀ a,Lo (f a) (f_' a)) : Lo (tp s f) (sS s f_'):=by
 unfold tp sS
 repeat' (first | (with_reducible first | refine y7 _ _ _ ?_ _ | exact h_f _ | apply aA | apply ay | apply az | apply af | apply ai | refine ah ?_ _ | exact ag _) | (intro _) | exact ae | (dsimp only))
def nZ (s : List Vec) (f : (TupT fam [.st 0] → Option Bool)) : Option Bool :=
 (tp s f).bind fun x =>
 some (decide (x ≥ 0))
theorem za (s : List Vec) (f f_' : (TupT fam [.st 0] → Option Bool)) (h_f : ∀ a,Lo (f a) (f_' a)) : Lo (nZ s f) (m6 s f_'):=by
 unfold nZ m6
 repeat' (first | (with_reducible first | refine Ct _ _ _ ?_ | exact h_f _ | apply af | apply ai | refine ah ?_ _ | exact ag _) | (intro _) | exact ae | (dsimp only))
def eB (k : Look) (t3 : List Vec × Int) : Option ((List Vec × Int) ⊕ List Vec) :=
 bif decide (t3.2 < (k.s.Apps.length : Int)) then
 (idx k.s.Apps t3.2).bind fun x3 =>
 (app 16 t3.1 [x3.Master]).bind fun l6 =>
 (itr 4096 (kq x3) (l6,0)).bind fun l8 =>
 some (.inl (l8,w64 (t3.2 + 1)))
 else
 some (.inr t3.1)
theorem qM (k : Look) (t3 : List Vec × Int) : Lo (eB k t3) (fM k t3):=by
 unfold eB fM
 repeat' (first | (with_reducible first | apply af | apply ai | refine ah ?_ _ | exact ag _) | (intro _) | exact ae | (dsimp only))
def gn (k : Look) : Option Bool :=
 (itr 4096 (km k) ([],0)).bind fun l1 =>
 (itr 4096 (kb k) (l1,0)).bind fun l3 =>
 (itr 4096 (kf k) (l3,0)).bind fun l5 =>
 (itr 4096 (eB k) (l5,0)).bind fun l9 =>
 (nZ l9 (fun a' => gy a'.1)).bind fun x5 =>
 some (! x5)
theorem se (k : Look) : Lo (gn k) (eW k):=by
 unfold gn eW
 repeat' (first | (with_reducible first | exact qM _ _ | refine za _ _ _ ?_ | apply af | apply ai | refine ah ?_ _ | exact ag _) | (intro _) | exact ae | (dsimp only))
def iq (n : Int) (id_ : (TupT fam [.int .i64] → Option Int)) (i : Int) : Option (Int ⊕ (Bool ⊕ Unit)) :=
 bif decide (i < n) then
 (id_ (w64 (i - 1),())).bind fun r =>
 (id_ (i,())).bind fun r1 =>
 bif decide (r ≥ r1) then
  some (.inr (.inl false))
 else
  some (.inl (w64 (i + 1)))
 else
 some (.inr (.inr ()))
theorem ub (n : Int) (id_ id__' : (TupT fam [.int .i64] → Option Int)) (h_id_ : ∀ a,Lo (id_ a) (id__' a)) (i : Int) : Lo (iq n id_ i) (j6 n id__' i):=by
 unfold iq j6
 repeat' (first | (with_reducible first | exact h_id_ _ | apply af | apply ai | refine ah ?_ _ | exact ag _) | (intro _) | exact ae | (dsimp only))
def ca (n : Int) (most : Int) (id_ : (TupT fam [.int .i64] → Option Int)) : Option Bool :=
 (itr 4096 (iq n id_) 1).bind fun q0 =>
 match q0 with
 | .inl q =>
 some q
 | .inr _ =>
 some (decide (n ≤ most))
theorem wZ (n : Int) (most : Int) (id_ id__' : (TupT fam [.int .i64] → Option Int)) (h_id_ : ∀ a,Lo (id_ a) (id__' a)) : Lo (ca n most id_) (cB n most id__'):=by
 unfold ca cB
 repeat' (first | (with_reducible first | refine ub _ _ _ ?_ _ | exact h_id_ _ | apply aA | apply ay | apply az | apply af | apply ai | refine ah ?_ _ | exact ag _) | (intro _) | exact ae | (dsimp only))
def fU (k : Look) : Option Bool :=
 (ca (k.s.Nodes.length : Int) 12 (fun a' => fK a'.1 k.s)).bind fun x =>
 bif x then
 (ca (k.s.Apps.length : Int) 16 (fun a' => fL a'.1 k.s)).bind fun x1 =>
 bif x1 then
  (ca (k.s.Conts.length : Int) 200 (fun a' => fZ a'.1 k.s)).bind fun x2 =>
  bif x2 then
  (ca (k.s.Slots.length : Int) 12 (fun a' => fS a'.1 k.s)).bind fun x3 =>
  bif x3 then
   (ca (k.s.Plans.length : Int) 12 (fun a' => fW a'.1 k.s)).bind fun x4 =>
   some x4
  else
   some false
  else
  some false
 else
  some false
 else
 some false
theorem rK (k : Look) : Lo (fU k) (et k):=by
 unfold fU et
 repeat' (first | (with_reducible first | refine wZ _ _ _ _ ?_ | apply af | apply ai | refine ah ?_ _ | exact ag _) | (intro _) | exact ae | (dsimp only))
def mz (s : List Cont) (f : (TupT fam [.st 7] → Option Bool)) (t : Int) : Option (Int ⊕ (Int ⊕ Unit)) :=
 bif decide (t < (s.length : Int)) then
 (idx s t).bind fun x =>
 (f (x,())).bind fun r =>
 bif r then
  some (.inr (.inl t))
 else
  some (.inl (w64 (t + 1)))
 else
 some (.inr (.inr ()))
theorem yM (s : List Cont) (f f_' : (TupT fam [.st 7] → Option Bool)) (h_f : ∀ a,Lo (f a) (f_' a)) (t : Int) : Lo (mz s f t) (qo s f_' t):=by
 unfold mz qo
 repeat' (first | (with_reducible first | exact h_f _ | apply af | apply ai | refine ah ?_ _ | exact ag _) | (intro _) | exact ae | (dsimp only))
def fa (s : List Cont) (f : (TupT fam [.st 7] → Option Bool)) : Option Int :=
 (itr 4096 (mz s f) 0).bind fun q0 =>
 match q0 with
 | .inl q =>
 some q
 | .inr _ =>
 some (-1)
theorem iJ (s : List Cont) (f f_' : (TupT fam [.st 7] → Option Bool)) (h_f : ∀ a,Lo (f a) (f_' a)) : Lo (fa s f) (gb s f_'):=by
 unfold fa gb
 repeat' (first | (with_reducible first | refine yM _ _ _ ?_ _ | exact h_f _ | apply aA | apply ay | apply az | apply af | apply ai | refine ah ?_ _ | exact ag _) | (intro _) | exact ae | (dsimp only))
def i_ (s : List Cont) (f : (TupT fam [.st 7] → Option Bool)) : Option Bool :=
 (fa s f).bind fun x =>
 some (decide (x ≥ 0))
theorem rn (s : List Cont) (f f_' : (TupT fam [.st 7] → Option Bool)) (h_f : ∀ a,Lo (f a) (f_' a)) : Lo (i_ s f) (iA s f_'):=by
 unfold i_ iA
 repeat' (first | (with_reducible first | refine iJ _ _ _ ?_ | exact h_f _ | apply af | apply ai | refine ah ?_ _ | exact ag _) | (intro _) | exact ae | (dsimp only))
def mK (l : List Cont) (holds : (TupT fam [.st 7] → Option Bool)) : Option Bool:=(i_ l (fun x => (holds x).bind fun r => some (!r))).bind fun r => some (!r)
theorem xO (l : List Cont) (holds holds_' : (TupT fam [.st 7] → Option Bool)) (h_holds : ∀ a,Lo (holds a) (holds_' a)) : Lo (mK l holds) (kU l holds_'):=by
 unfold mK kU
 repeat' (first | (with_reducible first | refine rn _ _ _ ?_ | exact h_holds _ | apply af | apply ai | refine ah ?_ _ | exact ag _) | (intro _) | exact ae | (dsimp only))
def oj (s : List App) (f : (TupT fam [.st 6] → Option Bool)) (t : Int) : Option (Int ⊕ (Int ⊕ Unit)) :=
 bif decide (t < (s.length : Int)) then
 (idx s t).bind fun x =>
 (f (x,())).bind fun r =>
 bif r then
  some (.inr (.inl t))
 else
  some (.inl (w64 (t + 1)))
 else
 some (.inr (.inr ()))
theorem ze (s : List App) (f f_' : (TupT fam [.st 6] → Option Bool)) (h_f : ∀ a,Lo (f a) (f_' a)) (t : Int) : Lo (oj s f t) (rO s f_' t):=by
 unfold oj rO
 repeat' (first | (with_reducible first | exact h_f _ | apply af | apply ai | refine ah ?_ _ | exact ag _) | (intro _) | exact ae | (dsimp only))
def kz (s : List App) (f : (TupT fam [.st 6] → Option Bool)) : Option Int :=
 (itr 4096 (oj s f) 0).bind fun q0 =>
 match q0 with
 | .inl q =>
 some q
 | .inr _ =>
 some (-1)
theorem rI (s : List App) (f f_' : (TupT fam [.st 6] → Option Bool)) (h_f : ∀ a,Lo (f a) (f_' a)) : Lo (kz s f) (mG s f_'):=by
 unfold kz mG
 repeat' (first | (with_reducible first | refine ze _ _ _ ?_ _ | exact h_f _ | apply aA | apply ay | apply az | apply af | apply ai | refine ah ?_ _ | exact ag _) | (intro _) | exact ae | (dsimp only))
def kc (s : State) (id_ : Int) : Option Int :=
 (kz s.Apps (fun a' => uJ a'.1 id_)).bind fun x =>
 some x
theorem pM (s : State) (id_ : Int) : Lo (kc s id_) (mq s id_):=by
 unfold kc mq
 repeat' (first | (with_reducible first | refine rI _ _ _ ?_ | apply af | apply ai | refine ah ?_ _ | exact ag _) | (intro _) | exact ae | (dsimp only))
def e_ (s : State) (id_ : Int) : Option (App × Bool) :=
 (kc s id_).bind fun i =>
 bif decide (i < 0) then
 some ((⟨0,0,[],0,0,⟨0,0⟩,[],0,0,[],[],[],[]⟩ : App),false)
 else
 (idx s.Apps i).bind fun x =>
 (jZ x).bind fun x1 =>
 some (x1,true)
theorem ip (s : State) (id_ : Int) : Lo (e_ s id_) (ga s id_):=by
 unfold e_ ga
 repeat' (first | (with_reducible first | exact pM _ _ | apply af | apply ai | refine ah ?_ _ | exact ag _) | (intro _) | exact ae | (dsimp only))
def mE (s : List Node) (f : (TupT fam [.st 4] → Option Bool)) (t : Int) : Option (Int ⊕ (Int ⊕ Unit)) :=
 bif decide (t < (s.length : Int)) then
 (idx s t).bind fun x =>
 (f (x,())).bind fun r =>
 bif r then
  some (.inr (.inl t))
 else
  some (.inl (w64 (t + 1)))
 else
 some (.inr (.inr ()))
theorem xS (s : List Node) (f f_' : (TupT fam [.st 4] → Option Bool)) (h_f : ∀ a,Lo (f a) (f_' a)) (t : Int) : Lo (mE s f t) (p9 s f_' t):=by
 unfold mE p9
 repeat' (first | (with_reducible first | exact h_f _ | apply af | apply ai | refine ah ?_ _ | exact ag _) | (intro _) | exact ae | (dsimp only))
def m_ (s : List Node) (f : (TupT fam [.st 4] → Option Bool)) : Option Int :=
 (itr 4096 (mE s f) 0).bind fun q0 =>
 match q0 with
 | .inl q =>
 some q
 | .inr _ =>
 some (-1)
theorem uA (s : List Node) (f f_' : (TupT fam [.st 4] → Option Bool)) (h_f : ∀ a,Lo (f a) (f_' a)) : Lo (m_ s f) (nA s f_'):=by
 unfold m_ nA
 repeat' (first | (with_reducible first | refine xS _ _ _ ?_ _ | exact h_f _ | apply aA | apply ay | apply az | apply af | apply ai | refine ah ?_ _ | exact ag _) | (intro _) | exact ae | (dsimp only))
def kD (s : State) (id_ : Int) : Option Int :=
 (m_ s.Nodes (fun a' => qL id_ a'.1)).bind fun x =>
 some x
theorem rP (s : State) (id_ : Int) : Lo (kD s id_) (mr s id_):=by
 unfold kD mr
 repeat' (first | (with_reducible first | refine uA _ _ _ ?_ | apply af | apply ai | refine ah ?_ _ | exact ag _) | (intro _) | exact ae | (dsimp only))
def fT (s : State) (id_ : Int) : Option (Node × Bool) :=
 (kD s id_).bind fun i =>
 bif decide (i < 0) then
 some ((⟨0,0,0,⟨0,0⟩,0,0,false⟩ : Node),false)
 else
 (idx s.Nodes i).bind fun x =>
 some (x,true)
theorem jK (s : State) (id_ : Int) : Lo (fT s id_) (gw s id_):=by
 unfold fT gw
 repeat' (first | (with_reducible first | exact rP _ _ | apply af | apply ai | refine ah ?_ _ | exact ag _) | (intro _) | exact ae | (dsimp only))
def gU (k : Look) (c : Cont) : Option Bool :=
 (e_ k.s c.App).bind fun x =>
 (fT k.s c.Node).bind fun x1 =>
 bif x.2 then
 (cD x.1).bind fun x2 =>
 bif x2 then
  bif x1.2 then
  bif x1.1.Up then
   bif x1.1.Label == c.Label then
   bif decide (c.Notice ≥ 0) then
    some (decide (c.Notice ≤ (imax k.s.Now 1)))
   else
    some false
   else
   some false
  else
   some false
  else
  some false
 else
  some false
 else
 some false
theorem sY (k : Look) (c : Cont) : Lo (gU k c) (fu k c):=by
 unfold gU fu
 repeat' (first | (with_reducible first | exact ip _ _ | exact jK _ _ | apply af | apply ai | refine ah ?_ _ | exact ag _) | (intro _) | exact ae | (dsimp only))
def mN (s : List Node) (f : (TupT fam [.st 4] → Option Bool)) : Option Bool :=
 (m_ s f).bind fun x =>
 some (decide (x ≥ 0))
theorem yv (s : List Node) (f f_' : (TupT fam [.st 4] → Option Bool)) (h_f : ∀ a,Lo (f a) (f_' a)) : Lo (mN s f) (kA s f_'):=by
 unfold mN kA
 repeat' (first | (with_reducible first | refine uA _ _ _ ?_ | exact h_f _ | apply af | apply ai | refine ah ?_ _ | exact ag _) | (intro _) | exact ae | (dsimp only))
def mI (l : List Node) (holds : (TupT fam [.st 4] → Option Bool)) : Option Bool:=(mN l (fun x => (holds x).bind fun r => some (!r))).bind fun r => some (!r)
theorem yF (l : List Node) (holds holds_' : (TupT fam [.st 4] → Option Bool)) (h_holds : ∀ a,Lo (holds a) (holds_' a)) : Lo (mI l holds) (kx l holds_'):=by
 unfold mI kx
 repeat' (first | (with_reducible first | refine yv _ _ _ ?_ | exact h_holds _ | apply af | apply ai | refine ah ?_ _ | exact ag _) | (intro _) | exact ae | (dsimp only))
def gX (k : Look) (n : Node) : Option Bool :=
 (itr 4096 (lu k n) ((⟨0,0⟩ : Vec),0)).bind fun q0 =>
 match q0 with
 | .inl q1 =>
 some q1
 | .inr sum1 =>
 (b7 sum1 n.Cap).bind fun x2 =>
 some x2
theorem tH (k : Look) (n : Node) : Lo (gX k n) (fD k n):=by
 unfold gX fD
 repeat' (first | (with_reducible first | apply aA | apply ay | apply az | apply af | apply ai | refine ah ?_ _ | exact ag _) | (intro _) | exact ae | (dsimp only))
def oi (s : List App) (f : (TupT fam [.st 6] → Option Bool)) : Option Bool :=
 (kz s f).bind fun x =>
 some (decide (x ≥ 0))
theorem zn (s : List App) (f f_' : (TupT fam [.st 6] → Option Bool)) (h_f : ∀ a,Lo (f a) (f_' a)) : Lo (oi s f) (ng s f_'):=by
 unfold oi ng
 repeat' (first | (with_reducible first | refine rI _ _ _ ?_ | exact h_f _ | apply af | apply ai | refine ah ?_ _ | exact ag _) | (intro _) | exact ae | (dsimp only))
def oK (l : List App) (holds : (TupT fam [.st 6] → Option Bool)) : Option Bool:=(oi l (fun x => (holds x).bind fun r => some (!r))).bind fun r => some (!r)
theorem zC (l : List App) (holds holds_' : (TupT fam [.st 6] → Option Bool)) (h_holds : ∀ a,Lo (holds a) (holds_' a)) : Lo (oK l holds) (mW l holds_'):=by
 unfold oK mW
 repeat' (first | (with_reducible first | refine zn _ _ _ ?_ | exact h_holds _ | apply af | apply ai | refine ah ?_ _ | exact ag _) | (intro _) | exact ae | (dsimp only))
def nj (c : Conf) (path : List UInt8) : Option Bool :=
 (fp c path).bind fun x =>
 bif x.2 then
 (gL c path).bind fun x1 =>
 some ((x1.length : Int) == 0)
 else
 some false
theorem ut (c : Conf) (path : List UInt8) : Lo (nj c path) (nT c path):=by
 unfold nj nT
 repeat' (first | (with_reducible first | exact il _ _ | exact kL _ _ | apply af | apply ai | refine ah ?_ _ | exact ag _) | (intro _) | exact ae | (dsimp only))
def ir (k : Look) (a : App) : Option Bool :=
 (itr 4096 (ma k a) (0,0,0)).bind fun q2 =>
 (
 bif a.State == 1 then
  bif decide (q2.2 > 0) then
  some (.inr false)
  else
  some (.inl ())
 else
  bif a.State == 2 then
  bif q2.1 != 1 then
   some (.inr false)
  else
   some (.inl ())
  else
  some (.inr true) : Option (Unit ⊕ Bool)).bind fun q0 =>
 match q0 with
 | .inl _ =>
 (nj k.s.Conf a.Queue).bind fun x1 =>
 some x1
 | .inr q3 =>
 some q3
theorem tW (k : Look) (a : App) : Lo (ir k a) (gj k a):=by
 unfold ir gj
 repeat' (first | (with_reducible first | exact ut _ _ | apply aA | apply ay | apply az | apply af | apply ai | refine ah ?_ _ | exact ag _) | (intro _) | exact ae | (dsimp only))
def mA (s : List Slot) (f : (TupT fam [.st 8] → Option Bool)) (t : Int) : Option (Int ⊕ (Int ⊕ Unit)) :=
 bif decide (t < (s.length : Int)) then
 (idx s t).bind fun x =>
 (f (x,())).bind fun r =>
 bif r then
  some (.inr (.inl t))
 else
  some (.inl (w64 (t + 1)))
 else
 some (.inr (.inr ()))
theorem yp (s : List Slot) (f f_' : (TupT fam [.st 8] → Option Bool)) (h_f : ∀ a,Lo (f a) (f_' a)) (t : Int) : Lo (mA s f t) (qN s f_' t):=by
 unfold mA qN
 repeat' (first | (with_reducible first | exact h_f _ | apply af | apply ai | refine ah ?_ _ | exact ag _) | (intro _) | exact ae | (dsimp only))
def jv (s : List Slot) (f : (TupT fam [.st 8] → Option Bool)) : Option Int :=
 (itr 4096 (mA s f) 0).bind fun q0 =>
 match q0 with
 | .inl q =>
 some q
 | .inr _ =>
 some (-1)
theorem qh (s : List Slot) (f f_' : (TupT fam [.st 8] → Option Bool)) (h_f : ∀ a,Lo (f a) (f_' a)) : Lo (jv s f) (j_ s f_'):=by
 unfold jv j_
 repeat' (first | (with_reducible first | refine yp _ _ _ ?_ _ | exact h_f _ | apply aA | apply ay | apply az | apply af | apply ai | refine ah ?_ _ | exact ag _) | (intro _) | exact ae | (dsimp only))
def iV (s : List Slot) (f : (TupT fam [.st 8] → Option Bool)) : Option Bool :=
 (jv s f).bind fun x =>
 some (decide (x ≥ 0))
theorem qY (s : List Slot) (f f_' : (TupT fam [.st 8] → Option Bool)) (h_f : ∀ a,Lo (f a) (f_' a)) : Lo (iV s f) (ij s f_'):=by
 unfold iV ij
 repeat' (first | (with_reducible first | refine qh _ _ _ ?_ | exact h_f _ | apply af | apply ai | refine ah ?_ _ | exact ag _) | (intro _) | exact ae | (dsimp only))
def mg (l : List Slot) (holds : (TupT fam [.st 8] → Option Bool)) : Option Bool:=(iV l (fun x => (holds x).bind fun r => some (!r))).bind fun r => some (!r)
theorem yA (l : List Slot) (holds holds_' : (TupT fam [.st 8] → Option Bool)) (h_holds : ∀ a,Lo (holds a) (holds_' a)) : Lo (mg l holds) (ku l holds_'):=by
 unfold mg ku
 repeat' (first | (with_reducible first | refine qY _ _ _ ?_ | exact h_holds _ | apply af | apply ai | refine ah ?_ _ | exact ag _) | (intro _) | exact ae | (dsimp only))
def lQ (s : State) : Option Bool :=
 (qf s.Conf).bind fun x =>
 bif x == 0 then
 (gn (⟨⟨⟨s.Conf.Labels,s.Conf.Queues⟩,s.Nodes,s.Apps,s.Conts,s.Slots,s.Plans,s.Now,s.Epoch,s.Seq⟩⟩ : Look)).bind fun x1 =>
 bif x1 then
  (fU (⟨⟨⟨s.Conf.Labels,s.Conf.Queues⟩,s.Nodes,s.Apps,s.Conts,s.Slots,s.Plans,s.Now,s.Epoch,s.Seq⟩⟩ : Look)).bind fun x2 =>
  bif x2 then
  (mK s.Conts (fun a' => gU (⟨⟨⟨s.Conf.Labels,s.Conf.Queues⟩,s.Nodes,s.Apps,s.Conts,s.Slots,s.Plans,s.Now,s.Epoch,s.Seq⟩⟩ : Look) a'.1)).bind fun x3 =>
  bif x3 then
   (mI s.Nodes (fun a' => gX (⟨⟨⟨s.Conf.Labels,s.Conf.Queues⟩,s.Nodes,s.Apps,s.Conts,s.Slots,s.Plans,s.Now,s.Epoch,s.Seq⟩⟩ : Look) a'.1)).bind fun x4 =>
   bif x4 then
   (oK s.Apps (fun a' => ir (⟨⟨⟨s.Conf.Labels,s.Conf.Queues⟩,s.Nodes,s.Apps,s.Conts,s.Slots,s.Plans,s.Now,s.Epoch,s.Seq⟩⟩ : Look) a'.1)).bind fun x5 =>
   bif x5 then
    (mg s.Slots (fun a' => jo (⟨⟨⟨s.Conf.Labels,s.Conf.Queues⟩,s.Nodes,s.Apps,s.Conts,s.Slots,s.Plans,s.Now,s.Epoch,s.Seq⟩⟩ : Look) a'.1)).bind fun x6 =>
    some x6
   else
    some false
   else
   some false
  else
   some false
  else
  some false
 else
  some false
 else
 some false
theorem w9 (s : State) : Lo (lQ s) (jL s):=by
 unfold lQ jL
 repeat' (first | (with_reducible first | exact AT _ | exact se _ | exact rK _ | refine xO _ _ _ ?_ | exact sY _ _ | refine yF _ _ _ ?_ | exact tH _ _ | refine zC _ _ _ ?_ | exact tW _ _ | refine yA _ _ _ ?_ | apply af | apply ai | refine ah ?_ _ | exact ag _) | (intro _) | exact ae | (dsimp only))
def pg (s : State) : Option State :=
 (aG s.Conf.Labels).bind fun x =>
 (dv s.Conf.Queues).bind fun x1 =>
 (itr 4096 (wu x1) (x1,0,0)).bind fun q =>
 bif Nat.ble q.1.length q.2.1 then
 (dl s.Nodes).bind fun x5 =>
 (ba s.Conts).bind fun x6 =>
 (dw s.Slots).bind fun x7 =>
 (ia s.Plans).bind fun x8 =>
 (d_ s.Apps).bind fun x9 =>
 (itr 4096 (wM x9) (x9,0,0)).bind fun q1 =>
 bif Nat.ble q1.1.length q1.2.1 then
  some (⟨⟨x,q.1⟩,x5,q1.1,x6,x7,x8,s.Now,s.Epoch,s.Seq⟩ : State)
 else
  none
 else
 none
theorem Cz (s : State) : Lo (pg s) (p7 s):=by
 unfold pg p7
 repeat' (first | (with_reducible first | apply af | apply ai | refine ah ?_ _ | exact ag _) | (intro _) | exact ae | (dsimp only))
def lO (s : State) : Option State :=
 (aG s.Conf.Labels).bind fun x =>
 (dv s.Conf.Queues).bind fun x1 =>
 (itr 4096 (tN x1) (x1,0)).bind fun q =>
 (dl s.Nodes).bind fun x5 =>
 (ba s.Conts).bind fun x6 =>
 (dw s.Slots).bind fun x7 =>
 (ia s.Plans).bind fun x8 =>
 (d_ s.Apps).bind fun x9 =>
 (itr 4096 (tT x9) (x9,0)).bind fun q1 =>
 some (⟨⟨x,q⟩,x5,q1,x6,x7,x8,s.Now,s.Epoch,s.Seq⟩ : State)
theorem tL (s : State) : Lo (lO s) (lB s):=by
 unfold lO lB
 repeat' (first | (with_reducible first | apply af | apply ai | refine ah ?_ _ | exact ag _) | (intro _) | exact ae | (dsimp only))
def dQ (s : List Int) (v : Int) : Option Int :=
 (itr 4096 (gG s v) 0).bind fun q0 =>
 match q0 with
 | .inl q =>
 some q
 | .inr _ =>
 some (-1)
theorem n_ (s : List Int) (v : Int) : Lo (dQ s v) (cF s v):=by
 unfold dQ cF
 repeat' (first | (with_reducible first | apply aA | apply ay | apply az | apply af | apply ai | refine ah ?_ _ | exact ag _) | (intro _) | exact ae | (dsimp only))
def mH (ids : List Int) (t : State × Int) : Option ((State × Int) ⊕ State) :=
 bif decide (t.2 < (ids.length : Int)) then
 (
  (idx ids t.2).bind fun x1 =>
  (fa t.1.Conts (fun a' => rH a'.1 x1)).bind fun k =>
  bif decide (k < 0) then
  some t.1
  else
  (inb k t.1.Conts.length).bind fun i =>
  (t.1.Conts[i]?).bind fun x2 =>
  (kc t.1 x2.App).bind fun i1 =>
  (
   bif decide (i1 ≥ 0) then
   some x2.Master
   else
   some false).bind fun q =>
  bif q then
   none
  else
   (ie t.1.Conts k (w64 (k + 1))).bind fun x3 =>
   bif decide (i1 < 0) then
   some (⟨⟨t.1.Conf.Labels,t.1.Conf.Queues⟩,t.1.Nodes,t.1.Apps,x3,t.1.Slots,t.1.Plans,t.1.Now,t.1.Epoch,t.1.Seq⟩ : State)
   else
   (inb i1 t.1.Apps.length).bind fun i2 =>
   (t.1.Apps[i2]?).bind fun x4 =>
   (
    (dQ x4.Grants x1).bind fun j =>
    bif decide (j ≥ 0) then
    (d6 x4.Grants j (w64 (j + 1))).bind fun x5 =>
    some (⟨x4.Id,x4.State,x4.Queue,x4.User,x4.Prio,⟨x4.Master.Mem,x4.Master.Cores⟩,x4.Asks,x4.Seen,x4.Beat,x5,x4.Kills,x4.Told,x4.Lost⟩ : App)
    else
    (app 8 x4.Kills [x1]).bind fun l =>
    some (⟨x4.Id,x4.State,x4.Queue,x4.User,x4.Prio,⟨x4.Master.Mem,x4.Master.Cores⟩,x4.Asks,x4.Seen,x4.Beat,x4.Grants,l,x4.Told,x4.Lost⟩ : App)).bind fun a =>
   (inb i1 t.1.Apps.length).bind fun i3 =>
   bif Nat.beq i3 i2 then
    (t.1.Apps[i3]?).bind fun x6 =>
    some (⟨⟨t.1.Conf.Labels,t.1.Conf.Queues⟩,t.1.Nodes,List.set t.1.Apps i3 a,x3,t.1.Slots,t.1.Plans,t.1.Now,t.1.Epoch,t.1.Seq⟩ : State)
   else
    none).bind fun s1 =>
 some (.inl (s1,w64 (t.2 + 1)))
 else
 some (.inr t.1)
theorem xY (ids : List Int) (t : State × Int) : Lo (mH ids t) (qx ids t):=by
 unfold mH qx
 repeat' (first | (with_reducible first | refine iJ _ _ _ ?_ | exact pM _ _ | exact n_ _ _ | apply af | apply ai | refine ah ?_ _ | exact ag _) | (intro _) | exact ae | (dsimp only))
def bT (s : State) (ids : List Int) : Option State :=
 (pg s).bind fun x =>
 (itr 4096 (mH ids) (x,0)).bind fun s2 =>
 (pg s2).bind fun x7 =>
 some x7
theorem fJ (s : State) (ids : List Int) : Lo (bT s ids) (cC s ids):=by
 unfold bT cC
 repeat' (first | (with_reducible first | exact Cz _ | exact xY _ _ | apply af | apply ai | refine ah ?_ _ | exact ag _) | (intro _) | exact ae | (dsimp only))
def m9 (s : State) : Option State :=
 (aG s.Conf.Labels).bind fun x =>
 (dv s.Conf.Queues).bind fun x1 =>
 (itr 4096 (vg x1) (x1,0)).bind fun q =>
 (dl s.Nodes).bind fun x5 =>
 (ba s.Conts).bind fun x6 =>
 (dw s.Slots).bind fun x7 =>
 (ia s.Plans).bind fun x8 =>
 (d_ s.Apps).bind fun x9 =>
 (itr 4096 (uR x9) (x9,0)).bind fun q1 =>
 some (⟨⟨x,q⟩,x5,q1,x6,x7,x8,s.Now,s.Epoch,s.Seq⟩ : State)
theorem uw (s : State) : Lo (m9 s) (nE s):=by
 unfold m9 nE
 repeat' (first | (with_reducible first | apply af | apply ai | refine ah ?_ _ | exact ag _) | (intro _) | exact ae | (dsimp only))
def j7 (s : State) (n : Node) : Option (State × Int) :=
 (m9 s).bind fun x =>
 (kD x n.Id).bind fun i =>
 (
 (bE n.Id 999).bind fun x1 =>
 bif ! x1 then
  some true
 else
  (bE n.Label (w64 ((x.Conf.Labels.length : Int) - 1))).bind fun x2 =>
  bif ! x2 then
  some true
  else
  (bE n.Rack 99).bind fun x3 =>
  bif ! x3 then
   some true
  else
   (bE n.Cap.Mem 1073741824).bind fun x4 =>
   bif ! x4 then
   some true
   else
   (bE n.Cap.Cores 1073741824).bind fun x5 =>
   some (! x5)).bind fun q =>
 bif q then
 some (x,1)
 else
 (
  bif decide (i ≥ 0) then
  (inb i x.Nodes.length).bind fun i1 =>
  (x.Nodes[i1]?).bind fun x6 =>
  some x6.Up
  else
  some false).bind fun q1 =>
 bif q1 then
  some (x,7)
 else
  (
  bif decide (i < 0) then
   some (decide ((x.Nodes.length : Int) ≥ 12))
  else
   some false).bind fun q2 =>
  bif q2 then
  some (x,4)
  else
  bif decide (i ≥ 0) then
   (inb i x.Nodes.length).bind fun i2 =>
   (x.Nodes[i2]?).bind fun x7 =>
   some ((⟨⟨x.Conf.Labels,x.Conf.Queues⟩,List.set x.Nodes i2 (⟨n.Id,n.Label,n.Rack,⟨n.Cap.Mem,n.Cap.Cores⟩,x.Now,0,true⟩ : Node),x.Apps,x.Conts,x.Slots,x.Plans,x.Now,x.Epoch,x.Seq⟩ : State),0)
  else
   (itr 4096 (o_ n x) 0).bind fun k1 =>
   (oJ x.Nodes k1 [(⟨n.Id,n.Label,n.Rack,⟨n.Cap.Mem,n.Cap.Cores⟩,x.Now,0,true⟩ : Node)]).bind fun x9 =>
   some ((⟨⟨x.Conf.Labels,x.Conf.Queues⟩,x9,x.Apps,x.Conts,x.Slots,x.Plans,x.Now,x.Epoch,x.Seq⟩ : State),0)
theorem vY (s : State) (n : Node) : Lo (j7 s n) (ja s n):=by
 unfold j7 ja
 repeat' (first | (with_reducible first | exact uw _ | exact rP _ _ | apply af | apply ai | refine ah ?_ _ | exact ag _) | (intro _) | exact ae | (dsimp only))
def cz (t : Step) (node : Int) : Option (List Int) :=
 (itr 4096 (nP t node) ([],0)).bind fun out1 =>
 some out1
theorem nB (t : Step) (node : Int) : Lo (cz t node) (cm t node):=by
 unfold cz cm
 repeat' (first | (with_reducible first | apply af | apply ai | refine ah ?_ _ | exact ag _) | (intro _) | exact ae | (dsimp only))
def qd (s : State) (id_ : Int) (beat : Int) : Option (State × Int) :=
 (m9 s).bind fun x =>
 (kD x id_).bind fun i =>
 bif decide (i < 0) then
 some (x,2)
 else
 (inb i x.Nodes.length).bind fun i1 =>
 (x.Nodes[i1]?).bind fun x1 =>
 bif ! x1.Up then
  some (x,18)
 else
  (
  bif decide (beat < 0) then
   some true
  else
   (inb i x.Nodes.length).bind fun i2 =>
   (x.Nodes[i2]?).bind fun x2 =>
   some (decide (beat < x2.Beat))).bind fun q =>
  bif q then
  some (x,15)
  else
  (inb i x.Nodes.length).bind fun i3 =>
  (x.Nodes[i3]?).bind fun x3 =>
  bif decide ((w64 (beat - x3.Beat)) > 1) then
   some (x,1)
  else
   (inb i x.Nodes.length).bind fun i4 =>
   (x.Nodes[i4]?).bind fun x4 =>
   (inb i (List.set x.Nodes i4 (⟨x4.Id,x4.Label,x4.Rack,⟨x4.Cap.Mem,x4.Cap.Cores⟩,x.Now,x4.Beat,x4.Up⟩ : Node)).length).bind fun i5 =>
   ((List.set x.Nodes i4 (⟨x4.Id,x4.Label,x4.Rack,⟨x4.Cap.Mem,x4.Cap.Cores⟩,x.Now,x4.Beat,x4.Up⟩ : Node))[i5]?).bind fun x5 =>
   some ((⟨⟨x.Conf.Labels,x.Conf.Queues⟩,List.set (List.set x.Nodes i4 (⟨x4.Id,x4.Label,x4.Rack,⟨x4.Cap.Mem,x4.Cap.Cores⟩,x.Now,x4.Beat,x4.Up⟩ : Node)) i5 (⟨x5.Id,x5.Label,x5.Rack,⟨x5.Cap.Mem,x5.Cap.Cores⟩,x5.Seen,beat,x5.Up⟩ : Node),x.Apps,x.Conts,x.Slots,x.Plans,x.Now,x.Epoch,x.Seq⟩ : State),0)
theorem AV (s : State) (id_ : Int) (beat : Int) : Lo (qd s id_ beat) (pB s id_ beat):=by
 unfold qd pB
 repeat' (first | (with_reducible first | exact uw _ | exact rP _ _ | apply af | apply ai | refine ah ?_ _ | exact ag _) | (intro _) | exact ae | (dsimp only))
def bY (s : List Int) (f : (TupT fam [.int .i64] → Option Bool)) (t : Int) : Option (Int ⊕ (Int ⊕ Unit)) :=
 bif decide (t < (s.length : Int)) then
 (idx s t).bind fun x =>
 (f (x,())).bind fun r =>
 bif r then
  some (.inr (.inl t))
 else
  some (.inl (w64 (t + 1)))
 else
 some (.inr (.inr ()))
theorem jC (s : List Int) (f f_' : (TupT fam [.int .i64] → Option Bool)) (h_f : ∀ a,Lo (f a) (f_' a)) (t : Int) : Lo (bY s f t) (cf s f_' t):=by
 unfold bY cf
 repeat' (first | (with_reducible first | exact h_f _ | apply af | apply ai | refine ah ?_ _ | exact ag _) | (intro _) | exact ae | (dsimp only))
def bA (s : List Int) (f : (TupT fam [.int .i64] → Option Bool)) : Option Int :=
 (itr 4096 (bY s f) 0).bind fun q0 =>
 match q0 with
 | .inl q =>
 some q
 | .inr _ =>
 some (-1)
theorem eP (s : List Int) (f f_' : (TupT fam [.int .i64] → Option Bool)) (h_f : ∀ a,Lo (f a) (f_' a)) : Lo (bA s f) (a7 s f_'):=by
 unfold bA a7
 repeat' (first | (with_reducible first | refine jC _ _ _ ?_ _ | exact h_f _ | apply aA | apply ay | apply az | apply af | apply ai | refine ah ?_ _ | exact ag _) | (intro _) | exact ae | (dsimp only))
def dV (del : (TupT fam [.int .i64] → Option Bool)) (t : List Int × Int × Int) : Option ((List Int × Int × Int) ⊕ ((List Int × Int))):=none
theorem jn (del del_' : (TupT fam [.int .i64] → Option Bool)) (h_del : ∀ a,Lo (del a) (del_' a)) (t : List Int × Int × Int) : Lo (dV del t) (ew del_' t):=ae
def bo (s : List Int) (del : (TupT fam [.int .i64] → Option Bool)) : Option (List Int) :=
 (bA s del).bind fun i =>
 bif i == (-1) then
 some s
 else
 (itr 4096 (dV del) (s,i,w64 (i + 1))).bind fun q1 =>
 (inS q1.2 (q1.1.length : Int) q1.1.length).bind fun p =>
 (inS 0 q1.2 (cpy q1.1 p.1 p.2 (List.replicate p.2 0)).length).bind fun p1 =>
 some (List.take p1.2 (cpy q1.1 p.1 p.2 (List.replicate p.2 0)))
theorem ez (s : List Int) (del del_' : (TupT fam [.int .i64] → Option Bool)) (h_del : ∀ a,Lo (del a) (del_' a)) : Lo (bo s del) (aY s del_'):=by
 unfold bo aY
 repeat' (first | (with_reducible first | refine eP _ _ _ ?_ | refine jn _ _ ?_ _ | exact h_del _ | apply af | apply ai | refine ah ?_ _ | exact ag _) | (intro _) | exact ae | (dsimp only))
def pU (s : State) (id_ : Int) : Option Vec :=
 (itr 4096 (tQ s id_) ((⟨0,0⟩ : Vec),0)).bind fun out1 =>
 some out1
theorem AS (s : State) (id_ : Int) : Lo (pU s id_) (pc s id_):=by
 unfold pU pc
 repeat' (first | (with_reducible first | apply af | apply ai | refine ah ?_ _ | exact ag _) | (intro _) | exact ae | (dsimp only))
def qI (s : State) (id_ : Int) : Option Vec :=
 (fT s id_).bind fun x =>
 (
 bif ! x.2 then
  some true
 else
  some (! x.1.Up)).bind fun q =>
 bif q then
 some (⟨0,0⟩ : Vec)
 else
 (pU s id_).bind fun x1 =>
 some (⟨imax (w64 (x.1.Cap.Mem - x1.Mem)) 0,imax (w64 (x.1.Cap.Cores - x1.Cores)) 0⟩ : Vec)
theorem AL (s : State) (id_ : Int) : Lo (qI s id_) (pn s id_):=by
 unfold qI pn
 repeat' (first | (with_reducible first | exact jK _ _ | exact AS _ _ | apply af | apply ai | refine ah ?_ _ | exact ag _) | (intro _) | exact ae | (dsimp only))
def ot (a : App) (prio : Int) : Option (Ask × Bool) :=
 (itr 4096 (sw a prio) ((⟨0,0,⟨0,0⟩,0,0,0,0⟩ : Ask),0)).bind fun q0 =>
 match q0 with
 | .inl q =>
 some (q.1,q.2)
 | .inr q1 =>
 some ((⟨0,0,⟨0,0⟩,0,0,0,0⟩ : Ask),false)
theorem yZ (a : App) (prio : Int) : Lo (ot a prio) (m0 a prio):=by
 unfold ot m0
 repeat' (first | (with_reducible first | apply aA | apply ay | apply az | apply af | apply ai | refine ah ?_ _ | exact ag _) | (intro _) | exact ae | (dsimp only))
def iH (v : View) (c : Cont) : Option (App × Bool) :=
 (itr 4096 (l_ v c) ((⟨0,0,[],0,0,⟨0,0⟩,[],0,0,[],[],[],[]⟩ : App),0)).bind fun q0 =>
 match q0 with
 | .inl q =>
 some (q.1,q.2)
 | .inr q1 =>
 some ((⟨0,0,[],0,0,⟨0,0⟩,[],0,0,[],[],[],[]⟩ : App),false)
theorem tZ (v : View) (c : Cont) : Lo (iH v c) (go v c):=by
 unfold iH go
 repeat' (first | (with_reducible first | apply aA | apply ay | apply az | apply af | apply ai | refine ah ?_ _ | exact ag _) | (intro _) | exact ae | (dsimp only))
def gx (v : View) (t : Vec × Int) : Option ((Vec × Int) ⊕ Vec) :=
 bif decide (t.2 < (v.s.Conts.length : Int)) then
 (
  (idx v.s.Conts t.2).bind fun x =>
  (iH v x).bind fun x1 =>
  (
  bif x1.2 then
   bif x.Label == v.label then
   (fN v x1.1).bind fun x2 =>
   some x2
   else
   some false
  else
   some false).bind fun q =>
  bif q then
  (dm t.1 x.Size).bind fun x3 =>
  some x3.1
  else
  some t.1).bind fun out =>
 some (.inl (out,w64 (t.2 + 1)))
 else
 some (.inr t.1)
theorem sF (v : View) (t : Vec × Int) : Lo (gx v t) (iy v t):=by
 unfold gx iy
 repeat' (first | (with_reducible first | exact tZ _ _ | apply af | apply ai | refine ah ?_ _ | exact ag _) | (intro _) | exact ae | (dsimp only))
def fA (v : View) : Option Vec :=
 (itr 4096 (gx v) ((⟨0,0⟩ : Vec),0)).bind fun out1 =>
 some out1
theorem nU (v : View) : Lo (fA v) (eZ v):=by
 unfold fA eZ
 repeat' (first | (with_reducible first | exact sF _ _ | apply af | apply ai | refine ah ?_ _ | exact ag _) | (intro _) | exact ae | (dsimp only))
def cX (s : State) (path : List UInt8) (label : Int) : Option Vec :=
 (fA (⟨⟨⟨s.Conf.Labels,s.Conf.Queues⟩,s.Nodes,s.Apps,s.Conts,s.Slots,s.Plans,s.Now,s.Epoch,s.Seq⟩,path,label,(-1)⟩ : View)).bind fun x =>
 some x
theorem eK (s : State) (path : List UInt8) (label : Int) : Lo (cX s path label) (cP s path label):=by
 unfold cX cP
 repeat' (first | (with_reducible first | exact nU _ | apply af | apply ai | refine ah ?_ _ | exact ag _) | (intro _) | exact ae | (dsimp only))
def np (l : List Vec) : Option Vec :=
 (itr 4096 (uy l) ((⟨0,0⟩ : Vec),0)).bind fun out =>
 some out
theorem uP (l : List Vec) : Lo (np l) (nX l):=by
 unfold np nX
 repeat' (first | (with_reducible first | apply af | apply ai | refine ah ?_ _ | exact ag _) | (intro _) | exact ae | (dsimp only))
def eL (s : State) (label : Int) : Option Vec :=
 (itr 4096 (r9 s label) ([],0)).bind fun l2 =>
 (np l2).bind fun x1 =>
 some x1
theorem iS (s : State) (label : Int) : Lo (eL s label) (ff s label):=by
 unfold eL ff
 repeat' (first | (with_reducible first | exact uP _ | apply af | apply ai | refine ah ?_ _ | exact ag _) | (intro _) | exact ae | (dsimp only))
def qJ (t : List UInt8 × List (List UInt8)) : Option ((List UInt8 × List (List UInt8)) ⊕ List (List UInt8)) :=
 bif ! (t.1 == ([] : List UInt8)) then
 (app 16 t.2 [t.1]).bind fun l =>
 (ig t.1).bind fun x =>
 some (.inl (x.1,l))
 else
 some (.inr t.2)
theorem AM (t : List UInt8 × List (List UInt8)) : Lo (qJ t) (tk t):=by
 unfold qJ tk
 repeat' (first | (with_reducible first | exact oG _ | apply af | apply ai | refine ah ?_ _ | exact ag _) | (intro _) | exact ae | (dsimp only))
def rA (path : List UInt8) : Option (List (List UInt8)) :=
 (itr 4096 qJ (path,[])).bind fun out =>
 some out
theorem yV (path : List UInt8) : Lo (rA path) (sG path):=by
 unfold rA sG
 repeat' (first | (with_reducible first | exact AM _ | apply af | apply ai | refine ah ?_ _ | exact ag _) | (intro _) | exact ae | (dsimp only))
def lS (s : State) (label : Int) (part : (TupT fam [.st 1] → Option Int)) (up : List (List UInt8)) (t : Vec × Vec × Int) : Option ((Vec × Vec × Int) ⊕ (Vec ⊕ (Vec × Vec))) :=
 bif decide (t.2.2 ≥ 0) then
 (inb t.2.2 up.length).bind fun i1 =>
 (up[i1]?).bind fun x2 =>
 (fp s.Conf x2).bind fun x3 =>
 (
  bif ! x3.2 then
  some true
  else
  bif decide (label < 0) then
   some true
  else
   some (decide (label ≥ (x3.1.Caps.length : Int)))).bind fun q =>
 bif q then
  some (.inr (.inl (⟨0,0⟩ : Vec)))
 else
  (inb label x3.1.Caps.length).bind fun i2 =>
  (x3.1.Caps[i2]?).bind fun x4 =>
  (part (x4,())).bind fun r =>
  (kF t.2.1 r).bind fun x5 =>
  some (.inl (t.1,x5.1,w64 (t.2.2 - 1)))
 else
 some (.inr (.inr (t.1,t.2.1)))
theorem xc (s : State) (label : Int) (part part_' : (TupT fam [.st 1] → Option Int)) (h_part : ∀ a,Lo (part a) (part_' a)) (up : List (List UInt8)) (t : Vec × Vec × Int) : Lo (lS s label part up t) (oX s label part_' up t):=by
 unfold lS oX
 repeat' (first | (with_reducible first | exact il _ _ | exact h_part _ | apply af | apply ai | refine ah ?_ _ | exact ag _) | (intro _) | exact ae | (dsimp only))
def lh (s : State) (path : List UInt8) (label : Int) (part : (TupT fam [.st 1] → Option Int)) : Option Vec :=
 (rA path).bind fun up =>
 (fp s.Conf path).bind fun x =>
 bif ! x.2 then
 some (⟨0,0⟩ : Vec)
 else
 (eL s label).bind fun x1 =>
 let i:=w64 ((up.length : Int) - 2)
 (itr 4096 (lS s label part up) ((⟨0,0⟩ : Vec),x1,i)).bind fun q0 =>
 match q0 with
 | .inl q1 =>
  some q1
 | .inr q2 =>
  some q2.2
theorem tR (s : State) (path : List UInt8) (label : Int) (part part_' : (TupT fam [.st 1] → Option Int)) (h_part : ∀ a,Lo (part a) (part_' a)) : Lo (lh s path label part) (kJ s path label part_'):=by
 unfold lh kJ
 repeat' (first | (with_reducible first | exact yV _ | exact il _ _ | exact iS _ _ | refine xc _ _ _ _ ?_ _ _ | exact h_part _ | apply aA | apply ay | apply az | apply af | apply ai | refine ah ?_ _ | exact ag _) | (intro _) | exact ae | (dsimp only))
def eN (s : State) (path : List UInt8) (label : Int) : Option Vec :=
 (lh s path label (fun a' => gu a'.1)).bind fun x =>
 some x
theorem iZ (s : State) (path : List UInt8) (label : Int) : Lo (eN s path label) (dS s path label):=by
 unfold eN dS
 repeat' (first | (with_reducible first | refine tR _ _ _ _ _ ?_ | apply af | apply ai | refine ah ?_ _ | exact ag _) | (intro _) | exact ae | (dsimp only))
def dJ (t : Attempt) (a : App) (x : Ask) : Option Bool :=
 (cX t.s a.Queue t.n.Label).bind fun x1 =>
 (dm x1 x.Size).bind fun x2 =>
 bif x2.2 == 0 then
 (eN t.s a.Queue t.n.Label).bind fun x3 =>
 (b7 x2.1 x3).bind fun x4 =>
 some x4
 else
 some false
theorem kn (t : Attempt) (a : App) (x : Ask) : Lo (dJ t a x) (cV t a x):=by
 unfold dJ cV
 repeat' (first | (with_reducible first | exact eK _ _ _ | exact iZ _ _ _ | apply af | apply ai | refine ah ?_ _ | exact ag _) | (intro _) | exact ae | (dsimp only))
def jU (s : State) (path : List UInt8) (label : Int) (user : Int) : Option Vec :=
 bif user == (-1) then
 some (⟨0,0⟩ : Vec)
 else
 (fA (⟨⟨⟨s.Conf.Labels,s.Conf.Queues⟩,s.Nodes,s.Apps,s.Conts,s.Slots,s.Plans,s.Now,s.Epoch,s.Seq⟩,path,label,user⟩ : View)).bind fun x =>
 some x
theorem wd (s : State) (path : List UInt8) (label : Int) (user : Int) : Lo (jU s path label user) (iX s path label user):=by
 unfold jU iX
 repeat' (first | (with_reducible first | exact nU _ | apply af | apply ai | refine ah ?_ _ | exact ag _) | (intro _) | exact ae | (dsimp only))
def pQ (s : State) (path : List UInt8) (label : Int) : Option Vec :=
 (fp s.Conf path).bind fun x =>
 (eN s path label).bind fun x1 =>
 (kF x1 x.1.User).bind fun x2 =>
 some x2.1
theorem AC (s : State) (path : List UInt8) (label : Int) : Lo (pQ s path label) (pF s path label):=by
 unfold pQ pF
 repeat' (first | (with_reducible first | exact il _ _ | exact iZ _ _ _ | apply af | apply ai | refine ah ?_ _ | exact ag _) | (intro _) | exact ae | (dsimp only))
def df (t : Attempt) (a : App) : Option Bool :=
 (jU t.s a.Queue t.n.Label a.User).bind fun x =>
 (pQ t.s a.Queue t.n.Label).bind fun x1 =>
 (b7 x x1).bind fun x2 =>
 some x2
theorem ju (t : Attempt) (a : App) : Lo (df t a) (cJ t a):=by
 unfold df cJ
 repeat' (first | (with_reducible first | exact wd _ _ _ _ | exact AC _ _ _ | apply af | apply ai | refine ah ?_ _ | exact ag _) | (intro _) | exact ae | (dsimp only))
def qk (s : State) (path : List UInt8) (label : Int) : Option Vec :=
 (lh s path label (fun a' => gW a'.1)).bind fun x =>
 some x
theorem AK (s : State) (path : List UInt8) (label : Int) : Lo (qk s path label) (kQ s path label):=by
 unfold qk kQ
 repeat' (first | (with_reducible first | refine tR _ _ _ _ _ ?_ | apply af | apply ai | refine ah ?_ _ | exact ag _) | (intro _) | exact ae | (dsimp only))
def qp (s : State) (label : Int) : Option Vec :=
 (itr 4096 (tM s label) ([],0)).bind fun l2 =>
 (np l2).bind fun x1 =>
 some x1
theorem AI (s : State) (label : Int) : Lo (qp s label) (pH s label):=by
 unfold qp pH
 repeat' (first | (with_reducible first | exact uP _ | apply af | apply ai | refine ah ?_ _ | exact ag _) | (intro _) | exact ae | (dsimp only))
def kE (s : State) (label : Int) (size : Vec) (x : List (List UInt8)) (t : Int) : Option (Int ⊕ (Bool ⊕ Unit)) :=
 bif decide (t < (x.length : Int)) then
 (inb t x.length).bind fun i =>
 (x[i]?).bind fun x1 =>
 (cX s x1 label).bind fun x2 =>
 (dm x2 size).bind fun x3 =>
 (
  bif x3.2 != 0 then
  some true
  else
  (qk s x1 label).bind fun x4 =>
  (b7 x3.1 x4).bind fun x5 =>
  some (! x5)).bind fun q =>
 bif q then
  some (.inr (.inl false))
 else
  (eL s label).bind fun x6 =>
  (qp s label).bind fun x7 =>
  (
  bif x1 == ([114,111,111,116] : List UInt8) then
   bif ! (((imax (w64 (x6.Mem - x7.Mem)) 0) == x6.Mem) && ((imax (w64 (x6.Cores - x7.Cores)) 0) == x6.Cores)) then
   (b7 x3.1 (⟨imax (w64 (x6.Mem - x7.Mem)) 0,imax (w64 (x6.Cores - x7.Cores)) 0⟩ : Vec)).bind fun x8 =>
   some (! x8)
   else
   some false
  else
   some false).bind fun q1 =>
  bif q1 then
  some (.inr (.inl false))
  else
  some (.inl (w64 (t + 1)))
 else
 some (.inr (.inr ()))
theorem xt (s : State) (label : Int) (size : Vec) (x : List (List UInt8)) (t : Int) : Lo (kE s label size x t) (oS s label size x t):=by
 unfold kE oS
 repeat' (first | (with_reducible first | exact eK _ _ _ | exact AK _ _ _ | exact iS _ _ | exact AI _ _ | apply af | apply ai | refine ah ?_ _ | exact ag _) | (intro _) | exact ae | (dsimp only))
def pX (s : State) (path : List UInt8) (label : Int) (size : Vec) : Option Bool :=
 (rA path).bind fun x =>
 (itr 4096 (kE s label size x) 0).bind fun q0 =>
 match q0 with
 | .inl q2 =>
 some q2
 | .inr _ =>
 some true
theorem AP (s : State) (path : List UInt8) (label : Int) (size : Vec) : Lo (pX s path label size) (pw s path label size):=by
 unfold pX pw
 repeat' (first | (with_reducible first | exact yV _ | exact xt _ _ _ _ _ | apply aA | apply ay | apply az | apply af | apply ai | refine ah ?_ _ | exact ag _) | (intro _) | exact ae | (dsimp only))
def di (t : Attempt) (a : App) (x : Ask) : Option Bool :=
 (pX t.s a.Queue t.n.Label x.Size).bind fun x1 =>
 some x1
theorem jx (t : Attempt) (a : App) (x : Ask) : Lo (di t a x) (cK t a x):=by
 unfold di cK
 repeat' (first | (with_reducible first | exact AP _ _ _ _ | apply af | apply ai | refine ah ?_ _ | exact ag _) | (intro _) | exact ae | (dsimp only))
def pe (s : State) (a : App) : Option State :=
 (kc s a.Id).bind fun i =>
 bif decide (i ≥ 0) then
 (inb i s.Apps.length).bind fun i1 =>
 (s.Apps[i1]?).bind fun x =>
 some (⟨⟨s.Conf.Labels,s.Conf.Queues⟩,s.Nodes,List.set s.Apps i1 a,s.Conts,s.Slots,s.Plans,s.Now,s.Epoch,s.Seq⟩ : State)
 else
 (itr 4096 (wA s a) 0).bind fun k1 =>
 (qw s.Apps k1 [a]).bind fun x2 =>
 some (⟨⟨s.Conf.Labels,s.Conf.Queues⟩,s.Nodes,x2,s.Conts,s.Slots,s.Plans,s.Now,s.Epoch,s.Seq⟩ : State)
theorem wl (s : State) (a : App) : Lo (pe s a) (qv s a):=by
 unfold pe qv
 repeat' (first | (with_reducible first | exact pM _ _ | apply af | apply ai | refine ah ?_ _ | exact ag _) | (intro _) | exact ae | (dsimp only))
def pC (s : State) (a : App) : Option State :=
 (lO s).bind fun x =>
 (jZ a).bind fun x1 =>
 (pe x x1).bind fun x2 =>
 some x2
theorem wy (s : State) (a : App) : Lo (pC s a) (qr s a):=by
 unfold pC qr
 repeat' (first | (with_reducible first | exact tL _ | exact wl _ _ | apply af | apply ai | refine ah ?_ _ | exact ag _) | (intro _) | exact ae | (dsimp only))
def ji (s : List Ask) (f : (TupT fam [.st 5] → Option Bool)) (t : Int) : Option (Int ⊕ (Int ⊕ Unit)) :=
 bif decide (t < (s.length : Int)) then
 (idx s t).bind fun x =>
 (f (x,())).bind fun r =>
 bif r then
  some (.inr (.inl t))
 else
  some (.inl (w64 (t + 1)))
 else
 some (.inr (.inr ()))
theorem vo (s : List Ask) (f f_' : (TupT fam [.st 5] → Option Bool)) (h_f : ∀ a,Lo (f a) (f_' a)) (t : Int) : Lo (ji s f t) (lW s f_' t):=by
 unfold ji lW
 repeat' (first | (with_reducible first | exact h_f _ | apply af | apply ai | refine ah ?_ _ | exact ag _) | (intro _) | exact ae | (dsimp only))
def iP (s : List Ask) (f : (TupT fam [.st 5] → Option Bool)) : Option Int :=
 (itr 4096 (ji s f) 0).bind fun q0 =>
 match q0 with
 | .inl q =>
 some q
 | .inr _ =>
 some (-1)
theorem rg (s : List Ask) (f f_' : (TupT fam [.st 5] → Option Bool)) (h_f : ∀ a,Lo (f a) (f_' a)) : Lo (iP s f) (iI s f_'):=by
 unfold iP iI
 repeat' (first | (with_reducible first | refine vo _ _ _ ?_ _ | exact h_f _ | apply aA | apply ay | apply az | apply af | apply ai | refine ah ?_ _ | exact ag _) | (intro _) | exact ae | (dsimp only))
def uE (l : List Ask) (prio : Int) : Option Int :=
 (iP l (fun a' => uT a'.1 prio)).bind fun x =>
 some x
theorem DI (l : List Ask) (prio : Int) : Lo (uE l prio) (vF l prio):=by
 unfold uE vF
 repeat' (first | (with_reducible first | refine rg _ _ _ ?_ | apply af | apply ai | refine ah ?_ _ | exact ag _) | (intro _) | exact ae | (dsimp only))
def rW (l : List Ask) (prio : Int) : Option (List Ask × Bool) :=
 (qP l).bind fun out =>
 (uE out prio).bind fun i =>
 bif decide (i < 0) then
 some (out,false)
 else
 (inb i out.length).bind fun i1 =>
 (out[i1]?).bind fun x =>
 (inb i (List.set out i1 (⟨x.Prio,x.Label,⟨x.Size.Mem,x.Size.Cores⟩,x.Count,x.Node,x.Rack,0⟩ : Ask)).length).bind fun i2 =>
 ((List.set out i1 (⟨x.Prio,x.Label,⟨x.Size.Mem,x.Size.Cores⟩,x.Count,x.Node,x.Rack,0⟩ : Ask))[i2]?).bind fun x1 =>
 (inb i (List.set out i1 (⟨x.Prio,x.Label,⟨x.Size.Mem,x.Size.Cores⟩,x.Count,x.Node,x.Rack,0⟩ : Ask)).length).bind fun i3 =>
 ((List.set out i1 (⟨x.Prio,x.Label,⟨x.Size.Mem,x.Size.Cores⟩,x.Count,x.Node,x.Rack,0⟩ : Ask))[i3]?).bind fun x2 =>
 (
  (inb i (List.set (List.set out i1 (⟨x.Prio,x.Label,⟨x.Size.Mem,x.Size.Cores⟩,x.Count,x.Node,x.Rack,0⟩ : Ask)) i3 (⟨x2.Prio,x2.Label,⟨x2.Size.Mem,x2.Size.Cores⟩,w64 (x1.Count - 1),x2.Node,x2.Rack,x2.Missed⟩ : Ask)).length).bind fun i4 =>
  ((List.set (List.set out i1 (⟨x.Prio,x.Label,⟨x.Size.Mem,x.Size.Cores⟩,x.Count,x.Node,x.Rack,0⟩ : Ask)) i3 (⟨x2.Prio,x2.Label,⟨x2.Size.Mem,x2.Size.Cores⟩,w64 (x1.Count - 1),x2.Node,x2.Rack,x2.Missed⟩ : Ask))[i4]?).bind fun x3 =>
  bif decide (x3.Count ≤ 0) then
  (qn (List.set (List.set out i1 (⟨x.Prio,x.Label,⟨x.Size.Mem,x.Size.Cores⟩,x.Count,x.Node,x.Rack,0⟩ : Ask)) i3 (⟨x2.Prio,x2.Label,⟨x2.Size.Mem,x2.Size.Cores⟩,w64 (x1.Count - 1),x2.Node,x2.Rack,x2.Missed⟩ : Ask)) i (w64 (i + 1))).bind fun out1 =>
  some out1
  else
  some (List.set (List.set out i1 (⟨x.Prio,x.Label,⟨x.Size.Mem,x.Size.Cores⟩,x.Count,x.Node,x.Rack,0⟩ : Ask)) i3 (⟨x2.Prio,x2.Label,⟨x2.Size.Mem,x2.Size.Cores⟩,w64 (x1.Count - 1),x2.Node,x2.Rack,x2.Missed⟩ : Ask))).bind fun out2 =>
 some (out2,true)
theorem Bo (l : List Ask) (prio : Int) : Lo (rW l prio) (rz l prio):=by
 unfold rW rz
 repeat' (first | (with_reducible first | exact DI _ _ | apply af | apply ai | refine ah ?_ _ | exact ag _) | (intro _) | exact ae | (dsimp only))
def cQ (t : Attempt) (a : App) (x : Ask) : Option (Cont × Attempt) :=
 (rW a.Asks x.Prio).bind fun x1 =>
 (
 bif a.State == 1 then
  some (⟨a.Id,2,a.Queue,a.User,a.Prio,⟨a.Master.Mem,a.Master.Cores⟩,[],t.s.Now,0,a.Grants,a.Kills,a.Told,a.Lost⟩ : App)
 else
  (app 8 a.Grants [w64 ((shlK .i64 t.s.Epoch 20) + (w64 (t.s.Seq + 1)))]).bind fun l =>
  some (⟨a.Id,a.State,a.Queue,a.User,a.Prio,⟨a.Master.Mem,a.Master.Cores⟩,x1.1,a.Seen,a.Beat,l,a.Kills,a.Told,a.Lost⟩ : App)).bind fun a1 =>
 (pC (⟨⟨t.s.Conf.Labels,t.s.Conf.Queues⟩,t.s.Nodes,t.s.Apps,t.s.Conts,t.s.Slots,t.s.Plans,t.s.Now,t.s.Epoch,w64 (t.s.Seq + 1)⟩ : State) a1).bind fun x2 =>
 (itr 4096 (jd t x2) 0).bind fun k1 =>
 (oW x2.Conts k1 [(⟨w64 ((shlK .i64 t.s.Epoch 20) + (w64 (t.s.Seq + 1))),a.Id,t.n.Id,⟨x.Size.Mem,x.Size.Cores⟩,x.Prio,x.Label,a.State == 1,0⟩ : Cont)]).bind fun x4 =>
 some ((⟨w64 ((shlK .i64 t.s.Epoch 20) + (w64 (t.s.Seq + 1))),a.Id,t.n.Id,⟨x.Size.Mem,x.Size.Cores⟩,x.Prio,x.Label,a.State == 1,0⟩ : Cont),(⟨⟨⟨x2.Conf.Labels,x2.Conf.Queues⟩,x2.Nodes,x2.Apps,x4,x2.Slots,x2.Plans,x2.Now,x2.Epoch,x2.Seq⟩,⟨t.n.Id,t.n.Label,t.n.Rack,⟨t.n.Cap.Mem,t.n.Cap.Cores⟩,t.n.Seen,t.n.Beat,t.n.Up⟩,⟨t.free.Mem,t.free.Cores⟩⟩ : Attempt))
theorem je (t : Attempt) (a : App) (x : Ask) : Lo (cQ t a x) (cj t a x):=by
 unfold cQ cj
 repeat' (first | (with_reducible first | exact Bo _ _ | exact wy _ _ | apply af | apply ai | refine ah ?_ _ | exact ag _) | (intro _) | exact ae | (dsimp only))
def fQ (t : Attempt) : Option (Int × Cont × Bool × Attempt) :=
 (jv t.s.Slots (fun a' => fX a'.1 t)).bind fun i =>
 bif decide (i < 0) then
 some (0,(⟨0,0,0,⟨0,0⟩,0,0,false,0⟩ : Cont),false,t)
 else
 (inb i t.s.Slots.length).bind fun i1 =>
 (t.s.Slots[i1]?).bind fun x =>
 (e_ t.s x.App).bind fun x1 =>
 (ot x1.1 x.Prio).bind fun x2 =>
 (
  bif x1.2 then
  (cD x1.1).bind fun x3 =>
  bif x3 then
   bif x2.2 then
   (iM x2.1 t.n).bind fun x4 =>
   bif x4 then
    (cw t x2.1).bind fun x5 =>
    bif x5 then
    (dJ t x1.1 x2.1).bind fun x6 =>
    bif x6 then
     (df t x1.1).bind fun x7 =>
     some x7
    else
     some false
    else
    some false
   else
    some false
   else
   some false
  else
   some false
  else
  some false).bind fun stays =>
 (
  bif stays then
  (cI t x2.1).bind fun x8 =>
  bif x8 then
   (di t x1.1 x2.1).bind fun x9 =>
   some (! x9)
  else
   some true
  else
  some false).bind fun q =>
 bif q then
  some (3,(⟨0,0,0,⟨0,0⟩,0,0,false,0⟩ : Cont),true,t)
 else
  (oU t.s.Slots i (w64 (i + 1))).bind fun x10 =>
  bif ! stays then
  some (0,(⟨0,0,0,⟨0,0⟩,0,0,false,0⟩ : Cont),false,(⟨⟨⟨t.s.Conf.Labels,t.s.Conf.Queues⟩,t.s.Nodes,t.s.Apps,t.s.Conts,x10,t.s.Plans,t.s.Now,t.s.Epoch,t.s.Seq⟩,⟨t.n.Id,t.n.Label,t.n.Rack,⟨t.n.Cap.Mem,t.n.Cap.Cores⟩,t.n.Seen,t.n.Beat,t.n.Up⟩,⟨t.free.Mem,t.free.Cores⟩⟩ : Attempt))
  else
  (cQ (⟨⟨⟨t.s.Conf.Labels,t.s.Conf.Queues⟩,t.s.Nodes,t.s.Apps,t.s.Conts,x10,t.s.Plans,t.s.Now,t.s.Epoch,t.s.Seq⟩,⟨t.n.Id,t.n.Label,t.n.Rack,⟨t.n.Cap.Mem,t.n.Cap.Cores⟩,t.n.Seen,t.n.Beat,t.n.Up⟩,⟨t.free.Mem,t.free.Cores⟩⟩ : Attempt) x1.1 x2.1).bind fun x11 =>
  some (1,x11.1,true,x11.2)
theorem rJ (t : Attempt) : Lo (fQ t) (em t):=by
 unfold fQ em
 repeat' (first | (with_reducible first | refine qh _ _ _ ?_ | exact ip _ _ | exact yZ _ _ | exact kn _ _ _ | exact ju _ _ | exact jx _ _ _ | exact je _ _ _ | apply af | apply ai | refine ah ?_ _ | exact ag _) | (intro _) | exact ae | (dsimp only))
def n9 (s : List Load) (f : (TupT fam [.st 15,.st 15] → Option Int)) : Option (List Load):=sortG (F:=fam) (.st 15) f s
theorem zN (s : List Load) (f f_' : (TupT fam [.st 15,.st 15] → Option Int)) (h_f : ∀ a,Lo (f a) (f_' a)) : Lo (n9 s f) (ni s f_'):=by
 unfold n9 ni
 repeat' (first | (with_reducible first | refine GY ?_ _ | exact h_f _ | apply af | apply ai | refine ah ?_ _ | exact ag _) | (intro _) | exact ae | (dsimp only))
def kO (s : State) (label : Int) (x : List (List UInt8)) (t : List Load × Int) : Option ((List Load × Int) ⊕ List Load) :=
 bif decide (t.2 < (x.length : Int)) then
 (inb t.2 x.length).bind fun i =>
 (x[i]?).bind fun x1 =>
 (cX s x1 label).bind fun x2 =>
 (eN s x1 label).bind fun x3 =>
 (app 48 t.1 [(⟨x1,⟨x2.Mem,x2.Cores⟩,⟨x3.Mem,x3.Cores⟩⟩ : Load)]).bind fun l =>
 some (.inl (l,w64 (t.2 + 1)))
 else
 some (.inr t.1)
theorem xg (s : State) (label : Int) (x : List (List UInt8)) (t : List Load × Int) : Lo (kO s label x t) (oL s label x t):=by
 unfold kO oL
 repeat' (first | (with_reducible first | exact eK _ _ _ | exact iZ _ _ _ | apply af | apply ai | refine ah ?_ _ | exact ag _) | (intro _) | exact ae | (dsimp only))
def qy (s : State) (path : List UInt8) (label : Int) : Option (List (List UInt8)) :=
 (gL s.Conf path).bind fun x =>
 (itr 4096 (kO s label x) ([],0)).bind fun l1 =>
 (n9 l1 (fun a' => ii a'.1 a'.2.1)).bind fun x4 =>
 (mkl 16 (x4.length : Int) (x4.length : Int) []).bind fun l2 =>
 (itr 4096 (tJ x4) (l2,0)).bind fun out =>
 some out
theorem AQ (s : State) (path : List UInt8) (label : Int) : Lo (qy s path label) (pA s path label):=by
 unfold qy pA
 repeat' (first | (with_reducible first | exact kL _ _ | exact xg _ _ _ _ | refine zN _ _ _ ?_ | apply af | apply ai | refine ah ?_ _ | exact ag _) | (intro _) | exact ae | (dsimp only))
def nI (s : State) (label : Int) (deep : Int) (self : State → (List UInt8) → Int → Int → Option (List (List UInt8))) (kids : List (List UInt8)) (t : List (List UInt8) × Int) : Option ((List (List UInt8) × Int) ⊕ List (List UInt8)):=none
theorem uj (s : State) (label : Int) (deep : Int) (self self_' : State → (List UInt8) → Int → Int → Option (List (List UInt8))) (h_self : ∀ (a0 : State) (a1 : (List UInt8)) (a2 : Int) (a3 : Int),Lo (self a0 a1 a2 a3) (self_' a0 a1 a2 a3)) (kids : List (List UInt8)) (t : List (List UInt8) × Int) : Lo (nI s label deep self kids t) (qt s label deep self_' kids t):=ae
def lK (self : State → (List UInt8) → Int → Int → Option (List (List UInt8))) (s : State) (path : List UInt8) (label : Int) (deep : Int) : Option (List (List UInt8)) :=
 (qy s path label).bind fun kids =>
 (
 bif (kids.length : Int) == 0 then
  some true
 else
  some (decide (deep > 4))).bind fun q =>
 bif q then
 some [path]
 else
 (itr 4096 (nI s label deep self kids) ([],0)).bind fun out =>
 some out
theorem xn (self self_' : State → (List UInt8) → Int → Int → Option (List (List UInt8))) (h_self : ∀ (a0 : State) (a1 : (List UInt8)) (a2 : Int) (a3 : Int),Lo (self a0 a1 a2 a3) (self_' a0 a1 a2 a3)) (s : State) (path : List UInt8) (label : Int) (deep : Int) : Lo (lK self s path label deep) (oH self_' s path label deep):=by
 unfold lK oH
 repeat' (first | (with_reducible first | exact AQ _ _ _ | refine uj _ _ _ _ _ ?_ _ _ | refine h_self _ _ _ _ | apply af | apply ai | refine ah ?_ _ | exact ag _) | (intro _) | exact ae | (dsimp only))
def hF : Nat → State → (List UInt8) → Int → Int → Option (List (List UInt8))
 | 0 => fun _ _ _ _ => none
 | n + 1 => lK (hF n)
theorem qC : ∀ (n : Nat),∀ (a0 : State) (a1 : List UInt8) (a2 : Int) (a3 : Int),Lo (hF n a0 a1 a2 a3) (gF n a0 a1 a2 a3)
 | 0 => fun _ _ _ _ => ae
 | n + 1 => fun a0 a1 a2 a3 => xn (hF n) (gF n) (qC n) a0 a1 a2 a3
def oz (a0 : State) (a1 : List UInt8) (a2 : Int) (a3 : Int) : Option (List (List UInt8)):=hF 64 a0 a1 a2 a3
theorem zm (a0 : State) (a1 : List UInt8) (a2 : Int) (a3 : Int) : Lo (oz a0 a1 a2 a3) (nk a0 a1 a2 a3):=by
 unfold oz nk
 repeat' (first | (with_reducible first | refine qC _ _ _ _ _ | apply af | apply ai | refine ah ?_ _ | exact ag _) | (intro _) | exact ae | (dsimp only))
def ml (s : State) (label : Int) : Option (List (List UInt8)) :=
 (oz s ([114,111,111,116] : List UInt8) label 1).bind fun x =>
 some x
theorem xD (s : State) (label : Int) : Lo (ml s label) (lD s label):=by
 unfold ml lD
 repeat' (first | (with_reducible first | exact zm _ _ _ _ | apply af | apply ai | refine ah ?_ _ | exact ag _) | (intro _) | exact ae | (dsimp only))
def js (a : Int) (cmp : (TupT fam [.st 6,.st 6] → Option Int)) (t1 : List App × Int) : Option ((List App × Int) ⊕ List App) :=
 (
 bif decide (t1.2 > a) then
  (inb t1.2 t1.1.length).bind fun i =>
  (t1.1[i]?).bind fun x =>
  (inb (w64 (t1.2 - 1)) t1.1.length).bind fun i1 =>
  (t1.1[i1]?).bind fun x1 =>
  (cmp (x,x1,())).bind fun r =>
  some (decide (r < 0))
 else
  some false).bind fun q =>
 bif q then
 (inb (w64 (t1.2 - 1)) t1.1.length).bind fun i2 =>
 (t1.1[i2]?).bind fun x2 =>
 (inb t1.2 t1.1.length).bind fun i3 =>
 (t1.1[i3]?).bind fun x3 =>
 (inb t1.2 t1.1.length).bind fun i4 =>
 (t1.1[i4]?).bind fun x4 =>
 (inb (w64 (t1.2 - 1)) (List.set t1.1 i4 x2).length).bind fun i5 =>
 ((List.set t1.1 i4 x2)[i5]?).bind fun x5 =>
 some (.inl (List.set (List.set t1.1 i4 x2) i5 x3,w64 (t1.2 - 1)))
 else
 some (.inr t1.1)
theorem uN (a : Int) (cmp cmp_' : (TupT fam [.st 6,.st 6] → Option Int)) (h_cmp : ∀ a,Lo (cmp a) (cmp_' a)) (t1 : List App × Int) : Lo (js a cmp t1) (kT a cmp_' t1):=by
 unfold js kT
 repeat' (first | (with_reducible first | exact h_cmp _ | apply af | apply ai | refine ah ?_ _ | exact ag _) | (intro _) | exact ae | (dsimp only))
def jr (a : Int) (b : Int) (cmp : (TupT fam [.st 6,.st 6] → Option Int)) (t : List App × Int) : Option ((List App × Int) ⊕ List App) :=
 bif decide (t.2 < b) then
 (itr 4096 (js a cmp) (t.1,t.2)).bind fun data1 =>
 some (.inl (data1,w64 (t.2 + 1)))
 else
 some (.inr t.1)
theorem uU (a : Int) (b : Int) (cmp cmp_' : (TupT fam [.st 6,.st 6] → Option Int)) (h_cmp : ∀ a,Lo (cmp a) (cmp_' a)) (t : List App × Int) : Lo (jr a b cmp t) (lV a b cmp_' t):=by
 unfold jr lV
 repeat' (first | (with_reducible first | refine uN _ _ _ ?_ _ | exact h_cmp _ | apply af | apply ai | refine ah ?_ _ | exact ag _) | (intro _) | exact ae | (dsimp only))
def iT (data : List App) (a : Int) (b : Int) (cmp : (TupT fam [.st 6,.st 6] → Option Int)) : Option (List App) :=
 (itr 4096 (jr a b cmp) (data,w64 (a + 1))).bind fun data2 =>
 some data2
theorem ri (data : List App) (a : Int) (b : Int) (cmp cmp_' : (TupT fam [.st 6,.st 6] → Option Int)) (h_cmp : ∀ a,Lo (cmp a) (cmp_' a)) : Lo (iT data a b cmp) (iC data a b cmp_'):=by
 unfold iT iC
 repeat' (first | (with_reducible first | refine uU _ _ _ _ ?_ _ | exact h_cmp _ | apply af | apply ai | refine ah ?_ _ | exact ag _) | (intro _) | exact ae | (dsimp only))
def so (a0 : List App) (a1 : Int) (a2 : Int) (a3 : Int) (a4 : (TupT fam [.st 6,.st 6] → Option Int)) : Option (List App):=none
theorem yR (a0 : List App) (a1 : Int) (a2 : Int) (a3 : Int) (a4 a4_' : (TupT fam [.st 6,.st 6] → Option Int)) (h_a4 : ∀ a,Lo (a4 a) (a4_' a)) : Lo (so a0 a1 a2 a3 a4) (lC a0 a1 a2 a3 a4_'):=ae
def oY (n : Int) (cmp : (TupT fam [.st 6,.st 6] → Option Int)) (t1 : List App × Int) (t2 : List App × Int × Int) : Option ((List App × Int × Int) ⊕ ((List App × Int))):=none
theorem uG (n : Int) (cmp cmp_' : (TupT fam [.st 6,.st 6] → Option Int)) (h_cmp : ∀ a,Lo (cmp a) (cmp_' a)) (t1 : List App × Int) (t2 : List App × Int × Int) : Lo (oY n cmp t1 t2) (rf n cmp_' t1 t2):=ae
def jt (n : Int) (cmp : (TupT fam [.st 6,.st 6] → Option Int)) (t1 : List App × Int) : Option ((List App × Int) ⊕ List App) :=
 bif decide (t1.2 < n) then
 (itr 4096 (oY n cmp t1) (t1.1,0,w64 (2 * t1.2))).bind fun q1 =>
 (
  let m:=w64 (q1.2 + t1.2)
  bif decide (m < n) then
  (so q1.1 q1.2 m n cmp).bind fun x3 =>
  some x3
  else
  some q1.1).bind fun data1 =>
 some (.inl (data1,w64 (t1.2 * 2)))
 else
 some (.inr t1.1)
theorem u_ (n : Int) (cmp cmp_' : (TupT fam [.st 6,.st 6] → Option Int)) (h_cmp : ∀ a,Lo (cmp a) (cmp_' a)) (t1 : List App × Int) : Lo (jt n cmp t1) (lH n cmp_' t1):=by
 unfold jt lH
 repeat' (first | (with_reducible first | refine uG _ _ _ ?_ _ _ | refine yR _ _ _ _ _ _ ?_ | exact h_cmp _ | apply af | apply ai | refine ah ?_ _ | exact ag _) | (intro _) | exact ae | (dsimp only))
def jm (n : Int) (cmp : (TupT fam [.st 6,.st 6] → Option Int)) (t : List App × Int × Int) : Option ((List App × Int × Int) ⊕ ((List App × Int))) :=
 bif decide (t.2.2 ≤ n) then
 (iT t.1 t.2.1 t.2.2 cmp).bind fun x =>
 some (.inl (x,t.2.2,w64 (t.2.2 + 20)))
 else
 some (.inr (t.1,t.2.1))
theorem uO (n : Int) (cmp cmp_' : (TupT fam [.st 6,.st 6] → Option Int)) (h_cmp : ∀ a,Lo (cmp a) (cmp_' a)) (t : List App × Int × Int) : Lo (jm n cmp t) (lM n cmp_' t):=by
 unfold jm lM
 repeat' (first | (with_reducible first | refine ri _ _ _ _ _ ?_ | exact h_cmp _ | apply af | apply ai | refine ah ?_ _ | exact ag _) | (intro _) | exact ae | (dsimp only))
def mD (data : List App) (n : Int) (cmp : (TupT fam [.st 6,.st 6] → Option Int)) : Option (List App) :=
 (itr 4096 (jm n cmp) (data,0,20)).bind fun q =>
 (iT q.1 q.2 n cmp).bind fun x1 =>
 (itr 4096 (jt n cmp) (x1,20)).bind fun data2 =>
 some data2
theorem xQ (data : List App) (n : Int) (cmp cmp_' : (TupT fam [.st 6,.st 6] → Option Int)) (h_cmp : ∀ a,Lo (cmp a) (cmp_' a)) : Lo (mD data n cmp) (kZ data n cmp_'):=by
 unfold mD kZ
 repeat' (first | (with_reducible first | refine uO _ _ _ ?_ _ | refine ri _ _ _ _ _ ?_ | refine u_ _ _ _ ?_ _ | exact h_cmp _ | apply af | apply ai | refine ah ?_ _ | exact ag _) | (intro _) | exact ae | (dsimp only))
def mh (x : List App) (cmp : (TupT fam [.st 6,.st 6] → Option Int)) : Option (List App) :=
 (mD x (x.length : Int) cmp).bind fun x1 =>
 some x1
theorem yL (x : List App) (cmp cmp_' : (TupT fam [.st 6,.st 6] → Option Int)) (h_cmp : ∀ a,Lo (cmp a) (cmp_' a)) : Lo (mh x cmp) (lq x cmp_'):=by
 unfold mh lq
 repeat' (first | (with_reducible first | refine xQ _ _ _ _ ?_ | exact h_cmp _ | apply af | apply ai | refine ah ?_ _ | exact ag _) | (intro _) | exact ae | (dsimp only))
def oN (vals : List Int) : Option Int :=
 (itr 4096 (sC vals) 0).bind fun q0 =>
 match q0 with
 | .inl q =>
 some q
 | .inr _ =>
 some 0
theorem zB (vals : List Int) : Lo (oN vals) (na vals):=by
 unfold oN na
 repeat' (first | (with_reducible first | apply aA | apply ay | apply az | apply af | apply ai | refine ah ?_ _ | exact ag _) | (intro _) | exact ae | (dsimp only))
def mO (a : App) (b : App) : Option Int :=
 (eb b.Prio a.Prio).bind fun x =>
 (eb a.Id b.Id).bind fun x1 =>
 (oN [x,x1]).bind fun x2 =>
 some x2
theorem yi (a : App) (b : App) : Lo (mO a b) (lv a b):=by
 unfold mO lv
 repeat' (first | (with_reducible first | exact zB _ | apply af | apply ai | refine ah ?_ _ | exact ag _) | (intro _) | exact ae | (dsimp only))
def p_ (s : State) (queue : List UInt8) : Option (List Int) :=
 (itr 4096 (tV s queue) ([],0)).bind fun l2 =>
 (mh l2 (fun a' => mO a'.1 a'.2.1)).bind fun x2 =>
 (mkl 8 (x2.length : Int) (x2.length : Int) 0).bind fun l3 =>
 (itr 4096 (tP x2) (l3,0)).bind fun out =>
 some out
theorem AJ (s : State) (queue : List UInt8) : Lo (p_ s queue) (ph s queue):=by
 unfold p_ ph
 repeat' (first | (with_reducible first | refine yL _ _ _ ?_ | exact yi _ _ | apply af | apply ai | refine ah ?_ _ | exact ag _) | (intro _) | exact ae | (dsimp only))
def fP (t : Attempt) (id_ : Int) (prio : Int) : Option (Bool × Attempt) :=
 (iV t.s.Slots (fun a' => fG a'.1 id_ prio)).bind fun x =>
 bif x then
 some (false,t)
 else
 (itr 4096 (jF t) 0).bind fun k1 =>
 (oD t.s.Slots k1 [(⟨t.n.Id,id_,prio⟩ : Slot)]).bind fun x2 =>
 some (true,(⟨⟨⟨t.s.Conf.Labels,t.s.Conf.Queues⟩,t.s.Nodes,t.s.Apps,t.s.Conts,x2,t.s.Plans,t.s.Now,t.s.Epoch,t.s.Seq⟩,⟨t.n.Id,t.n.Label,t.n.Rack,⟨t.n.Cap.Mem,t.n.Cap.Cores⟩,t.n.Seen,t.n.Beat,t.n.Up⟩,⟨t.free.Mem,t.free.Cores⟩⟩ : Attempt))
theorem rT (t : Attempt) (id_ : Int) (prio : Int) : Lo (fP t id_ prio) (eu t id_ prio):=by
 unfold fP eu
 repeat' (first | (with_reducible first | refine qY _ _ _ ?_ | apply af | apply ai | refine ah ?_ _ | exact ag _) | (intro _) | exact ae | (dsimp only))
def dF (first : Bool) (may : (TupT fam [.st 5,.st 4] → Option Bool)) (x2 : Int) (x5 : List Ask) (t3 : Attempt × Cont × App × Int) : Option ((Attempt × Cont × App × Int) ⊕ ((Attempt × Int × Cont) ⊕ (Attempt × Cont))) :=
 bif decide (t3.2.2.2 < (x5.length : Int)) then
 (
  (inb t3.2.2.2 x5.length).bind fun i1 =>
  (x5[i1]?).bind fun x6 =>
  (dJ t3.1 t3.2.2.1 x6).bind fun due =>
  (
  (cw t3.1 x6).bind fun x7 =>
  bif ! x7 then
   some true
  else
   bif first then
   some (! due)
   else
   some false).bind fun q =>
  bif q then
  some (.inl (t3.1,t3.2.1,t3.2.2.1))
  else
  (may (x6,t3.1.n,())).bind fun r =>
  bif ! r then
   bif first == due then
   none
   else
   some (.inl (t3.1,t3.2.1,t3.2.2.1))
  else
   (di t3.1 t3.2.2.1 x6).bind fun x8 =>
   bif ! x8 then
   some (.inl (t3.1,t3.2.1,t3.2.2.1))
   else
   (cI t3.1 x6).bind fun x9 =>
   bif x9 then
    (cQ t3.1 t3.2.2.1 x6).bind fun x10 =>
    some (.inr (x10.2,1,x10.1))
   else
    (
    bif first then
     (fP t3.1 x2 x6.Prio).bind fun x11 =>
     some (x11.2,x11.1)
    else
     some (t3.1,false)).bind fun q1 =>
    bif q1.2 then
    some (.inr (q1.1,2,(⟨0,0,0,⟨0,0⟩,0,0,false,0⟩ : Cont)))
    else
    some (.inl (q1.1,t3.2.1,t3.2.2.1)) : Option ((Attempt × Cont × App) ⊕ (Attempt × Int × Cont))).bind fun q0 =>
 match q0 with
 | .inl q2 =>
  some (.inl (q2.1,q2.2.1,q2.2.2,w64 (t3.2.2.2 + 1)))
 | .inr q3 =>
  some (.inr (.inl (q3.1,q3.2.1,q3.2.2)))
 else
 some (.inr (.inr (t3.1,t3.2.1)))
theorem oE (first : Bool) (may may_' : (TupT fam [.st 5,.st 4] → Option Bool)) (h_may : ∀ a,Lo (may a) (may_' a)) (x2 : Int) (x5 : List Ask) (t3 : Attempt × Cont × App × Int) : Lo (dF first may x2 x5 t3) (eC first may_' x2 x5 t3):=by
 unfold dF eC
 repeat' (first | (with_reducible first | exact kn _ _ _ | exact jx _ _ _ | exact je _ _ _ | exact rT _ _ _ | exact h_may _ | apply aA | apply ay | apply az | apply af | apply ai | refine ah ?_ _ | exact ag _) | (intro _) | exact ae | (dsimp only))
def dD (first : Bool) (may : (TupT fam [.st 5,.st 4] → Option Bool)) (x1 : List Int) (t2 : Attempt × Cont × Int) : Option ((Attempt × Cont × Int) ⊕ ((Attempt × Int × Cont) ⊕ (Attempt × Cont) ⊕ (Attempt × Cont))) :=
 bif decide (t2.2.2 < (x1.length : Int)) then
 (
  (inb t2.2.2 x1.length).bind fun i =>
  (x1[i]?).bind fun x2 =>
  (e_ t2.1.s x2).bind fun x3 =>
  bif ! x3.2 then
  some (.inr (.inr (t2.1,t2.2.1)))
  else
  (df t2.1 x3.1).bind fun x4 =>
  bif ! x4 then
   some (.inl (t2.1,t2.2.1))
  else
   (pY x3.1.Asks).bind fun x5 =>
   (itr 4096 (dF first may x2 x5) (t2.1,t2.2.1,x3.1,0)).bind fun q0 =>
   match q0 with
   | .inl q4 =>
   some (.inr (.inl (q4.1,q4.2.1,q4.2.2)))
   | .inr q5 =>
   some (.inl (q5.1,q5.2)) : Option ((Attempt × Cont) ⊕ (Attempt × Int × Cont) ⊕ (Attempt × Cont))).bind fun q0 =>
 match q0 with
 | .inl q6 =>
  some (.inl (q6.1,q6.2,w64 (t2.2.2 + 1)))
 | .inr (.inl q7) =>
  some (.inr (.inl (q7.1,q7.2.1,q7.2.2)))
 | .inr (.inr q8) =>
  some (.inr (.inr (.inl (q8.1,q8.2))))
 else
 some (.inr (.inr (.inr (t2.1,t2.2.1))))
theorem oh (first : Bool) (may may_' : (TupT fam [.st 5,.st 4] → Option Bool)) (h_may : ∀ a,Lo (may a) (may_' a)) (x1 : List Int) (t2 : Attempt × Cont × Int) : Lo (dD first may x1 t2) (eI first may_' x1 t2):=by
 unfold dD eI
 repeat' (first | (with_reducible first | exact ip _ _ | exact ju _ _ | refine oE _ _ _ ?_ _ _ _ | exact h_may _ | apply aA | apply ay | apply az | apply af | apply ai | refine ah ?_ _ | exact ag _) | (intro _) | exact ae | (dsimp only))
def dO (leaves : List (List UInt8)) (first : Bool) (may : (TupT fam [.st 5,.st 4] → Option Bool)) (t1 : Attempt × Cont × Int) : Option ((Attempt × Cont × Int) ⊕ ((Attempt × Int × Cont) ⊕ (Attempt × Cont))) :=
 bif decide (t1.2.2 < (leaves.length : Int)) then
 (
  (idx leaves t1.2.2).bind fun x =>
  (p_ t1.1.s x).bind fun x1 =>
  (itr 4096 (dD first may x1) (t1.1,t1.2.1,0)).bind fun q0 =>
  match q0 with
  | .inl q9 =>
  some (.inr (q9.1,q9.2.1,q9.2.2))
  | .inr (.inl q10) =>
  some (.inl (q10.1,q10.2))
  | .inr (.inr q11) =>
  some (.inl (q11.1,q11.2)) : Option ((Attempt × Cont) ⊕ (Attempt × Int × Cont))).bind fun q0 =>
 match q0 with
 | .inl q12 =>
  some (.inl (q12.1,q12.2,w64 (t1.2.2 + 1)))
 | .inr q13 =>
  some (.inr (.inl (q13.1,q13.2.1,q13.2.2)))
 else
 some (.inr (.inr (t1.1,t1.2.1)))
theorem oA (leaves : List (List UInt8)) (first : Bool) (may may_' : (TupT fam [.st 5,.st 4] → Option Bool)) (h_may : ∀ a,Lo (may a) (may_' a)) (t1 : Attempt × Cont × Int) : Lo (dO leaves first may t1) (eD leaves first may_' t1):=by
 unfold dO eD
 repeat' (first | (with_reducible first | exact AJ _ _ | refine oh _ _ _ ?_ _ _ | exact h_may _ | apply aA | apply ay | apply az | apply af | apply ai | refine ah ?_ _ | exact ag _) | (intro _) | exact ae | (dsimp only))
def cU (t : Attempt) (leaves : List (List UInt8)) (first : Bool) (may : (TupT fam [.st 5,.st 4] → Option Bool)) : Option (Int × Cont × Attempt) :=
 (itr 4096 (dO leaves first may) (t,(⟨0,0,0,⟨0,0⟩,0,0,false,0⟩ : Cont),0)).bind fun q0 =>
 match q0 with
 | .inl q14 =>
 some (q14.2.1,q14.2.2,q14.1)
 | .inr q15 =>
 some (0,(⟨0,0,0,⟨0,0⟩,0,0,false,0⟩ : Cont),q15.1)
theorem qU (t : Attempt) (leaves : List (List UInt8)) (first : Bool) (may may_' : (TupT fam [.st 5,.st 4] → Option Bool)) (h_may : ∀ a,Lo (may a) (may_' a)) : Lo (cU t leaves first may) (co t leaves first may_'):=by
 unfold cU co
 repeat' (first | (with_reducible first | refine oA _ _ _ _ ?_ _ | exact h_may _ | apply aA | apply ay | apply az | apply af | apply ai | refine ah ?_ _ | exact ag _) | (intro _) | exact ae | (dsimp only))
def eE (t : Attempt) : Option (Int × Cont × Attempt) :=
 (ml t.s t.n.Label).bind fun leaves =>
 (cU t leaves true (fun a' => iM a'.1 a'.2.1)).bind fun x =>
 bif x.1 != 0 then
 some (x.1,x.2.1,x.2.2)
 else
 (cU x.2.2 leaves false (fun a' => iM a'.1 a'.2.1)).bind fun x1 =>
 some (x1.1,x1.2.1,x1.2.2)
theorem pZ (t : Attempt) : Lo (eE t) (de t):=by
 unfold eE de
 repeat' (first | (with_reducible first | exact xD _ _ | refine qU _ _ _ _ _ ?_ | apply af | apply ai | refine ah ?_ _ | exact ag _) | (intro _) | exact ae | (dsimp only))
def pT (s : State) (node : Int) : Option (State × Int × Cont) :=
 (bT s []).bind fun x =>
 (fT s node).bind fun x1 =>
 (
 bif ! x1.2 then
  some true
 else
  bif ! x1.1.Up then
  some true
  else
  bif decide ((s.Conts.length : Int) ≥ 200) then
   some true
  else
   some (decide (s.Seq ≥ 1048575))).bind fun q =>
 bif q then
 some (x,0,(⟨0,0,0,⟨0,0⟩,0,0,false,0⟩ : Cont))
 else
 (qI s node).bind fun x2 =>
 (fQ (⟨⟨⟨x.Conf.Labels,x.Conf.Queues⟩,x.Nodes,x.Apps,x.Conts,x.Slots,x.Plans,x.Now,x.Epoch,x.Seq⟩,⟨x1.1.Id,x1.1.Label,x1.1.Rack,⟨x1.1.Cap.Mem,x1.1.Cap.Cores⟩,x1.1.Seen,x1.1.Beat,x1.1.Up⟩,⟨x2.Mem,x2.Cores⟩⟩ : Attempt)).bind fun x3 =>
 (
  bif ! x3.2.2.1 then
  (eE x3.2.2.2).bind fun x4 =>
  some (x4.1,x4.2.1,x4.2.2)
  else
  some (x3.1,x3.2.1,x3.2.2.2)).bind fun q1 =>
 (bT q1.2.2.s []).bind fun x5 =>
 some (x5,q1.1,q1.2.1)
theorem AW (s : State) (node : Int) : Lo (pT s node) (pq s node):=by
 unfold pT pq
 repeat' (first | (with_reducible first | exact fJ _ _ | exact jK _ _ | exact AL _ _ | exact rJ _ | exact pZ _ | apply af | apply ai | refine ah ?_ _ | exact ag _) | (intro _) | exact ae | (dsimp only))
def jX (node : Int) (t : State × List Cont) : Option ((State × List Cont) ⊕ ((State × List Cont))) :=
 bif decide ((t.2.length : Int) < 3) then
 (pT t.1 node).bind fun x1 =>
 bif x1.2.1 != 1 then
  some (.inr (x1.1,t.2))
 else
  (app 72 t.2 [x1.2.2]).bind fun l =>
  some (.inl (x1.1,l))
 else
 some (.inr (t.1,t.2))
theorem wh (node : Int) (t : State × List Cont) : Lo (jX node t) (mB node t):=by
 unfold jX mB
 repeat' (first | (with_reducible first | exact AW _ _ | apply af | apply ai | refine ah ?_ _ | exact ag _) | (intro _) | exact ae | (dsimp only))
def oP (s : State) (node : Int) : Option (State × List Cont) :=
 (bT s []).bind fun x =>
 (itr 4096 (jX node) (x,[])).bind fun q =>
 some (q.1,q.2)
theorem zJ (s : State) (node : Int) : Lo (oP s node) (mY s node):=by
 unfold oP mY
 repeat' (first | (with_reducible first | exact fJ _ _ | exact wh _ _ | apply af | apply ai | refine ah ?_ _ | exact ag _) | (intro _) | exact ae | (dsimp only))
def gV (t : Step) : Option (Output × Step) :=
 (fT t.s t.x.Id).bind fun x =>
 (
 bif x.2 then
  bif x.1.Up then
  some (t.x.Beat == x.1.Beat)
  else
  some false
 else
  some false).bind fun q =>
 bif q then
 (cz t x.1.Id).bind fun x1 =>
 some ((⟨0,[],x1,[],0⟩ : Output),t)
 else
 (qd t.s t.x.Id t.x.Beat).bind fun x2 =>
 bif x2.2 != 0 then
  none
 else
  (cz t x.1.Id).bind fun x3 =>
  (bL t.x.Ids).bind fun x4 =>
  (bo x4 (fun a' => gR a'.1 x3)).bind fun ended =>
  (bT x2.1 ended).bind fun x5 =>
  (oP x5 x.1.Id).bind fun x6 =>
  (cz (⟨⟨⟨x6.1.Conf.Labels,x6.1.Conf.Queues⟩,x6.1.Nodes,x6.1.Apps,x6.1.Conts,x6.1.Slots,x6.1.Plans,x6.1.Now,x6.1.Epoch,x6.1.Seq⟩,⟨t.x.Kind,t.x.Id,t.x.Beat,t.x.N,t.x.Text,⟨t.x.Node.Id,t.x.Node.Label,t.x.Node.Rack,⟨t.x.Node.Cap.Mem,t.x.Node.Cap.Cores⟩,t.x.Node.Seen,t.x.Node.Beat,t.x.Node.Up⟩,⟨t.x.App.Id,t.x.App.State,t.x.App.Queue,t.x.App.User,t.x.App.Prio,⟨t.x.App.Master.Mem,t.x.App.Master.Cores⟩,t.x.App.Asks,t.x.App.Seen,t.x.App.Beat,t.x.App.Grants,t.x.App.Kills,t.x.App.Told,t.x.App.Lost⟩,t.x.Asks,t.x.Ids,⟨t.x.Plan.Id,t.x.Plan.Label,t.x.Plan.From,t.x.Plan.Until,⟨t.x.Plan.Need.Mem,t.x.Plan.Need.Cores⟩⟩⟩⟩ : Step) x.1.Id).bind fun x7 =>
  some ((⟨0,[],x7,[],0⟩ : Output),(⟨⟨⟨x6.1.Conf.Labels,x6.1.Conf.Queues⟩,x6.1.Nodes,x6.1.Apps,x6.1.Conts,x6.1.Slots,x6.1.Plans,x6.1.Now,x6.1.Epoch,x6.1.Seq⟩,⟨t.x.Kind,t.x.Id,t.x.Beat,t.x.N,t.x.Text,⟨t.x.Node.Id,t.x.Node.Label,t.x.Node.Rack,⟨t.x.Node.Cap.Mem,t.x.Node.Cap.Cores⟩,t.x.Node.Seen,t.x.Node.Beat,t.x.Node.Up⟩,⟨t.x.App.Id,t.x.App.State,t.x.App.Queue,t.x.App.User,t.x.App.Prio,⟨t.x.App.Master.Mem,t.x.App.Master.Cores⟩,t.x.App.Asks,t.x.App.Seen,t.x.App.Beat,t.x.App.Grants,t.x.App.Kills,t.x.App.Told,t.x.App.Lost⟩,t.x.Asks,t.x.Ids,⟨t.x.Plan.Id,t.x.Plan.Label,t.x.Plan.From,t.x.Plan.Until,⟨t.x.Plan.Need.Mem,t.x.Plan.Need.Cores⟩⟩⟩⟩ : Step))
theorem th (t : Step) : Lo (gV t) (fE t):=by
 unfold gV fE
 repeat' (first | (with_reducible first | exact jK _ _ | exact nB _ _ | exact AV _ _ _ | refine ez _ _ _ ?_ | exact fJ _ _ | exact zJ _ _ | apply af | apply ai | refine ah ?_ _ | exact ag _) | (intro _) | exact ae | (dsimp only))
def pa (del : (TupT fam [.st 5] → Option Bool)) (t : List Ask × Int × Int) : Option ((List Ask × Int × Int) ⊕ ((List Ask × Int))):=none
theorem uH (del del_' : (TupT fam [.st 5] → Option Bool)) (h_del : ∀ a,Lo (del a) (del_' a)) (t : List Ask × Int × Int) : Lo (pa del t) (qZ del_' t):=ae
def mo (s : List Ask) (del : (TupT fam [.st 5] → Option Bool)) : Option (List Ask) :=
 (iP s del).bind fun i =>
 bif i == (-1) then
 some s
 else
 (itr 4096 (pa del) (s,i,w64 (i + 1))).bind fun q1 =>
 (inS q1.2 (q1.1.length : Int) q1.1.length).bind fun p =>
 (inS 0 q1.2 (cpy q1.1 p.1 p.2 (List.replicate p.2 (⟨0,0,⟨0,0⟩,0,0,0,0⟩ : Ask))).length).bind fun p1 =>
 some (List.take p1.2 (cpy q1.1 p.1 p.2 (List.replicate p.2 (⟨0,0,⟨0,0⟩,0,0,0,0⟩ : Ask))))
theorem yk (s : List Ask) (del del_' : (TupT fam [.st 5] → Option Bool)) (h_del : ∀ a,Lo (del a) (del_' a)) : Lo (mo s del) (ls s del_'):=by
 unfold mo ls
 repeat' (first | (with_reducible first | refine rg _ _ _ ?_ | refine uH _ _ ?_ _ | exact h_del _ | apply af | apply ai | refine ah ?_ _ | exact ag _) | (intro _) | exact ae | (dsimp only))
def pE (l : List Ask) (a : Ask) : Option (List Ask × Int) :=
 (qP l).bind fun x =>
 (mo x (fun a' => tF a'.1 a)).bind fun out =>
 bif a.Count == 0 then
 some (out,0)
 else
 bif decide ((out.length : Int) ≥ 8) then
  some ([],4)
 else
  (itr 4096 (wD a out) 0).bind fun k1 =>
  (pV out k1 [(⟨a.Prio,a.Label,⟨a.Size.Mem,a.Size.Cores⟩,a.Count,a.Node,a.Rack,0⟩ : Ask)]).bind fun x2 =>
  some (x2,0)
theorem wj (l : List Ask) (a : Ask) : Lo (pE l a) (qG l a):=by
 unfold pE qG
 repeat' (first | (with_reducible first | refine yk _ _ _ ?_ | apply af | apply ai | refine ah ?_ _ | exact ag _) | (intro _) | exact ae | (dsimp only))
def qs (a : App) : Option (List Ask) :=
 (pE [] (⟨0,0,⟨a.Master.Mem,a.Master.Cores⟩,1,(-1),(-1),0⟩ : Ask)).bind fun x =>
 some x.1
theorem AH (a : App) : Lo (qs a) (pm a):=by
 unfold qs pm
 repeat' (first | (with_reducible first | exact wj _ _ | apply af | apply ai | refine ah ?_ _ | exact ag _) | (intro _) | exact ae | (dsimp only))
def rL (l : List App) : Option Int :=
 (itr 4096 (ur l) (0,0)).bind fun n1 =>
 some n1
theorem Ch (l : List App) : Lo (rL l) (rt l):=by
 unfold rL rt
 repeat' (first | (with_reducible first | apply af | apply ai | refine ah ?_ _ | exact ag _) | (intro _) | exact ae | (dsimp only))
def om (s : State) (a : App) : Option (State × Int) :=
 (lO s).bind fun x =>
 (
 (bR a.Id 0 9999).bind fun x1 =>
 bif ! x1 then
  some true
 else
  (bR a.User 0 99).bind fun x2 =>
  bif ! x2 then
  some true
  else
  (bR a.Prio 0 9).bind fun x3 =>
  bif ! x3 then
   some true
  else
   (bR a.Master.Mem 1 1073741824).bind fun x4 =>
   bif ! x4 then
   some true
   else
   (bR a.Master.Cores 1 1073741824).bind fun x5 =>
   some (! x5)).bind fun q =>
 bif q then
 some (x,1)
 else
 (kc x a.Id).bind fun x6 =>
 bif decide (x6 ≥ 0) then
  some (x,7)
 else
  (rL x.Apps).bind fun x7 =>
  bif decide (x7 ≥ 16) then
  some (x,4)
  else
  (nj x.Conf a.Queue).bind fun x8 =>
  bif ! x8 then
   some (x,19)
  else
   (kz x.Apps (fun a' => uu a'.1)).bind fun k =>
   (
   bif decide ((x.Apps.length : Int) ≥ 16) then
    some (decide (k ≥ 0))
   else
    some false).bind fun q1 =>
   bif q1 then
   none
   else
   (qs (⟨a.Id,1,a.Queue,a.User,a.Prio,⟨a.Master.Mem,a.Master.Cores⟩,[],x.Now,0,[],[],[],[]⟩ : App)).bind fun x9 =>
   (pe x (⟨a.Id,1,a.Queue,a.User,a.Prio,⟨a.Master.Mem,a.Master.Cores⟩,x9,x.Now,0,[],[],[],[]⟩ : App)).bind fun x10 =>
   some (x10,0)
theorem zD (s : State) (a : App) : Lo (om s a) (nf s a):=by
 unfold om nf
 repeat' (first | (with_reducible first | exact tL _ | exact pM _ _ | exact Ch _ | exact ut _ _ | refine rI _ _ _ ?_ | exact AH _ | exact wl _ _ | apply af | apply ai | refine ah ?_ _ | exact ag _) | (intro _) | exact ae | (dsimp only))
def eF (t : Step) (ids : List Int) (t1 : List Cont × Int) : Option ((List Cont × Int) ⊕ List Cont) :=
 bif decide (t1.2 < (ids.length : Int)) then
 (idx ids t1.2).bind fun x =>
 (itr 4096 (ke t x) (t1.1,0)).bind fun out1 =>
 some (.inl (out1,w64 (t1.2 + 1)))
 else
 some (.inr t1.1)
theorem qe (t : Step) (ids : List Int) (t1 : List Cont × Int) : Lo (eF t ids t1) (f_ t ids t1):=by
 unfold eF f_
 repeat' (first | (with_reducible first | apply af | apply ai | refine ah ?_ _ | exact ag _) | (intro _) | exact ae | (dsimp only))
def ce (t : Step) (ids : List Int) : Option (List Cont) :=
 (itr 4096 (eF t ids) ([],0)).bind fun out2 =>
 some out2
theorem kg (t : Step) (ids : List Int) : Lo (ce t ids) (b8 t ids):=by
 unfold ce b8
 repeat' (first | (with_reducible first | exact qe _ _ _ | apply af | apply ai | refine ah ?_ _ | exact ag _) | (intro _) | exact ae | (dsimp only))
def cT (t : Step) (app_ : Int) : Option (List Int) :=
 (itr 4096 (jc t app_) ([],0)).bind fun out1 =>
 some out1
theorem qS (t : Step) (app_ : Int) : Lo (cT t app_) (cx t app_):=by
 unfold cT cx
 repeat' (first | (with_reducible first | apply af | apply ai | refine ah ?_ _ | exact ag _) | (intro _) | exact ae | (dsimp only))
def bX (s : List Int) (f : (TupT fam [.int .i64] → Option Bool)) : Option Bool :=
 (bA s f).bind fun x =>
 some (decide (x ≥ 0))
theorem jD (s : List Int) (f f_' : (TupT fam [.int .i64] → Option Bool)) (h_f : ∀ a,Lo (f a) (f_' a)) : Lo (bX s f) (bu s f_'):=by
 unfold bX bu
 repeat' (first | (with_reducible first | refine eP _ _ _ ?_ | exact h_f _ | apply af | apply ai | refine ah ?_ _ | exact ag _) | (intro _) | exact ae | (dsimp only))
def cR (least : Int) (most : Int) (l : List Int) : Option Bool :=
 (bX l (fun a' => sN a'.1 least most)).bind fun x =>
 some (! x)
theorem wG (least : Int) (most : Int) (l : List Int) : Lo (cR least most l) (d4 least most l):=by
 unfold cR d4
 repeat' (first | (with_reducible first | refine jD _ _ _ ?_ | apply af | apply ai | refine ah ?_ _ | exact ag _) | (intro _) | exact ae | (dsimp only))
def qD (a : Ask) (labels : Int) : Option Int :=
 (
 (cR 0 9 [a.Prio]).bind fun x =>
 bif ! x then
  some true
 else
  (cR 0 (w64 (labels - 1)) [a.Label]).bind fun x1 =>
  bif ! x1 then
  some true
  else
  (cR 1 1073741824 [a.Size.Mem,a.Size.Cores]).bind fun x2 =>
  bif ! x2 then
   some true
  else
   (cR (-1) 999 [a.Node]).bind fun x3 =>
   bif ! x3 then
   some true
   else
   (cR (-1) 99 [a.Rack]).bind fun x4 =>
   bif ! x4 then
    some true
   else
    bif a.Node != (-1) then
    some (a.Rack == (-1))
    else
    some false).bind fun q =>
 bif q then
 some 1
 else
 (cR 0 50 [a.Count]).bind fun x5 =>
 bif ! x5 then
  some 4
 else
  some 0
theorem AR (a : Ask) (labels : Int) : Lo (qD a labels) (pj a labels):=by
 unfold qD pj
 repeat' (first | (with_reducible first | exact wG _ _ _ | apply af | apply ai | refine ah ?_ _ | exact ag _) | (intro _) | exact ae | (dsimp only))
def ft (ids : List Int) (t1 : Step × App × Int) : Option ((Step × App × Int) ⊕ ((Step × App))) :=
 bif decide (t1.2.2 < (ids.length : Int)) then
 (
  (idx ids t1.2.2).bind fun x =>
  (fa t1.1.s.Conts (fun a' => gP a'.1 x t1.2.1)).bind fun i =>
  bif decide (i ≥ 0) then
  (ie t1.1.s.Conts i (w64 (i + 1))).bind fun x1 =>
  (bo t1.2.1.Grants (fun a' => gN a'.1 x)).bind fun x2 =>
  some ((⟨⟨⟨t1.1.s.Conf.Labels,t1.1.s.Conf.Queues⟩,t1.1.s.Nodes,t1.1.s.Apps,x1,t1.1.s.Slots,t1.1.s.Plans,t1.1.s.Now,t1.1.s.Epoch,t1.1.s.Seq⟩,⟨t1.1.x.Kind,t1.1.x.Id,t1.1.x.Beat,t1.1.x.N,t1.1.x.Text,⟨t1.1.x.Node.Id,t1.1.x.Node.Label,t1.1.x.Node.Rack,⟨t1.1.x.Node.Cap.Mem,t1.1.x.Node.Cap.Cores⟩,t1.1.x.Node.Seen,t1.1.x.Node.Beat,t1.1.x.Node.Up⟩,⟨t1.1.x.App.Id,t1.1.x.App.State,t1.1.x.App.Queue,t1.1.x.App.User,t1.1.x.App.Prio,⟨t1.1.x.App.Master.Mem,t1.1.x.App.Master.Cores⟩,t1.1.x.App.Asks,t1.1.x.App.Seen,t1.1.x.App.Beat,t1.1.x.App.Grants,t1.1.x.App.Kills,t1.1.x.App.Told,t1.1.x.App.Lost⟩,t1.1.x.Asks,t1.1.x.Ids,⟨t1.1.x.Plan.Id,t1.1.x.Plan.Label,t1.1.x.Plan.From,t1.1.x.Plan.Until,⟨t1.1.x.Plan.Need.Mem,t1.1.x.Plan.Need.Cores⟩⟩⟩⟩ : Step),(⟨t1.2.1.Id,t1.2.1.State,t1.2.1.Queue,t1.2.1.User,t1.2.1.Prio,⟨t1.2.1.Master.Mem,t1.2.1.Master.Cores⟩,t1.2.1.Asks,t1.2.1.Seen,t1.2.1.Beat,x2,t1.2.1.Kills,t1.2.1.Told,t1.2.1.Lost⟩ : App))
  else
  some (t1.1,t1.2.1)).bind fun q =>
 some (.inl (q.1,q.2,w64 (t1.2.2 + 1)))
 else
 some (.inr (t1.1,t1.2.1))
theorem qW (ids : List Int) (t1 : Step × App × Int) : Lo (ft ids t1) (gh ids t1):=by
 unfold ft gh
 repeat' (first | (with_reducible first | refine iJ _ _ _ ?_ | refine ez _ _ _ ?_ | apply af | apply ai | refine ah ?_ _ | exact ag _) | (intro _) | exact ae | (dsimp only))
def gZ (t : Step) (a : App) (ids : List Int) : Option (App × Step) :=
 (itr 4096 (ft ids) (t,a,0)).bind fun q1 =>
 some (q1.2,q1.1)
theorem sQ (t : Step) (a : App) (ids : List Int) : Lo (gZ t a ids) (fx t a ids):=by
 unfold gZ fx
 repeat' (first | (with_reducible first | exact qW _ _ | apply af | apply ai | refine ah ?_ _ | exact ag _) | (intro _) | exact ae | (dsimp only))
def d9 (t : Step) (t1 : App × Int) : Option ((App × Int) ⊕ App) :=
 bif decide (t1.2 < (t.x.Asks.length : Int)) then
 (idx t.x.Asks t1.2).bind fun x3 =>
 (qD x3 (t.s.Conf.Labels.length : Int)).bind fun e =>
 (
  bif e == 0 then
  (pE t1.1.Asks x3).bind fun x4 =>
  some ((⟨t1.1.Id,t1.1.State,t1.1.Queue,t1.1.User,t1.1.Prio,⟨t1.1.Master.Mem,t1.1.Master.Cores⟩,x4.1,t1.1.Seen,t1.1.Beat,t1.1.Grants,t1.1.Kills,t1.1.Told,t1.1.Lost⟩ : App),x4.2)
  else
  some (t1.1,e)).bind fun q =>
 bif q.2 != 0 then
  none
 else
  some (.inl (q.1,w64 (t1.2 + 1)))
 else
 some (.inr t1.1)
theorem pd (t : Step) (t1 : App × Int) : Lo (d9 t t1) (fg t t1):=by
 unfold d9 fg
 repeat' (first | (with_reducible first | exact AR _ _ | exact wj _ _ | apply af | apply ai | refine ah ?_ _ | exact ag _) | (intro _) | exact ae | (dsimp only))
def fY (t : Step) : Option (Output × Step) :=
 (e_ t.s t.x.Id).bind fun x =>
 bif ! x.2 then
 none
 else
 bif x.1.State != 2 then
  none
 else
  bif decide (t.x.Beat < x.1.Beat) then
  none
  else
  bif decide ((w64 (t.x.Beat - x.1.Beat)) > 1) then
   none
  else
   bif t.x.Beat == x.1.Beat then
   (ce t x.1.Told).bind fun x1 =>
   (cT t x.1.Id).bind fun x2 =>
   some ((⟨0,x1,x2,x.1.Lost,0⟩ : Output),t)
   else
   (itr 4096 (d9 t) (x.1,0)).bind fun a =>
   (gZ t a t.x.Ids).bind fun x5 =>
   (ce x5.2 x5.1.Grants).bind fun x6 =>
   (cT x5.2 x5.1.Id).bind fun x7 =>
   (bL x5.1.Kills).bind fun x8 =>
   (pC x5.2.s (⟨x5.1.Id,x5.1.State,x5.1.Queue,x5.1.User,x5.1.Prio,⟨x5.1.Master.Mem,x5.1.Master.Cores⟩,x5.1.Asks,x5.2.s.Now,w64 (x5.1.Beat + 1),[],[],x5.1.Grants,x5.1.Kills⟩ : App)).bind fun x9 =>
   some ((⟨0,x6,x7,x8,0⟩ : Output),(⟨⟨⟨x9.Conf.Labels,x9.Conf.Queues⟩,x9.Nodes,x9.Apps,x9.Conts,x9.Slots,x9.Plans,x9.Now,x9.Epoch,x9.Seq⟩,⟨x5.2.x.Kind,x5.2.x.Id,x5.2.x.Beat,x5.2.x.N,x5.2.x.Text,⟨x5.2.x.Node.Id,x5.2.x.Node.Label,x5.2.x.Node.Rack,⟨x5.2.x.Node.Cap.Mem,x5.2.x.Node.Cap.Cores⟩,x5.2.x.Node.Seen,x5.2.x.Node.Beat,x5.2.x.Node.Up⟩,⟨x5.2.x.App.Id,x5.2.x.App.State,x5.2.x.App.Queue,x5.2.x.App.User,x5.2.x.App.Prio,⟨x5.2.x.App.Master.Mem,x5.2.x.App.Master.Cores⟩,x5.2.x.App.Asks,x5.2.x.App.Seen,x5.2.x.App.Beat,x5.2.x.App.Grants,x5.2.x.App.Kills,x5.2.x.App.Told,x5.2.x.App.Lost⟩,x5.2.x.Asks,x5.2.x.Ids,⟨x5.2.x.Plan.Id,x5.2.x.Plan.Label,x5.2.x.Plan.From,x5.2.x.Plan.Until,⟨x5.2.x.Plan.Need.Mem,x5.2.x.Plan.Need.Cores⟩⟩⟩⟩ : Step))
theorem rG (t : Step) : Lo (fY t) (ep t):=by
 unfold fY ep
 repeat' (first | (with_reducible first | exact ip _ _ | exact kg _ _ | exact qS _ _ | exact pd _ _ | exact sQ _ _ _ | exact wy _ _ | apply af | apply ai | refine ah ?_ _ | exact ag _) | (intro _) | exact ae | (dsimp only))
def mP (s : State) : Option (List Int) :=
 (itr 4096 (ru s) ([],0)).bind fun out1 =>
 some out1
theorem ye (s : State) : Lo (mP s) (lF s):=by
 unfold mP lF
 repeat' (first | (with_reducible first | apply af | apply ai | refine ah ?_ _ | exact ag _) | (intro _) | exact ae | (dsimp only))
def iw (del : (TupT fam [.st 8] → Option Bool)) (t : List Slot × Int × Int) : Option ((List Slot × Int × Int) ⊕ ((List Slot × Int))) :=
 bif decide (t.2.2 < (t.1.length : Int)) then
 (
  (inb t.2.2 t.1.length).bind fun i1 =>
  (t.1[i1]?).bind fun x =>
  (del (x,())).bind fun r =>
  bif ! r then
  (inb t.2.1 t.1.length).bind fun i2 =>
  (t.1[i2]?).bind fun x1 =>
  some (List.set t.1 i2 x,w64 (t.2.1 + 1))
  else
  some (t.1,t.2.1)).bind fun q =>
 some (.inl (q.1,q.2,w64 (t.2.2 + 1)))
 else
 some (.inr (t.1,t.2.1))
theorem tY (del del_' : (TupT fam [.st 8] → Option Bool)) (h_del : ∀ a,Lo (del a) (del_' a)) (t : List Slot × Int × Int) : Lo (iw del t) (jV del_' t):=by
 unfold iw jV
 repeat' (first | (with_reducible first | exact h_del _ | apply af | apply ai | refine ah ?_ _ | exact ag _) | (intro _) | exact ae | (dsimp only))
def lp (s : List Slot) (del : (TupT fam [.st 8] → Option Bool)) : Option (List Slot) :=
 (jv s del).bind fun i =>
 bif i == (-1) then
 some s
 else
 (itr 4096 (iw del) (s,i,w64 (i + 1))).bind fun q1 =>
 (inS q1.2 (q1.1.length : Int) q1.1.length).bind fun p =>
 (inS 0 q1.2 (cpy q1.1 p.1 p.2 (List.replicate p.2 (⟨0,0,0⟩ : Slot))).length).bind fun p1 =>
 some (List.take p1.2 (cpy q1.1 p.1 p.2 (List.replicate p.2 (⟨0,0,0⟩ : Slot))))
theorem xf (s : List Slot) (del del_' : (TupT fam [.st 8] → Option Bool)) (h_del : ∀ a,Lo (del a) (del_' a)) : Lo (lp s del) (jO s del_'):=by
 unfold lp jO
 repeat' (first | (with_reducible first | refine qh _ _ _ ?_ | refine tY _ _ ?_ _ | exact h_del _ | apply af | apply ai | refine ah ?_ _ | exact ag _) | (intro _) | exact ae | (dsimp only))
def gO (t : Step) (id_ : Int) : Option Step :=
 (cz t id_).bind fun here =>
 (itr 4096 (la t id_) (t.s.Nodes,0)).bind fun q1 =>
 (lp t.s.Slots (fun a' => gS a'.1 id_)).bind fun x2 =>
 (bT (⟨⟨t.s.Conf.Labels,t.s.Conf.Queues⟩,q1,t.s.Apps,t.s.Conts,x2,t.s.Plans,t.s.Now,t.s.Epoch,t.s.Seq⟩ : State) here).bind fun x3 =>
 some (⟨⟨⟨x3.Conf.Labels,x3.Conf.Queues⟩,x3.Nodes,x3.Apps,x3.Conts,x3.Slots,x3.Plans,x3.Now,x3.Epoch,x3.Seq⟩,⟨t.x.Kind,t.x.Id,t.x.Beat,t.x.N,t.x.Text,⟨t.x.Node.Id,t.x.Node.Label,t.x.Node.Rack,⟨t.x.Node.Cap.Mem,t.x.Node.Cap.Cores⟩,t.x.Node.Seen,t.x.Node.Beat,t.x.Node.Up⟩,⟨t.x.App.Id,t.x.App.State,t.x.App.Queue,t.x.App.User,t.x.App.Prio,⟨t.x.App.Master.Mem,t.x.App.Master.Cores⟩,t.x.App.Asks,t.x.App.Seen,t.x.App.Beat,t.x.App.Grants,t.x.App.Kills,t.x.App.Told,t.x.App.Lost⟩,t.x.Asks,t.x.Ids,⟨t.x.Plan.Id,t.x.Plan.Label,t.x.Plan.From,t.x.Plan.Until,⟨t.x.Plan.Need.Mem,t.x.Plan.Need.Cores⟩⟩⟩⟩ : Step)
theorem tg (t : Step) (id_ : Int) : Lo (gO t id_) (fy t id_):=by
 unfold gO fy
 repeat' (first | (with_reducible first | exact nB _ _ | refine xf _ _ _ ?_ | exact fJ _ _ | apply af | apply ai | refine ah ?_ _ | exact ag _) | (intro _) | exact ae | (dsimp only))
def ou (s : State) : Option (List Int) :=
 (itr 4096 (sH s) ([],[],0)).bind fun out =>
 some out
theorem zw (s : State) : Lo (ou s) (m8 s):=by
 unfold ou m8
 repeat' (first | (with_reducible first | apply af | apply ai | refine ah ?_ _ | exact ag _) | (intro _) | exact ae | (dsimp only))
def iF (s : List Plan) (f : (TupT fam [.st 9] → Option Bool)) (t : Int) : Option (Int ⊕ (Int ⊕ Unit)) :=
 bif decide (t < (s.length : Int)) then
 (idx s t).bind fun x =>
 (f (x,())).bind fun r =>
 bif r then
  some (.inr (.inl t))
 else
  some (.inl (w64 (t + 1)))
 else
 some (.inr (.inr ()))
theorem ue (s : List Plan) (f f_' : (TupT fam [.st 9] → Option Bool)) (h_f : ∀ a,Lo (f a) (f_' a)) (t : Int) : Lo (iF s f t) (j8 s f_' t):=by
 unfold iF j8
 repeat' (first | (with_reducible first | exact h_f _ | apply af | apply ai | refine ah ?_ _ | exact ag _) | (intro _) | exact ae | (dsimp only))
def kH (s : List Plan) (f : (TupT fam [.st 9] → Option Bool)) : Option Int :=
 (itr 4096 (iF s f) 0).bind fun q0 =>
 match q0 with
 | .inl q =>
 some q
 | .inr _ =>
 some (-1)
theorem wX (s : List Plan) (f f_' : (TupT fam [.st 9] → Option Bool)) (h_f : ∀ a,Lo (f a) (f_' a)) : Lo (kH s f) (jI s f_'):=by
 unfold kH jI
 repeat' (first | (with_reducible first | refine ue _ _ _ ?_ _ | exact h_f _ | apply aA | apply ay | apply az | apply af | apply ai | refine ah ?_ _ | exact ag _) | (intro _) | exact ae | (dsimp only))
def nL (del : (TupT fam [.st 9] → Option Bool)) (t : List Plan × Int × Int) : Option ((List Plan × Int × Int) ⊕ ((List Plan × Int))):=none
theorem ug (del del_' : (TupT fam [.st 9] → Option Bool)) (h_del : ∀ a,Lo (del a) (del_' a)) (t : List Plan × Int × Int) : Lo (nL del t) (qH del_' t):=ae
def kG (s : List Plan) (del : (TupT fam [.st 9] → Option Bool)) : Option (List Plan) :=
 (kH s del).bind fun i =>
 bif i == (-1) then
 some s
 else
 (itr 4096 (nL del) (s,i,w64 (i + 1))).bind fun q1 =>
 (inS q1.2 (q1.1.length : Int) q1.1.length).bind fun p =>
 (inS 0 q1.2 (cpy q1.1 p.1 p.2 (List.replicate p.2 (⟨0,0,0,0,⟨0,0⟩⟩ : Plan))).length).bind fun p1 =>
 some (List.take p1.2 (cpy q1.1 p.1 p.2 (List.replicate p.2 (⟨0,0,0,0,⟨0,0⟩⟩ : Plan))))
theorem wS (s : List Plan) (del del_' : (TupT fam [.st 9] → Option Bool)) (h_del : ∀ a,Lo (del a) (del_' a)) : Lo (kG s del) (jJ s del_'):=by
 unfold kG jJ
 repeat' (first | (with_reducible first | refine wX _ _ _ ?_ | refine ug _ _ ?_ _ | exact h_del _ | apply af | apply ai | refine ah ?_ _ | exact ag _) | (intro _) | exact ae | (dsimp only))
def jl (s : State) (label : Int) (x1 : Cont) (_t : Unit) : Option Unit :=
 (fa s.Conts (fun a' => mS a'.1 x1)).bind fun i =>
 (
 bif decide (i < 0) then
  some true
 else
  (inb i s.Conts.length).bind fun i1 =>
  (s.Conts[i1]?).bind fun x2 =>
  (qB x2 label s.Now).bind fun x3 =>
  some (! x3)).bind fun q =>
 bif q then
 some ()
 else
 none
theorem uY (s : State) (label : Int) (x1 : Cont) (_t : Unit) : Lo (jl s label x1 _t) (li s label x1 _t):=by
 unfold jl li
 repeat' (first | (with_reducible first | refine iJ _ _ _ ?_ | apply af | apply ai | refine ah ?_ _ | exact ag _) | (intro _) | exact ae | (dsimp only))
def mf (s : State) (label : Int) : Option State :=
 (ba s.Conts).bind fun x =>
 (rgB (jl s label) x ()).bind fun _ =>
 some s
theorem yd (s : State) (label : Int) : Lo (mf s label) (lG s label):=by
 unfold mf lG
 repeat' (first | (with_reducible first | exact uY _ _ _ _ | refine Ei (fun _ _ => ?_) _ _ | apply af | apply ai | refine ah ?_ _ | exact ag _) | (intro _) | exact ae | (dsimp only))
def jk (l : List Ask) (label : Int) (t : Vec × Int) : Option ((Vec × Int) ⊕ Vec) :=
 bif decide (t.2 < (l.length : Int)) then
 (
  (idx l t.2).bind fun x =>
  (
  bif x.Label == label then
   (cR 0 1125899906842624 [x.Size.Mem,x.Size.Cores]).bind fun x1 =>
   bif x1 then
   (cR 0 50 [x.Count]).bind fun x2 =>
   some x2
   else
   some false
  else
   some false).bind fun q =>
  bif q then
  some (⟨w64 (t.1.Mem + (w64 (x.Size.Mem * x.Count))),w64 (t.1.Cores + (w64 (x.Size.Cores * x.Count)))⟩ : Vec)
  else
  some t.1).bind fun out =>
 some (.inl (out,w64 (t.2 + 1)))
 else
 some (.inr t.1)
theorem vl (l : List Ask) (label : Int) (t : Vec × Int) : Lo (jk l label t) (kP l label t):=by
 unfold jk kP
 repeat' (first | (with_reducible first | exact wG _ _ _ | apply af | apply ai | refine ah ?_ _ | exact ag _) | (intro _) | exact ae | (dsimp only))
def mb (l : List Ask) (label : Int) : Option Vec :=
 (itr 4096 (jk l label) ((⟨0,0⟩ : Vec),0)).bind fun out1 =>
 some out1
theorem xN (l : List Ask) (label : Int) : Lo (mb l label) (kR l label):=by
 unfold mb kR
 repeat' (first | (with_reducible first | exact vl _ _ _ | apply af | apply ai | refine ah ?_ _ | exact ag _) | (intro _) | exact ae | (dsimp only))
def eH (v : View) (t : Vec × Int) : Option ((Vec × Int) ⊕ Vec) :=
 bif decide (t.2 < (v.s.Apps.length : Int)) then
 (
  (idx v.s.Apps t.2).bind fun x =>
  (
  (cD x).bind fun x1 =>
  bif x1 then
   (fN v x).bind fun x2 =>
   some x2
  else
   some false).bind fun q =>
  bif q then
  (mb x.Asks v.label).bind fun x3 =>
  (dm t.1 x3).bind fun x4 =>
  some x4.1
  else
  some t.1).bind fun out =>
 some (.inl (out,w64 (t.2 + 1)))
 else
 some (.inr t.1)
theorem qa (v : View) (t : Vec × Int) : Lo (eH v t) (fH v t):=by
 unfold eH fH
 repeat' (first | (with_reducible first | exact xN _ _ | apply af | apply ai | refine ah ?_ _ | exact ag _) | (intro _) | exact ae | (dsimp only))
def gr (v : View) : Option Vec :=
 (itr 4096 (eH v) ((⟨0,0⟩ : Vec),0)).bind fun out1 =>
 some out1
theorem sj (v : View) : Lo (gr v) (eR v):=by
 unfold gr eR
 repeat' (first | (with_reducible first | exact qa _ _ | apply af | apply ai | refine ah ?_ _ | exact ag _) | (intro _) | exact ae | (dsimp only))
def lk (s : State) (path : List UInt8) (label : Int) : Option Vec :=
 (gr (⟨⟨⟨s.Conf.Labels,s.Conf.Queues⟩,s.Nodes,s.Apps,s.Conts,s.Slots,s.Plans,s.Now,s.Epoch,s.Seq⟩,path,label,(-1)⟩ : View)).bind fun x =>
 some x
theorem xp (s : State) (path : List UInt8) (label : Int) : Lo (lk s path label) (gD s path label):=by
 unfold lk gD
 repeat' (first | (with_reducible first | exact sj _ | apply af | apply ai | refine ah ?_ _ | exact ag _) | (intro _) | exact ae | (dsimp only))
def nx (s : State) (label : Int) (kids : List (List UInt8)) (t : Rows3_ListInt × Int) : Option ((Rows3_ListInt × Int) ⊕ Rows3_ListInt):=none
theorem t_ (s : State) (label : Int) (kids : List (List UInt8)) (t : Rows3_ListInt × Int) : Lo (nx s label kids t) (qA s label kids t):=ae
def lP (self : State → (List UInt8) → Int → Int → Int → Option (List Share)) (s : State) (path : List UInt8) (label : Int) (mem : Int) (deep : Int) : Option (List Share) :=
 (gL s.Conf path).bind fun kids =>
 (
 bif (kids.length : Int) == 0 then
  some true
 else
  some (decide (deep > 4))).bind fun q =>
 bif q then
 some [(⟨path,mem⟩ : Share)]
 else
 (mkl 8 (kids.length : Int) (kids.length : Int) 0).bind fun l =>
 (mkl 8 (kids.length : Int) (kids.length : Int) 0).bind fun l1 =>
 (mkl 8 (kids.length : Int) (kids.length : Int) 0).bind fun l2 =>
 (itr 4096 (nx s label kids) ((⟨l,l1,l2⟩ : Rows3_ListInt),0)).bind fun rows =>
 none
theorem wT (self self_' : State → (List UInt8) → Int → Int → Int → Option (List Share)) (h_self : ∀ (a0 : State) (a1 : (List UInt8)) (a2 : Int) (a3 : Int) (a4 : Int),Lo (self a0 a1 a2 a3 a4) (self_' a0 a1 a2 a3 a4)) (s : State) (path : List UInt8) (label : Int) (mem : Int) (deep : Int) : Lo (lP self s path label mem deep) (oM self_' s path label mem deep):=by
 unfold lP oM
 repeat' (first | (with_reducible first | exact kL _ _ | exact t_ _ _ _ _ | refine h_self _ _ _ _ _ | apply af | apply ai | refine ah ?_ _ | exact ag _) | (intro _) | exact ae | (dsimp only))
def hP : Nat → State → (List UInt8) → Int → Int → Int → Option (List Share)
 | 0 => fun _ _ _ _ _ => none
 | n + 1 => lP (hP n)
theorem qb : ∀ (n : Nat),∀ (a0 : State) (a1 : List UInt8) (a2 : Int) (a3 : Int) (a4 : Int),Lo (hP n a0 a1 a2 a3 a4) (gE n a0 a1 a2 a3 a4)
 | 0 => fun _ _ _ _ _ => ae
 | n + 1 => fun a0 a1 a2 a3 a4 => wT (hP n) (gE n) (qb n) a0 a1 a2 a3 a4
def oO (a0 : State) (a1 : List UInt8) (a2 : Int) (a3 : Int) (a4 : Int) : Option (List Share):=hP 64 a0 a1 a2 a3 a4
theorem zM (a0 : State) (a1 : List UInt8) (a2 : Int) (a3 : Int) (a4 : Int) : Lo (oO a0 a1 a2 a3 a4) (m7 a0 a1 a2 a3 a4):=by
 unfold oO m7
 repeat' (first | (with_reducible first | refine qb _ _ _ _ _ _ | apply af | apply ai | refine ah ?_ _ | exact ag _) | (intro _) | exact ae | (dsimp only))
def iY (s : State) (label : Int) : Option (List Share) :=
 (eL s label).bind fun x =>
 (oO s ([114,111,111,116] : List UInt8) label x.Mem 1).bind fun x1 =>
 some x1
theorem rD (s : State) (label : Int) : Lo (iY s label) (iu s label):=by
 unfold iY iu
 repeat' (first | (with_reducible first | exact iS _ _ | exact zM _ _ _ _ _ | apply af | apply ai | refine ah ?_ _ | exact ag _) | (intro _) | exact ae | (dsimp only))
def jg (s : State) (label : Int) (t1 : Looker × Int) : Option ((Looker × Int) ⊕ Looker) :=
 bif decide (t1.2 < (s.Conts.length : Int)) then
 (
  (idx s.Conts t1.2).bind fun x4 =>
  bif x4.Label != label then
  some t1.1
  else
  (e_ s x4.App).bind fun x5 =>
  bif x4.Notice != 0 then
   none
  else
   some (⟨⟨⟨t1.1.s.Conf.Labels,t1.1.s.Conf.Queues⟩,t1.1.s.Nodes,t1.1.s.Apps,t1.1.s.Conts,t1.1.s.Slots,t1.1.s.Plans,t1.1.s.Now,t1.1.s.Epoch,t1.1.s.Seq⟩,t1.1.label,t1.1.over,mput (fun x6 => x4.Id == x6.k) t1.1.leaf (⟨x4.Id,x5.1.Queue⟩ : Ent4_IntListUInt8),t1.1.noticed,t1.1.gone⟩ : Looker)).bind fun k1 =>
 some (.inl (k1,w64 (t1.2 + 1)))
 else
 some (.inr t1.1)
theorem u9 (s : State) (label : Int) (t1 : Looker × Int) : Lo (jg s label t1) (k_ s label t1):=by
 unfold jg k_
 repeat' (first | (with_reducible first | exact ip _ _ | apply af | apply ai | refine ah ?_ _ | exact ag _) | (intro _) | exact ae | (dsimp only))
def jq (s : State) (label : Int) (x : List Share) (t : Looker × Int) : Option ((Looker × Int) ⊕ Looker) :=
 bif decide (t.2 < (x.length : Int)) then
 (inb t.2 x.length).bind fun i =>
 (x[i]?).bind fun x1 =>
 (cX s x1.Path label).bind fun x2 =>
 some (.inl ((⟨⟨⟨t.1.s.Conf.Labels,t.1.s.Conf.Queues⟩,t.1.s.Nodes,t.1.s.Apps,t.1.s.Conts,t.1.s.Slots,t.1.s.Plans,t.1.s.Now,t.1.s.Epoch,t.1.s.Seq⟩,t.1.label,mput (fun x3 => x1.Path == x3.k) t.1.over (⟨x1.Path,w64 (x2.Mem - x1.Mem)⟩ : Ent0_ListUInt8Int),t.1.leaf,t.1.noticed,t.1.gone⟩ : Looker),w64 (t.2 + 1)))
 else
 some (.inr t.1)
theorem uF (s : State) (label : Int) (x : List Share) (t : Looker × Int) : Lo (jq s label x t) (kW s label x t):=by
 unfold jq kW
 repeat' (first | (with_reducible first | exact eK _ _ _ | apply af | apply ai | refine ah ?_ _ | exact ag _) | (intro _) | exact ae | (dsimp only))
def my (s : State) (label : Int) : Option Looker :=
 (iY s label).bind fun x =>
 (itr 4096 (jq s label x) ((⟨⟨⟨s.Conf.Labels,s.Conf.Queues⟩,s.Nodes,s.Apps,s.Conts,s.Slots,s.Plans,s.Now,s.Epoch,s.Seq⟩,label,[],[],[],0⟩ : Looker),0)).bind fun k =>
 (itr 4096 (jg s label) (k,0)).bind fun k2 =>
 some k2
theorem xM (s : State) (label : Int) : Lo (my s label) (kM s label):=by
 unfold my kM
 repeat' (first | (with_reducible first | exact rD _ _ | exact uF _ _ _ _ | exact u9 _ _ _ | apply af | apply ai | refine ah ?_ _ | exact ag _) | (intro _) | exact ae | (dsimp only))
def dH (k : Looker) (path : List UInt8) (x : Vec) (x1 : Vec) (x2 : App) (t1 : Int) : Option (Int ⊕ (Int ⊕ Unit)) :=
 bif decide (t1 < (x2.Asks.length : Int)) then
 (idx x2.Asks t1).bind fun x4 =>
 (
  bif x4.Label == k.label then
  some (decide ((w64 (x.Mem + x4.Size.Mem)) ≤ x1.Mem))
  else
  some false).bind fun q1 =>
 bif q1 then
  (lk k.s path k.label).bind fun x5 =>
  some (.inr (.inl (imin x5.Mem (w64 (x1.Mem - x.Mem)))))
 else
  some (.inl (w64 (t1 + 1)))
 else
 some (.inr (.inr ()))
theorem oy (k : Looker) (path : List UInt8) (x : Vec) (x1 : Vec) (x2 : App) (t1 : Int) : Lo (dH k path x x1 x2 t1) (eJ k path x x1 x2 t1):=by
 unfold dH eJ
 repeat' (first | (with_reducible first | exact xp _ _ _ | apply af | apply ai | refine ah ?_ _ | exact ag _) | (intro _) | exact ae | (dsimp only))
def dG (k : Looker) (path : List UInt8) (x : Vec) (x1 : Vec) (t : Int) : Option (Int ⊕ (Int ⊕ Unit)) :=
 bif decide (t < (k.s.Apps.length : Int)) then
 (
  (idx k.s.Apps t).bind fun x2 =>
  (
  (cD x2).bind fun x3 =>
  bif ! x3 then
   some true
  else
   some (! (x2.Queue == path))).bind fun q =>
  bif q then
  some (.inl ())
  else
  (itr 4096 (dH k path x x1 x2) 0).bind fun q0 =>
  match q0 with
  | .inl q2 =>
   some (.inr q2)
  | .inr _ =>
   some (.inl ()) : Option (Unit ⊕ Int)).bind fun q0 =>
 match q0 with
 | .inl _ =>
  some (.inl (w64 (t + 1)))
 | .inr q3 =>
  some (.inr (.inl q3))
 else
 some (.inr (.inr ()))
theorem n7 (k : Looker) (path : List UInt8) (x : Vec) (x1 : Vec) (t : Int) : Lo (dG k path x x1 t) (eG k path x x1 t):=by
 unfold dG eG
 repeat' (first | (with_reducible first | exact oy _ _ _ _ _ _ | apply aA | apply ay | apply az | apply af | apply ai | refine ah ?_ _ | exact ag _) | (intro _) | exact ae | (dsimp only))
def fj (k : Looker) (path : List UInt8) : Option (Int × Looker) :=
 (cX k.s path k.label).bind fun x =>
 (eN k.s path k.label).bind fun x1 =>
 (itr 4096 (dG k path x x1) 0).bind fun q0 =>
 match q0 with
 | .inl q4 =>
 some (q4,k)
 | .inr _ =>
 some (0,k)
theorem qT (k : Looker) (path : List UInt8) : Lo (fj k path) (dN k path):=by
 unfold fj dN
 repeat' (first | (with_reducible first | exact eK _ _ _ | exact iZ _ _ _ | exact n7 _ _ _ _ _ | apply aA | apply ay | apply az | apply af | apply ai | refine ah ?_ _ | exact ag _) | (intro _) | exact ae | (dsimp only))
def dZ (x : List Share) (t : Looker × Int × Int) : Option ((Looker × Int × Int) ⊕ ((Looker × Int))) :=
 bif decide (t.2.2 < (x.length : Int)) then
 (inb t.2.2 x.length).bind fun i =>
 (x[i]?).bind fun x1 =>
 (fj t.1 x1.Path).bind fun x2 =>
 let sum:=w64 (t.2.1 + x2.1)
 some (.inl (x2.2,sum,w64 (t.2.2 + 1)))
 else
 some (.inr (t.1,t.2.1))
theorem pb (x : List Share) (t : Looker × Int × Int) : Lo (dZ x t) (fh x t):=by
 unfold dZ fh
 repeat' (first | (with_reducible first | exact qT _ _ | apply af | apply ai | refine ah ?_ _ | exact ag _) | (intro _) | exact ae | (dsimp only))
def fR (k : Looker) : Option (Int × Looker) :=
 (iY k.s k.label).bind fun x =>
 (itr 4096 (dZ x) (k,0,0)).bind fun q =>
 (eL q.1.s q.1.label).bind fun x3 =>
 (cX q.1.s ([114,111,111,116] : List UInt8) q.1.label).bind fun x4 =>
 some (w64 (q.2 - (imax (w64 (x3.Mem - x4.Mem)) 0)),q.1)
theorem rN (k : Looker) : Lo (fR k) (eo k):=by
 unfold fR eo
 repeat' (first | (with_reducible first | exact rD _ _ | exact pb _ _ | exact iS _ _ | exact eK _ _ _ | apply af | apply ai | refine ah ?_ _ | exact ag _) | (intro _) | exact ae | (dsimp only))
def mL (s : State) (label : Int) : Option (List Int) :=
 (my s label).bind fun k =>
 (fR k).bind fun need =>
 (itr 4096 (rr need) []).bind fun out1 =>
 some out1
theorem yD (s : State) (label : Int) : Lo (mL s label) (lg s label):=by
 unfold mL lg
 repeat' (first | (with_reducible first | exact xM _ _ | exact rN _ | apply af | apply ai | refine ah ?_ _ | exact ag _) | (intro _) | exact ae | (dsimp only))
def bv (data : List Int) (a : Int) (b : Int) (i : Int) : Option (Int ⊕ Unit) :=
 bif decide (i < b) then
 (itr 4096 (dg data a) i).bind fun _ =>
 some (.inl (w64 (i + 1)))
 else
 some (.inr ())
theorem gQ (data : List Int) (a : Int) (b : Int) (i : Int) : Lo (bv data a b i) (bK data a b i):=by
 unfold bv bK
 repeat' (first | (with_reducible first | apply af | apply ai | refine ah ?_ _ | exact ag _) | (intro _) | exact ae | (dsimp only))
def bM (data : List Int) (a : Int) (b : Int) : Option Unit :=
 (itr 4096 (bv data a b) (w64 (a + 1))).bind fun _ =>
 some ()
theorem iU (data : List Int) (a : Int) (b : Int) : Lo (bM data a b) (a_ data a b):=by
 unfold bM a_
 repeat' (first | (with_reducible first | exact gQ _ _ _ _ | apply af | apply ai | refine ah ?_ _ | exact ag _) | (intro _) | exact ae | (dsimp only))
def bV (data : List Int) (a : Int) (b : Int) (limit : Int) (_t : Unit) : Option (Unit ⊕ Unit) :=
 bif decide ((w64 (b - a)) ≤ 12) then
 (bM data a b).bind fun _ =>
 some (.inr ())
 else
 bif limit == 0 then
  none
 else
  none
theorem jp (data : List Int) (a : Int) (b : Int) (limit : Int) (_t : Unit) : Lo (bV data a b limit _t) (b9 data a b limit _t):=by
 unfold bV b9
 repeat' (first | (with_reducible first | exact iU _ _ _ | apply af | apply ai | refine ah ?_ _ | exact ag _) | (intro _) | exact ae | (dsimp only))
def cg (self : (List Int) → Int → Int → Int → Option Unit) (data : List Int) (a : Int) (b : Int) (limit : Int) : Option Unit :=
 (itr 4096 (bV data a b limit) ()).bind fun _ =>
 some ()
theorem kt (self self_' : (List Int) → Int → Int → Int → Option Unit) (h_self : ∀ (a0 : (List Int)) (a1 : Int) (a2 : Int) (a3 : Int),Lo (self a0 a1 a2 a3) (self_' a0 a1 a2 a3)) (data : List Int) (a : Int) (b : Int) (limit : Int) : Lo (cg self data a b limit) (cM self_' data a b limit):=by
 unfold cg cM
 repeat' (first | (with_reducible first | exact jp _ _ _ _ _ | refine h_self _ _ _ _ | apply af | apply ai | refine ah ?_ _ | exact ag _) | (intro _) | exact ae | (dsimp only))
def br : Nat → (List Int) → Int → Int → Int → Option Unit
 | 0 => fun _ _ _ _ => none
 | n + 1 => cg (br n)
theorem eA : ∀ (n : Nat),∀ (a0 : List Int) (a1 : Int) (a2 : Int) (a3 : Int),Lo (br n a0 a1 a2 a3) (aW n a0 a1 a2 a3)
 | 0 => fun _ _ _ _ => ae
 | n + 1 => fun a0 a1 a2 a3 => kt (br n) (aW n) (eA n) a0 a1 a2 a3
def cO (a0 : List Int) (a1 : Int) (a2 : Int) (a3 : Int) : Option Unit:=br 64 a0 a1 a2 a3
theorem lY (a0 : List Int) (a1 : Int) (a2 : Int) (a3 : Int) : Lo (cO a0 a1 a2 a3) (bW a0 a1 a2 a3):=by
 unfold cO bW
 repeat' (first | (with_reducible first | refine eA _ _ _ _ _ | apply af | apply ai | refine ah ?_ _ | exact ag _) | (intro _) | exact ae | (dsimp only))
def d7 (x : List Int) : Option Unit :=
 (xe (IntKind.u64.wrap (x.length : Int))).bind fun x1 =>
 (cO x 0 (x.length : Int) x1).bind fun _ =>
 some ()
theorem pJ (x : List Int) : Lo (d7 x) (cS x):=by
 unfold d7 cS
 repeat' (first | (with_reducible first | exact lY _ _ _ _ | apply af | apply ai | refine ah ?_ _ | exact ag _) | (intro _) | exact ae | (dsimp only))
def iK (s : State) (t3 : State) (t4 : List Int × Int) : Option ((List Int × Int) ⊕ List Int) :=
 bif decide (t4.2 < (s.Conts.length : Int)) then
 (
  (idx s.Conts t4.2).bind fun x5 =>
  (i_ t3.Conts (fun a' => kX a'.1 x5)).bind fun x6 =>
  bif ! x6 then
  (app 8 t4.1 [x5.Id]).bind fun l =>
  some l
  else
  some t4.1).bind fun gone =>
 some (.inl (gone,w64 (t4.2 + 1)))
 else
 some (.inr t4.1)
theorem ui (s : State) (t3 : State) (t4 : List Int × Int) : Lo (iK s t3 t4) (jW s t3 t4):=by
 unfold iK jW
 repeat' (first | (with_reducible first | refine rn _ _ _ ?_ | apply af | apply ai | refine ah ?_ _ | exact ag _) | (intro _) | exact ae | (dsimp only))
def iG (x2 : List Int) (t1 : State × Int) : Option ((State × Int) ⊕ State) :=
 bif decide (t1.2 < (x2.length : Int)) then
 (inb t1.2 x2.length).bind fun i =>
 (x2[i]?).bind fun x3 =>
 (fa t1.1.Conts (fun a' => ll a'.1 x3)).bind fun i1 =>
 (inb i1 t1.1.Conts.length).bind fun i2 =>
 (t1.1.Conts[i2]?).bind fun x4 =>
 some (.inl ((⟨⟨t1.1.Conf.Labels,t1.1.Conf.Queues⟩,t1.1.Nodes,t1.1.Apps,List.set t1.1.Conts i2 (⟨x4.Id,x4.App,x4.Node,⟨x4.Size.Mem,x4.Size.Cores⟩,x4.Prio,x4.Label,x4.Master,imax t1.1.Now 1⟩ : Cont),t1.1.Slots,t1.1.Plans,t1.1.Now,t1.1.Epoch,t1.1.Seq⟩ : State),w64 (t1.2 + 1)))
 else
 some (.inr t1.1)
theorem uf (x2 : List Int) (t1 : State × Int) : Lo (iG x2 t1) (jR x2 t1):=by
 unfold iG jR
 repeat' (first | (with_reducible first | refine iJ _ _ _ ?_ | apply af | apply ai | refine ah ?_ _ | exact ag _) | (intro _) | exact ae | (dsimp only))
def ic (s : State) (t : State × Int) : Option ((State × Int) ⊕ State) :=
 bif decide (t.2 < (s.Conf.Labels.length : Int)) then
 (mf t.1 t.2).bind fun x1 =>
 (mL x1 t.2).bind fun x2 =>
 (itr 4096 (iG x2) (x1,0)).bind fun t2 =>
 some (.inl (t2,w64 (t.2 + 1)))
 else
 some (.inr t.1)
theorem ua (s : State) (t : State × Int) : Lo (ic s t) (jQ s t):=by
 unfold ic jQ
 repeat' (first | (with_reducible first | exact yd _ _ | exact yD _ _ | exact uf _ _ | apply af | apply ai | refine ah ?_ _ | exact ag _) | (intro _) | exact ae | (dsimp only))
def kC (s : State) : Option (State × List Int) :=
 (bT s []).bind fun x =>
 (itr 4096 (ic s) (x,0)).bind fun t3 =>
 (itr 4096 (iK s t3) ([],0)).bind fun gone1 =>
 (d7 gone1).bind fun _ =>
 some (t3,gone1)
theorem xl (s : State) : Lo (kC s) (jH s):=by
 unfold kC jH
 repeat' (first | (with_reducible first | exact fJ _ _ | exact ua _ _ | exact ui _ _ _ | exact pJ _ | apply af | apply ai | refine ah ?_ _ | exact ag _) | (intro _) | exact ae | (dsimp only))
def fm (was : List Cont) (t2 : Step) (x6 : State × List Int) (t4 : Output × Int) : Option ((Output × Int) ⊕ Output) :=
 bif decide (t4.2 < (was.length : Int)) then
 (
  (inb t4.2 was.length).bind fun i2 =>
  (was[i2]?).bind fun x7 =>
  (ce (⟨⟨⟨x6.1.Conf.Labels,x6.1.Conf.Queues⟩,x6.1.Nodes,x6.1.Apps,x6.1.Conts,x6.1.Slots,x6.1.Plans,x6.1.Now,x6.1.Epoch,x6.1.Seq⟩,⟨t2.x.Kind,t2.x.Id,t2.x.Beat,t2.x.N,t2.x.Text,⟨t2.x.Node.Id,t2.x.Node.Label,t2.x.Node.Rack,⟨t2.x.Node.Cap.Mem,t2.x.Node.Cap.Cores⟩,t2.x.Node.Seen,t2.x.Node.Beat,t2.x.Node.Up⟩,⟨t2.x.App.Id,t2.x.App.State,t2.x.App.Queue,t2.x.App.User,t2.x.App.Prio,⟨t2.x.App.Master.Mem,t2.x.App.Master.Cores⟩,t2.x.App.Asks,t2.x.App.Seen,t2.x.App.Beat,t2.x.App.Grants,t2.x.App.Kills,t2.x.App.Told,t2.x.App.Lost⟩,t2.x.Asks,t2.x.Ids,⟨t2.x.Plan.Id,t2.x.Plan.Label,t2.x.Plan.From,t2.x.Plan.Until,⟨t2.x.Plan.Need.Mem,t2.x.Plan.Need.Cores⟩⟩⟩⟩ : Step) [x7.Id]).bind fun x8 =>
  bif (x8.length : Int) == 0 then
  (app 8 t4.1.Gone [x7.Id]).bind fun l =>
  some (⟨t4.1.Err,t4.1.Conts,t4.1.Ids,l,t4.1.N⟩ : Output)
  else
  some t4.1).bind fun out =>
 some (.inl (out,w64 (t4.2 + 1)))
 else
 some (.inr t4.1)
theorem qX (was : List Cont) (t2 : Step) (x6 : State × List Int) (t4 : Output × Int) : Lo (fm was t2 x6 t4) (gp was t2 x6 t4):=by
 unfold fm gp
 repeat' (first | (with_reducible first | exact kg _ _ | apply af | apply ai | refine ah ?_ _ | exact ag _) | (intro _) | exact ae | (dsimp only))
def fd (x : List Int) (t1 : Step × Int) : Option ((Step × Int) ⊕ Step) :=
 bif decide (t1.2 < (x.length : Int)) then
 (inb t1.2 x.length).bind fun i =>
 (x[i]?).bind fun x1 =>
 (gO t1.1 x1).bind fun x2 =>
 some (.inl (x2,w64 (t1.2 + 1)))
 else
 some (.inr t1.1)
theorem qV (x : List Int) (t1 : Step × Int) : Lo (fd x t1) (gm x t1):=by
 unfold fd gm
 repeat' (first | (with_reducible first | exact tg _ _ | apply af | apply ai | refine ah ?_ _ | exact ag _) | (intro _) | exact ae | (dsimp only))
def gT (t : Step) : Option (Output × Step) :=
 (
 bif decide (t.x.N < 1) then
  some true
 else
  some (decide (t.x.N > 100))).bind fun q =>
 bif q then
 none
 else
 bif decide (t.s.Now > (w64 (1000000000 - t.x.N))) then
  none
 else
  (ba t.s.Conts).bind fun was =>
  (mP (⟨⟨t.s.Conf.Labels,t.s.Conf.Queues⟩,t.s.Nodes,t.s.Apps,t.s.Conts,t.s.Slots,t.s.Plans,w64 (t.s.Now + t.x.N),t.s.Epoch,t.s.Seq⟩ : State)).bind fun x =>
  (itr 4096 (fd x) ((⟨⟨⟨t.s.Conf.Labels,t.s.Conf.Queues⟩,t.s.Nodes,t.s.Apps,t.s.Conts,t.s.Slots,t.s.Plans,w64 (t.s.Now + t.x.N),t.s.Epoch,t.s.Seq⟩,⟨t.x.Kind,t.x.Id,t.x.Beat,t.x.N,t.x.Text,⟨t.x.Node.Id,t.x.Node.Label,t.x.Node.Rack,⟨t.x.Node.Cap.Mem,t.x.Node.Cap.Cores⟩,t.x.Node.Seen,t.x.Node.Beat,t.x.Node.Up⟩,⟨t.x.App.Id,t.x.App.State,t.x.App.Queue,t.x.App.User,t.x.App.Prio,⟨t.x.App.Master.Mem,t.x.App.Master.Cores⟩,t.x.App.Asks,t.x.App.Seen,t.x.App.Beat,t.x.App.Grants,t.x.App.Kills,t.x.App.Told,t.x.App.Lost⟩,t.x.Asks,t.x.Ids,⟨t.x.Plan.Id,t.x.Plan.Label,t.x.Plan.From,t.x.Plan.Until,⟨t.x.Plan.Need.Mem,t.x.Plan.Need.Cores⟩⟩⟩⟩ : Step),0)).bind fun t2 =>
  (ou t2.s).bind fun x3 =>
  (itr 4096 (kY x3) 0).bind fun _ =>
  (kG t2.s.Plans (fun a' => none)).bind fun x5 =>
  (kC (⟨⟨t2.s.Conf.Labels,t2.s.Conf.Queues⟩,t2.s.Nodes,t2.s.Apps,t2.s.Conts,t2.s.Slots,x5,t2.s.Now,t2.s.Epoch,t2.s.Seq⟩ : State)).bind fun x6 =>
  (itr 4096 (fm was t2 x6) ((⟨0,[],[],[],0⟩ : Output),0)).bind fun out1 =>
  some (out1,(⟨⟨⟨x6.1.Conf.Labels,x6.1.Conf.Queues⟩,x6.1.Nodes,x6.1.Apps,x6.1.Conts,x6.1.Slots,x6.1.Plans,x6.1.Now,x6.1.Epoch,x6.1.Seq⟩,⟨t2.x.Kind,t2.x.Id,t2.x.Beat,t2.x.N,t2.x.Text,⟨t2.x.Node.Id,t2.x.Node.Label,t2.x.Node.Rack,⟨t2.x.Node.Cap.Mem,t2.x.Node.Cap.Cores⟩,t2.x.Node.Seen,t2.x.Node.Beat,t2.x.Node.Up⟩,⟨t2.x.App.Id,t2.x.App.State,t2.x.App.Queue,t2.x.App.User,t2.x.App.Prio,⟨t2.x.App.Master.Mem,t2.x.App.Master.Cores⟩,t2.x.App.Asks,t2.x.App.Seen,t2.x.App.Beat,t2.x.App.Grants,t2.x.App.Kills,t2.x.App.Told,t2.x.App.Lost⟩,t2.x.Asks,t2.x.Ids,⟨t2.x.Plan.Id,t2.x.Plan.Label,t2.x.Plan.From,t2.x.Plan.Until,⟨t2.x.Plan.Need.Mem,t2.x.Plan.Need.Cores⟩⟩⟩⟩ : Step))
theorem tc (t : Step) : Lo (gT t) (fw t):=by
 unfold gT fw
 repeat' (first | (with_reducible first | exact ye _ | exact qV _ _ | exact zw _ | refine wS _ _ _ ?_ | exact xl _ | exact qX _ _ _ _ | apply af | apply ai | refine ah ?_ _ | exact ag _) | (intro _) | exact ae | (dsimp only))
def jh (t : Step) : Option (Output × Step) :=
 bif t.x.Kind == 1 then
 none
 else
 bif t.x.Kind == 2 then
  (j7 t.s t.x.Node).bind fun x =>
  (c9 t x.1 x.2).bind fun x1 =>
  some (x1.1,x1.2)
 else
  bif t.x.Kind == 3 then
  (gV t).bind fun x2 =>
  some (x2.1,x2.2)
  else
  bif t.x.Kind == 4 then
   (om t.s t.x.App).bind fun x3 =>
   (c9 t x3.1 x3.2).bind fun x4 =>
   some (x4.1,x4.2)
  else
   bif t.x.Kind == 5 then
   (fY t).bind fun x5 =>
   some (x5.1,x5.2)
   else
   bif t.x.Kind == 6 then
    none
   else
    bif t.x.Kind == 7 then
    none
    else
    bif t.x.Kind == 8 then
     (gT t).bind fun x6 =>
     some (x6.1,x6.2)
    else
     bif t.x.Kind == 9 then
     none
     else
     bif t.x.Kind == 10 then
      none
     else
      bif t.x.Kind == 11 then
      none
      else
      none
theorem va (t : Step) : Lo (jh t) (hU t):=by
 unfold jh hU
 repeat' (first | (with_reducible first | exact vY _ _ | exact th _ | exact zD _ _ | exact rG _ | exact tc _ | apply af | apply ai | refine ah ?_ _ | exact ag _) | (intro _) | exact ae | (dsimp only))
def dY (s : State) (x : Input) : Option (State × Output) :=
 (bT s []).bind fun x1 =>
 (jh (⟨⟨⟨x1.Conf.Labels,x1.Conf.Queues⟩,x1.Nodes,x1.Apps,x1.Conts,x1.Slots,x1.Plans,x1.Now,x1.Epoch,x1.Seq⟩,⟨x.Kind,x.Id,x.Beat,x.N,x.Text,⟨x.Node.Id,x.Node.Label,x.Node.Rack,⟨x.Node.Cap.Mem,x.Node.Cap.Cores⟩,x.Node.Seen,x.Node.Beat,x.Node.Up⟩,⟨x.App.Id,x.App.State,x.App.Queue,x.App.User,x.App.Prio,⟨x.App.Master.Mem,x.App.Master.Cores⟩,x.App.Asks,x.App.Seen,x.App.Beat,x.App.Grants,x.App.Kills,x.App.Told,x.App.Lost⟩,x.Asks,x.Ids,⟨x.Plan.Id,x.Plan.Label,x.Plan.From,x.Plan.Until,⟨x.Plan.Need.Mem,x.Plan.Need.Cores⟩⟩⟩⟩ : Step)).bind fun x2 =>
 bif x2.1.Err != 0 then
 (bT s []).bind fun x3 =>
 some (x3,x2.1)
 else
 (bT x2.2.s []).bind fun x4 =>
 some (x4,x2.1)
theorem g_ (s : State) (x : Input) : Lo (dY s x) (eh s x):=by
 unfold dY eh
 repeat' (first | (with_reducible first | exact fJ _ _ | exact va _ | apply af | apply ai | refine ah ?_ _ | exact ag _) | (intro _) | exact ae | (dsimp only))
def fk (t : State × Int) : Option ((State × Int) ⊕ (Bool ⊕ State)) :=
 bif decide (t.2 < ([(⟨2,0,0,0,[],⟨1,0,0,⟨1,1⟩,0,0,false⟩,⟨0,0,[],0,0,⟨0,0⟩,[],0,0,[],[],[],[]⟩,[],[],⟨0,0,0,0,⟨0,0⟩⟩⟩ : Input),(⟨4,0,0,0,[],⟨0,0,0,⟨0,0⟩,0,0,false⟩,⟨2,0,([114,111,111,116] : List UInt8),0,0,⟨1,1⟩,[],0,0,[],[],[],[]⟩,[],[],⟨0,0,0,0,⟨0,0⟩⟩⟩ : Input),(⟨3,1,1,0,[],⟨0,0,0,⟨0,0⟩,0,0,false⟩,⟨0,0,[],0,0,⟨0,0⟩,[],0,0,[],[],[],[]⟩,[],[],⟨0,0,0,0,⟨0,0⟩⟩⟩ : Input)].length : Int)) then
 (inb t.2 [(⟨2,0,0,0,[],⟨1,0,0,⟨1,1⟩,0,0,false⟩,⟨0,0,[],0,0,⟨0,0⟩,[],0,0,[],[],[],[]⟩,[],[],⟨0,0,0,0,⟨0,0⟩⟩⟩ : Input),(⟨4,0,0,0,[],⟨0,0,0,⟨0,0⟩,0,0,false⟩,⟨2,0,([114,111,111,116] : List UInt8),0,0,⟨1,1⟩,[],0,0,[],[],[],[]⟩,[],[],⟨0,0,0,0,⟨0,0⟩⟩⟩ : Input),(⟨3,1,1,0,[],⟨0,0,0,⟨0,0⟩,0,0,false⟩,⟨0,0,[],0,0,⟨0,0⟩,[],0,0,[],[],[],[]⟩,[],[],⟨0,0,0,0,⟨0,0⟩⟩⟩ : Input)].length).bind fun i =>
 ([(⟨2,0,0,0,[],⟨1,0,0,⟨1,1⟩,0,0,false⟩,⟨0,0,[],0,0,⟨0,0⟩,[],0,0,[],[],[],[]⟩,[],[],⟨0,0,0,0,⟨0,0⟩⟩⟩ : Input),(⟨4,0,0,0,[],⟨0,0,0,⟨0,0⟩,0,0,false⟩,⟨2,0,([114,111,111,116] : List UInt8),0,0,⟨1,1⟩,[],0,0,[],[],[],[]⟩,[],[],⟨0,0,0,0,⟨0,0⟩⟩⟩ : Input),(⟨3,1,1,0,[],⟨0,0,0,⟨0,0⟩,0,0,false⟩,⟨0,0,[],0,0,⟨0,0⟩,[],0,0,[],[],[],[]⟩,[],[],⟨0,0,0,0,⟨0,0⟩⟩⟩ : Input)][i]?).bind fun x1 =>
 (dY t.1 x1).bind fun x2 =>
 bif x2.2.Err != 0 then
  some (.inr (.inl false))
 else
  some (.inl (x2.1,w64 (t.2 + 1)))
 else
 some (.inr (.inr (t.1)))
theorem qR (t : State × Int) : Lo (fk t) (gi t):=by
 unfold fk gi
 repeat' (first | (with_reducible first | exact g_ _ _ | apply af | apply ai | refine ah ?_ _ | exact ag _) | (intro _) | exact ae | (dsimp only))
def er : Option Bool :=
 (jE).bind fun x =>
 (itr 4096 fk (x,0)).bind fun q0 =>
 match q0 with
 | .inl q =>
 some q
 | .inr s =>
 bif (s.Conts.length : Int) == 1 then
  (inb 0 s.Conts.length).bind fun i1 =>
  (s.Conts[i1]?).bind fun x3 =>
  bif x3.Master then
  (lQ s).bind fun x4 =>
  some x4
  else
  some false
 else
  some false
theorem lL : Lo (er) (dA):=by
 unfold er dA
 repeat' (first | (with_reducible first | exact qR _ | exact w9 _ | apply aA | apply ay | apply az | apply af | apply ai | refine ah ?_ _ | exact ag _) | (intro _) | exact ae | (dsimp only))
def gA (l : List Input) (t : State × State × Int) : Option ((State × State × Int) ⊕ ((State × Bool) ⊕ (State × State))) :=
 bif decide (t.2.2 < (l.length : Int)) then
 (idx l t.2.2).bind fun x =>
 (dY t.1 x).bind fun x1 =>
 bif x1.2.Err != 0 then
  some (.inr (.inl (t.1,false)))
 else
  some (.inl (x1.1,t.2.1,w64 (t.2.2 + 1)))
 else
 some (.inr (.inr (t.1,t.2.1)))
theorem r_ (l : List Input) (t : State × State × Int) : Lo (gA l t) (iE l t):=by
 unfold gA iE
 repeat' (first | (with_reducible first | exact g_ _ _ | apply af | apply ai | refine ah ?_ _ | exact ag _) | (intro _) | exact ae | (dsimp only))
def cA (s : State) (l : List Input) : Option (State × Bool) :=
 (itr 4096 (gA l) (s,(⟨⟨[],[]⟩,[],[],[],[],[],0,0,0⟩ : State),0)).bind fun q0 =>
 match q0 with
 | .inl q =>
 some (q.1,q.2)
 | .inr q1 =>
 some (q1.1,true)
theorem iO (s : State) (l : List Input) : Lo (cA s l) (cp s l):=by
 unfold cA cp
 repeat' (first | (with_reducible first | exact r_ _ _ | apply aA | apply ay | apply az | apply af | apply ai | refine ah ?_ _ | exact ag _) | (intro _) | exact ae | (dsimp only))
def en (s : State) (id_ : Int) : Option (Node × Bool) :=
 (itr 4096 (lz s id_) ((⟨0,0,0,⟨0,0⟩,0,0,false⟩ : Node),0)).bind fun q0 =>
 match q0 with
 | .inl q =>
 some (q.1,q.2)
 | .inr q1 =>
 some ((⟨0,0,0,⟨0,0⟩,0,0,false⟩ : Node),false)
theorem lR (s : State) (id_ : Int) : Lo (en s id_) (dz s id_):=by
 unfold en dz
 repeat' (first | (with_reducible first | apply aA | apply ay | apply az | apply af | apply ai | refine ah ?_ _ | exact ag _) | (intro _) | exact ae | (dsimp only))
def gq (s : State) (id_ : Int) : Option (App × Bool) :=
 (itr 4096 (ko s id_) ((⟨0,0,[],0,0,⟨0,0⟩,[],0,0,[],[],[],[]⟩ : App),0)).bind fun q0 =>
 match q0 with
 | .inl q =>
 some (q.1,q.2)
 | .inr q1 =>
 some ((⟨0,0,[],0,0,⟨0,0⟩,[],0,0,[],[],[],[]⟩ : App),false)
theorem sm (s : State) (id_ : Int) : Lo (gq s id_) (eT s id_):=by
 unfold gq eT
 repeat' (first | (with_reducible first | apply aA | apply ay | apply az | apply af | apply ai | refine ah ?_ _ | exact ag _) | (intro _) | exact ae | (dsimp only))
def dn (counts : List Int) (x7 : Int) (x8 : Int) (s3 : State) (t6 : State × Int) : Option ((State × Int) ⊕ (Bool ⊕ State)) :=
 bif decide (t6.2 < (counts.length : Int)) then
 (gq t6.1 t6.2).bind fun x14 =>
 (dY t6.1 (⟨5,t6.2,w64 (x14.1.Beat + 1),0,[],⟨0,0,0,⟨0,0⟩,0,0,false⟩,⟨0,0,[],0,0,⟨0,0⟩,[],0,0,[],[],[],[]⟩,[],[],⟨0,0,0,0,⟨0,0⟩⟩⟩ : Input)).bind fun x15 =>
 (itr 4096 (iN x7 s3 t6) (0,0)).bind fun n1 =>
 (
  bif x8 == 0 then
  bif (x15.2.Gone.length : Int) != n1 then
   some true
  else
   bif ! (x8 == 0) then
   some ((x15.2.Gone.length : Int) != 0)
   else
   some false
  else
  bif ! (x8 == 0) then
   some ((x15.2.Gone.length : Int) != 0)
  else
   some false).bind fun q2 =>
 bif q2 then
  some (.inr (.inl false))
 else
  some (.inl (t6.1,w64 (t6.2 + 1)))
 else
 some (.inr (.inr (t6.1)))
theorem nN (counts : List Int) (x7 : Int) (x8 : Int) (s3 : State) (t6 : State × Int) : Lo (dn counts x7 x8 s3 t6) (aX counts x7 x8 s3 t6):=by
 unfold dn aX
 repeat' (first | (with_reducible first | exact sm _ _ | exact g_ _ _ | apply af | apply ai | refine ah ?_ _ | exact ag _) | (intro _) | exact ae | (dsimp only))
def dq (x7 : Int) (t5 : State × Int) : Option ((State × Int) ⊕ State) :=
 bif decide (t5.2 < 3) then
 (
  (en t5.1 t5.2).bind fun x11 =>
  bif t5.2 != (w64 (1 + x7)) then
  (cA t5.1 [(⟨3,t5.2,w64 (x11.1.Beat + 1),0,[],⟨0,0,0,⟨0,0⟩,0,0,false⟩,⟨0,0,[],0,0,⟨0,0⟩,[],0,0,[],[],[],[]⟩,[],[],⟨0,0,0,0,⟨0,0⟩⟩⟩ : Input)]).bind fun x12 =>
  some x12.1
  else
  some t5.1).bind fun s2 =>
 some (.inl (s2,w64 (t5.2 + 1)))
 else
 some (.inr t5.1)
theorem nF (x7 : Int) (t5 : State × Int) : Lo (dq x7 t5) (ef x7 t5):=by
 unfold dq ef
 repeat' (first | (with_reducible first | exact lR _ _ | exact iO _ _ | apply af | apply ai | refine ah ?_ _ | exact ag _) | (intro _) | exact ae | (dsimp only))
def dj (counts : List Int) (t4 : State × Int) : Option ((State × Int) ⊕ State) :=
 bif decide (t4.2 < (counts.length : Int)) then
 (cA t4.1 [(⟨5,t4.2,2,0,[],⟨0,0,0,⟨0,0⟩,0,0,false⟩,⟨0,0,[],0,0,⟨0,0⟩,[],0,0,[],[],[],[]⟩,[],[],⟨0,0,0,0,⟨0,0⟩⟩⟩ : Input)]).bind fun x9 =>
 some (.inl (x9.1,w64 (t4.2 + 1)))
 else
 some (.inr t4.1)
theorem nG (counts : List Int) (t4 : State × Int) : Lo (dj counts t4) (aV counts t4):=by
 unfold dj aV
 repeat' (first | (with_reducible first | exact iO _ _ | apply af | apply ai | refine ah ?_ _ | exact ag _) | (intro _) | exact ae | (dsimp only))
def ad (counts : List Int) (lost : Int) : Option Bool :=
 (er).bind fun x =>
 bif ! x then
 some false
 else
 (
  bif (counts.length : Int) == 0 then
  some true
  else
  some (decide ((counts.length : Int) > 3))).bind fun q =>
 bif q then
  some true
 else
  (itr 4096 h_ ([],0)).bind fun l1 =>
  (itr 4096 (bC counts) (l1,0)).bind fun l3 =>
  (app 408 l3 [(⟨3,0,1,0,[],⟨0,0,0,⟨0,0⟩,0,0,false⟩,⟨0,0,[],0,0,⟨0,0⟩,[],0,0,[],[],[],[]⟩,[],[],⟨0,0,0,0,⟨0,0⟩⟩⟩ : Input)]).bind fun l4 =>
  (itr 4096 (bF counts) (l4,0)).bind fun l6 =>
  (itr 4096 iv (l6,1)).bind fun l8 =>
  (jE).bind fun x5 =>
  (cA x5 l8).bind fun x6 =>
  bif ! x6.2 then
  some false
  else
  (aO lost 2).bind fun x7 =>
  (aO (w64 (1 + x7)) 2).bind fun x8 =>
  (
   bif x8 == 0 then
   (itr 4096 (dj counts) (x6.1,0)).bind fun s =>
   some s
   else
   some x6.1).bind fun s1 =>
  (cA s1 [(⟨8,0,0,9,[],⟨0,0,0,⟨0,0⟩,0,0,false⟩,⟨0,0,[],0,0,⟨0,0⟩,[],0,0,[],[],[],[]⟩,[],[],⟨0,0,0,0,⟨0,0⟩⟩⟩ : Input)]).bind fun x10 =>
  (itr 4096 (dq x7) (x10.1,0)).bind fun s3 =>
  (dY s3 (⟨8,0,0,1,[],⟨0,0,0,⟨0,0⟩,0,0,false⟩,⟨0,0,[],0,0,⟨0,0⟩,[],0,0,[],[],[],[]⟩,[],[],⟨0,0,0,0,⟨0,0⟩⟩⟩ : Input)).bind fun x13 =>
  (itr 4096 (dn counts x7 x8 s3) (x13.1,0)).bind fun q0 =>
  match q0 with
  | .inl q3 =>
   some q3
  | .inr t8 =>
   (en t8 (w64 (1 + x7))).bind fun x18 =>
   bif x18.2 then
   some ((w64 ((t8.Conts.length : Int) + (x13.2.Gone.length : Int))) == (s3.Conts.length : Int))
   else
   some false
theorem d8 (counts : List Int) (lost : Int) : Lo (ad counts lost) (aI counts lost):=by
 unfold ad aI
 repeat' (first | (with_reducible first | exact lL  | exact iO _ _ | exact nG _ _ | exact nF _ _ | exact g_ _ _ | exact nN _ _ _ _ _ | exact lR _ _ | apply aA | apply ay | apply az | apply af | apply ai | refine ah ?_ _ | exact ag _) | (intro _) | exact ae | (dsimp only))
end Go.Fx.D
