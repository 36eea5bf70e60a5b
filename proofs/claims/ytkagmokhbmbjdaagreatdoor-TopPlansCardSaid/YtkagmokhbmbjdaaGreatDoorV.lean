/-
  The same functions with a bound on the rounds of their loops; that they give what the others give (printed by a program). Conditions: none.
-/
import Derived.Test.YtkagmokhbmbjdaaGreatDoorD
import Derived.Test.YtkagmokhbmbjdaaGreatDoorFxD
namespace Go.Fx.D
open Go Go.Fx
set_option linter.unusedVariables false
set_option linter.unusedSimpArgs false
set_option maxRecDepth 100000
def lI : Option State :=
 some (⟨⟨[([] : List UInt8)],[(⟨([114,111,111,116] : List UInt8),[(⟨10000,10000⟩ : Cap)],10000⟩ : Queue)]⟩,[],[],[],[],[],0,0,0⟩ : State)
theorem wN : Lo (lI) (k_):=by
 unfold lI k_
 repeat' (first | (with_reducible first | apply ad | apply ae | apply ab | apply ag | apply aj | refine ai ?_ _ | exact ah _) | (intro _) | exact af | (dsimp only))
def ll (s : List UInt8) : Option Bool:=nameD 12 s
theorem yN (s : List UInt8) : Lo (ll s) (mo s):=by
 unfold ll mo
 repeat' (first | (with_reducible first | apply ad | apply ae | apply ab | apply ag | apply aj | refine ai ?_ _ | exact ah _) | (intro _) | exact af | (dsimp only))
def lV (l : List (List UInt8)) (t : List Ent0_ListUInt8Int × Int) : Option ((List Ent0_ListUInt8Int × Int) ⊕ (Int ⊕ List Ent0_ListUInt8Int)) :=
 bif decide (t.2 < (l.length : Int)) then
 (idx l t.2).bind fun x =>
 (
  bif t.2 == 0 then
  bif ! (x == ([] : List UInt8)) then
   some true
  else
   bif decide (t.2 > 0) then
   (ll x).bind fun x1 =>
   some (! x1)
   else
   some false
  else
  bif decide (t.2 > 0) then
   (ll x).bind fun x2 =>
   some (! x2)
  else
   some false).bind fun q =>
 bif q then
  some (.inr (.inl 12))
 else
  let e:=mget (fun x3 => x == x3.k) t.1 (⟨x,0⟩ : Ent0_ListUInt8Int)
  some (.inl (mput (fun x4 => x == x4.k) t.1 (⟨x,w64 (e.v + 1)⟩ : Ent0_ListUInt8Int),w64 (t.2 + 1)))
 else
 some (.inr (.inr (t.1)))
theorem Ad (l : List (List UInt8)) (t : List Ent0_ListUInt8Int × Int) : Lo (lV l t) (oV l t):=by
 unfold lV oV
 repeat' (first | (with_reducible first | exact yN _ | apply ad | apply ae | apply ab | apply ag | apply aj | refine ai ?_ _ | exact ah _) | (intro _) | exact af | (dsimp only))
def qL (l : List (List UInt8)) : Option Int :=
 (itr 4096 (lV l) ([],0)).bind fun q0 =>
 match q0 with
 | .inl q1 =>
 some q1
 | .inr was =>
 bif decide ((was.length : Int) < (l.length : Int)) then
  some 7
 else
  some 0
theorem Da (l : List (List UInt8)) : Lo (qL l) (qa l):=by
 unfold qL qa
 repeat' (first | (with_reducible first | exact Ad _ _ | apply ad | apply ae | apply ab | apply ag | apply aj | refine ai ?_ _ | exact ah _) | (intro _) | exact af | (dsimp only))
def bT (s : List UInt8) (c : Int) (i1 : Int) : Option (Int ⊕ (Int ⊕ Unit)) :=
 bif decide (i1 ≥ 0) then
 (idx s i1).bind fun ch =>
 bif (ch.toNat : Int) == c then
  some (.inr (.inl i1))
 else
  some (.inl (w64 (i1 - 1)))
 else
 some (.inr (.inr ()))
theorem lm (s : List UInt8) (c : Int) (i1 : Int) : Lo (bT s c i1) (b9 s c i1):=by
 unfold bT b9
 repeat' (first | (with_reducible first | apply ad | apply ae | apply ab | apply ag | apply aj | refine ai ?_ _ | exact ah _) | (intro _) | exact af | (dsimp only))
def cH (s : List UInt8) (c : Int) : Option Int :=
 let i:=w64 ((s.length : Int) - 1)
 (itr 4096 (bT s c) i).bind fun q0 =>
 match q0 with
 | .inl q =>
 some q
 | .inr _ =>
 some (-1)
theorem mC (s : List UInt8) (c : Int) : Lo (cH s c) (bK s c):=by
 unfold cH bK
 repeat' (first | (with_reducible first | exact lm _ _ _ | apply ad | apply ae | apply ab | apply ag | apply aj | refine ai ?_ _ | exact ah _) | (intro _) | exact af | (dsimp only))
def jf (s : List UInt8) (substr : List UInt8) : Option Int :=
 bif (substr.length : Int) == 0 then
 some (s.length : Int)
 else
 bif (substr.length : Int) == 1 then
  (idx substr 0).bind fun ch =>
  (cH s (ch.toNat : Int)).bind fun x =>
  some x
 else
  bif (substr.length : Int) == (s.length : Int) then
  bif substr == s then
   some 0
  else
   some (-1)
  else
  bif decide ((substr.length : Int) > (s.length : Int)) then
   some (-1)
  else
   none
theorem xk (s : List UInt8) (substr : List UInt8) : Lo (jf s substr) (gq s substr):=by
 unfold jf gq
 repeat' (first | (with_reducible first | exact mC _ _ | apply ad | apply ae | apply ab | apply ag | apply aj | refine ai ?_ _ | exact ah _) | (intro _) | exact af | (dsimp only))
def jG (path : List UInt8) : Option (List UInt8 × Bool) :=
 (jf path ([46] : List UInt8)).bind fun i =>
 bif decide (i < 0) then
 some (([] : List UInt8),false)
 else
 (slc path 0 i).bind fun s =>
 some (s,true)
theorem rJ (path : List UInt8) : Lo (jG path) (ky path):=by
 unfold jG ky
 repeat' (first | (with_reducible first | exact xk _ _ | apply ad | apply ae | apply ab | apply ag | apply aj | refine ai ?_ _ | exact ah _) | (intro _) | exact af | (dsimp only))
def nf (s : List UInt8) (sub : List UInt8) : Option Int:=cnt1 s sub
theorem Bo (s : List UInt8) (sub : List UInt8) : Lo (nf s sub) (lE s sub):=by
 unfold nf lE
 repeat' (first | (with_reducible first | apply ad | apply ae | apply ab | apply ag | apply aj | refine ai ?_ _ | exact ah _) | (intro _) | exact af | (dsimp only))
def gX (n2 : Int) (t : List UInt8 × Int) : Option ((List UInt8 × Int) ⊕ ((List UInt8 × Int))) :=
 bif decide (t.2 < (w64 (n2 - 1))) then
 none
 else
 some (.inr (t.1,t.2))
theorem vM (n2 : Int) (t : List UInt8 × Int) : Lo (gX n2 t) (jo n2 t):=by
 unfold gX jo
 repeat' (first | (with_reducible first | apply ad | apply ae | apply ab | apply ag | apply aj | refine ai ?_ _ | exact ah _) | (intro _) | exact af | (dsimp only))
def ka (s : List UInt8) (sep : List UInt8) (sepSave : Int) (n : Int) : Option (List (List UInt8)) :=
 bif n == 0 then
 some []
 else
 bif sep == ([] : List UInt8) then
  none
 else
  (
  bif decide (n < 0) then
   (nf s sep).bind fun x =>
   some (w64 (x + 1))
  else
   some n).bind fun n1 =>
  let n2:=imin n1 (w64 ((s.length : Int) + 1))
  (mkl 16 n2 n2 []).bind fun l =>
  (itr 4096 (gX n2) (s,0)).bind fun q =>
  (inb q.2 l.length).bind fun i =>
  (l[i]?).bind fun x1 =>
  (inS 0 (w64 (q.2 + 1)) (List.set l i q.1).length).bind fun p =>
  some (sub (List.set l i q.1) p.1 p.2)
theorem xU (s : List UInt8) (sep : List UInt8) (sepSave : Int) (n : Int) : Lo (ka s sep sepSave n) (iC s sep sepSave n):=by
 unfold ka iC
 repeat' (first | (with_reducible first | exact Bo _ _ | exact vM _ _ | apply ad | apply ae | apply ab | apply ag | apply aj | refine ai ?_ _ | exact ah _) | (intro _) | exact af | (dsimp only))
def n8 (s : List UInt8) (sep : List UInt8) : Option (List (List UInt8)) :=
 (ka s sep 0 (-1)).bind fun x =>
 some x
theorem AO (s : List UInt8) (sep : List UInt8) : Lo (n8 s sep) (lB s sep):=by
 unfold n8 lB
 repeat' (first | (with_reducible first | exact xU _ _ _ _ | apply ad | apply ae | apply ab | apply ag | apply aj | refine ai ?_ _ | exact ah _) | (intro _) | exact af | (dsimp only))
def bn (s : List (List UInt8)) (f : (TupT fam [.str] → Option Bool)) (t : Int) : Option (Int ⊕ (Int ⊕ Unit)) :=
 bif decide (t < (s.length : Int)) then
 (idx s t).bind fun x =>
 (f (x,())).bind fun r =>
 bif r then
  some (.inr (.inl t))
 else
  some (.inl (w64 (t + 1)))
 else
 some (.inr (.inr ()))
theorem iV (s : List (List UInt8)) (f f_' : (TupT fam [.str] → Option Bool)) (h_f : ∀ a,Lo (f a) (f_' a)) (t : Int) : Lo (bn s f t) (bB s f_' t):=by
 unfold bn bB
 repeat' (first | (with_reducible first | exact h_f _ | apply ad | apply ae | apply ab | apply ag | apply aj | refine ai ?_ _ | exact ah _) | (intro _) | exact af | (dsimp only))
def bG (s : List (List UInt8)) (f : (TupT fam [.str] → Option Bool)) : Option Int :=
 (itr 4096 (bn s f) 0).bind fun q0 =>
 match q0 with
 | .inl q =>
 some q
 | .inr _ =>
 some (-1)
theorem jZ (s : List (List UInt8)) (f f_' : (TupT fam [.str] → Option Bool)) (h_f : ∀ a,Lo (f a) (f_' a)) : Lo (bG s f) (a9 s f_'):=by
 unfold bG a9
 repeat' (first | (with_reducible first | refine iV _ _ _ ?_ _ | exact h_f _ | apply ad | apply ae | apply ab | apply ag | apply aj | refine ai ?_ _ | exact ah _) | (intro _) | exact af | (dsimp only))
def bk (s : List (List UInt8)) (f : (TupT fam [.str] → Option Bool)) : Option Bool :=
 (bG s f).bind fun x =>
 some (decide (x ≥ 0))
theorem iS (s : List (List UInt8)) (f f_' : (TupT fam [.str] → Option Bool)) (h_f : ∀ a,Lo (f a) (f_' a)) : Lo (bk s f) (aY s f_'):=by
 unfold bk aY
 repeat' (first | (with_reducible first | refine jZ _ _ _ ?_ | exact h_f _ | apply ad | apply ae | apply ab | apply ag | apply aj | refine ai ?_ _ | exact ah _) | (intro _) | exact af | (dsimp only))
def m0 (n : List UInt8) : Option Bool :=
 (ll n).bind fun x =>
 some (! x)
theorem AX (n : List UInt8) : Lo (m0 n) (lJ n):=by
 unfold m0 lJ
 repeat' (first | (with_reducible first | exact yN _ | apply ad | apply ae | apply ab | apply ag | apply aj | refine ai ?_ _ | exact ah _) | (intro _) | exact af | (dsimp only))
def rG (s : List UInt8) : Option Bool :=
 (n8 s ([46] : List UInt8)).bind fun l =>
 (idx l 0).bind fun x =>
 bif x == ([114,111,111,116] : List UInt8) then
 bif decide ((l.length : Int) ≤ 4) then
  (bk l (fun a' => m0 a'.1)).bind fun x1 =>
  some (! x1)
 else
  some false
 else
 some false
theorem CX (s : List UInt8) : Lo (rG s) (pS s):=by
 unfold rG pS
 repeat' (first | (with_reducible first | exact AO _ _ | refine iS _ _ _ ?_ | exact AX _ | apply ad | apply ae | apply ab | apply ag | apply aj | refine ai ?_ _ | exact ah _) | (intro _) | exact af | (dsimp only))
def ru (s : List Cap) (f : (TupT fam [.st 1] → Option Bool)) (t : Int) : Option (Int ⊕ (Int ⊕ Unit)) :=
 bif decide (t < (s.length : Int)) then
 (idx s t).bind fun x =>
 (f (x,())).bind fun r =>
 bif r then
  some (.inr (.inl t))
 else
  some (.inl (w64 (t + 1)))
 else
 some (.inr (.inr ()))
theorem C5 (s : List Cap) (f f_' : (TupT fam [.st 1] → Option Bool)) (h_f : ∀ a,Lo (f a) (f_' a)) (t : Int) : Lo (ru s f t) (vQ s f_' t):=by
 unfold ru vQ
 repeat' (first | (with_reducible first | exact h_f _ | apply ad | apply ae | apply ab | apply ag | apply aj | refine ai ?_ _ | exact ah _) | (intro _) | exact af | (dsimp only))
def xh (s : List Cap) (f : (TupT fam [.st 1] → Option Bool)) : Option Int :=
 (itr 4096 (ru s f) 0).bind fun q0 =>
 match q0 with
 | .inl q =>
 some q
 | .inr _ =>
 some (-1)
theorem Gu (s : List Cap) (f f_' : (TupT fam [.st 1] → Option Bool)) (h_f : ∀ a,Lo (f a) (f_' a)) : Lo (xh s f) (xz s f_'):=by
 unfold xh xz
 repeat' (first | (with_reducible first | refine C5 _ _ _ ?_ _ | exact h_f _ | apply ad | apply ae | apply ab | apply ag | apply aj | refine ai ?_ _ | exact ah _) | (intro _) | exact af | (dsimp only))
def pb (s : List Cap) (f : (TupT fam [.st 1] → Option Bool)) : Option Bool :=
 (xh s f).bind fun x =>
 some (decide (x ≥ 0))
theorem Co (s : List Cap) (f f_' : (TupT fam [.st 1] → Option Bool)) (h_f : ∀ a,Lo (f a) (f_' a)) : Lo (pb s f) (nA s f_'):=by
 unfold pb nA
 repeat' (first | (with_reducible first | refine Gu _ _ _ ?_ | exact h_f _ | apply ad | apply ae | apply ab | apply ag | apply aj | refine ai ?_ _ | exact ah _) | (intro _) | exact af | (dsimp only))
def rK (c : Cap) : Option Bool :=
 bif decide (c.Least < 0) then
 some true
 else
 bif decide (c.Most > 10000) then
  some true
 else
  some (decide (c.Least > c.Most))
theorem Dq (c : Cap) : Lo (rK c) (p8 c):=by
 unfold rK p8
 repeat' (first | (with_reducible first | apply ad | apply ae | apply ab | apply ag | apply aj | refine ai ?_ _ | exact ah _) | (intro _) | exact af | (dsimp only))
def vo (l : List Cap) : Option Bool :=
 (pb l (fun a' => rK a'.1)).bind fun x =>
 some (! x)
theorem Fp (l : List Cap) : Lo (vo l) (u6 l):=by
 unfold vo u6
 repeat' (first | (with_reducible first | refine Co _ _ _ ?_ | exact Dq _ | apply ad | apply ae | apply ab | apply ag | apply aj | refine ai ?_ _ | exact ah _) | (intro _) | exact af | (dsimp only))
def lL (c : Conf) (t : List Ent0_ListUInt8Int × List UInt8 × Int) : Option ((List Ent0_ListUInt8Int × List UInt8 × Int) ⊕ (Int ⊕ Unit)) :=
 bif decide (t.2.2 < (c.Queues.length : Int)) then
 (idx c.Queues t.2.2).bind fun x =>
 (jG x.Path).bind fun x1 =>
 (rG x.Path).bind fun x2 =>
 bif ! x2 then
  some (.inr (.inl 12))
 else
  (
  bif decide (t.2.2 > 0) then
   some (strLe x.Path t.2.1)
  else
   some false).bind fun q =>
  bif q then
  some (.inr (.inl 7))
  else
  (
   bif x1.2 then
   let e:=mget (fun x3 => x1.1 == x3.k) t.1 (⟨x1.1,0⟩ : Ent0_ListUInt8Int)
   some (e.v == 0)
   else
   some false).bind fun q1 =>
  bif q1 then
   some (.inr (.inl 12))
  else
   (
   bif decide (x.User < 1) then
    some true
   else
    bif decide (x.User > 1000000) then
    some true
    else
    bif (x.Caps.length : Int) != (c.Labels.length : Int) then
     some true
    else
     (vo x.Caps).bind fun x4 =>
     some (! x4)).bind fun q2 =>
   bif q2 then
   some (.inr (.inl 1))
   else
   let e1:=mget (fun x5 => x.Path == x5.k) t.1 (⟨x.Path,0⟩ : Ent0_ListUInt8Int)
   some (.inl (mput (fun x6 => x.Path == x6.k) t.1 (⟨x.Path,w64 (e1.v + 1)⟩ : Ent0_ListUInt8Int),x.Path,w64 (t.2.2 + 1)))
 else
 some (.inr (.inr ()))
theorem z_ (c : Conf) (t : List Ent0_ListUInt8Int × List UInt8 × Int) : Lo (lL c t) (pz c t):=by
 unfold lL pz
 repeat' (first | (with_reducible first | exact rJ _ | exact CX _ | exact Fp _ | apply ad | apply ae | apply ab | apply ag | apply aj | refine ai ?_ _ | exact ah _) | (intro _) | exact af | (dsimp only))
def rL (c : Conf) : Option Int :=
 (itr 4096 (lL c) ([],([] : List UInt8),0)).bind fun q0 =>
 match q0 with
 | .inl q3 =>
 some q3
 | .inr _ =>
 some 0
theorem Df (c : Conf) : Lo (rL c) (qc c):=by
 unfold rL qc
 repeat' (first | (with_reducible first | exact z_ _ _ | apply ad | apply ae | apply ab | apply ag | apply aj | refine ai ?_ _ | exact ah _) | (intro _) | exact af | (dsimp only))
def pE (c : Conf) (path : List UInt8) (t : List (List UInt8) × Int) : Option ((List (List UInt8) × Int) ⊕ List (List UInt8)) :=
 bif decide (t.2 < (c.Queues.length : Int)) then
 (
  (idx c.Queues t.2).bind fun x =>
  (jG x.Path).bind fun x1 =>
  (
  bif x1.2 then
   some (x1.1 == path)
  else
   some false).bind fun q =>
  bif q then
  (app 16 t.1 [x.Path]).bind fun l =>
  some l
  else
  some t.1).bind fun out =>
 some (.inl (out,w64 (t.2 + 1)))
 else
 some (.inr t.1)
theorem B5 (c : Conf) (path : List UInt8) (t : List (List UInt8) × Int) : Lo (pE c path t) (sV c path t):=by
 unfold pE sV
 repeat' (first | (with_reducible first | exact rJ _ | apply ad | apply ae | apply ab | apply ag | apply aj | refine ai ?_ _ | exact ah _) | (intro _) | exact af | (dsimp only))
def ja (c : Conf) (path : List UInt8) : Option (List (List UInt8)) :=
 (itr 4096 (pE c path) ([],0)).bind fun out1 =>
 some out1
theorem nQ (c : Conf) (path : List UInt8) : Lo (ja c path) (jN c path):=by
 unfold ja jN
 repeat' (first | (with_reducible first | exact B5 _ _ _ | apply ad | apply ae | apply ab | apply ag | apply aj | refine ai ?_ _ | exact ah _) | (intro _) | exact af | (dsimp only))
def ef (s : List Cap) : Option (List Cap):=app 16 [] s
theorem jy (s : List Cap) : Lo (ef s) (eg s):=by
 unfold ef eg
 repeat' (first | (with_reducible first | apply ad | apply ae | apply ab | apply ag | apply aj | refine ai ?_ _ | exact ah _) | (intro _) | exact af | (dsimp only))
def ol (s : List Queue) (f : (TupT fam [.st 2] → Option Bool)) (t : Int) : Option (Int ⊕ (Int ⊕ Unit)) :=
 bif decide (t < (s.length : Int)) then
 (idx s t).bind fun x =>
 (f (x,())).bind fun r =>
 bif r then
  some (.inr (.inl t))
 else
  some (.inl (w64 (t + 1)))
 else
 some (.inr (.inr ()))
theorem A7 (s : List Queue) (f f_' : (TupT fam [.st 2] → Option Bool)) (h_f : ∀ a,Lo (f a) (f_' a)) (t : Int) : Lo (ol s f t) (qR s f_' t):=by
 unfold ol qR
 repeat' (first | (with_reducible first | exact h_f _ | apply ad | apply ae | apply ab | apply ag | apply aj | refine ai ?_ _ | exact ah _) | (intro _) | exact af | (dsimp only))
def uh (s : List Queue) (f : (TupT fam [.st 2] → Option Bool)) : Option Int :=
 (itr 4096 (ol s f) 0).bind fun q0 =>
 match q0 with
 | .inl q =>
 some q
 | .inr _ =>
 some (-1)
theorem EQ (s : List Queue) (f f_' : (TupT fam [.st 2] → Option Bool)) (h_f : ∀ a,Lo (f a) (f_' a)) : Lo (uh s f) (sC s f_'):=by
 unfold uh sC
 repeat' (first | (with_reducible first | refine A7 _ _ _ ?_ _ | exact h_f _ | apply ad | apply ae | apply ab | apply ag | apply aj | refine ai ?_ _ | exact ah _) | (intro _) | exact af | (dsimp only))
def q_ (q : Queue) (p : List UInt8) : Option Bool :=
 some (q.Path == p)
theorem Dd (q : Queue) (p : List UInt8) : Lo (q_ q p) (pZ q p):=by
 unfold q_ pZ
 repeat' (first | (with_reducible first | apply ad | apply ae | apply ab | apply ag | apply aj | refine ai ?_ _ | exact ah _) | (intro _) | exact af | (dsimp only))
def gb (c : Conf) (path : List UInt8) : Option (Queue × Bool) :=
 (uh c.Queues (fun a' => q_ a'.1 path)).bind fun i =>
 bif decide (i < 0) then
 some ((⟨[],[],0⟩ : Queue),false)
 else
 (idx c.Queues i).bind fun x =>
 (ef x.Caps).bind fun x1 =>
 some ((⟨x.Path,x1,x.User⟩ : Queue),true)
theorem kc (c : Conf) (path : List UInt8) : Lo (gb c path) (ig c path):=by
 unfold gb ig
 repeat' (first | (with_reducible first | refine EQ _ _ _ ?_ | exact Dd _ _ | exact jy _ | apply ad | apply ae | apply ab | apply ag | apply aj | refine ai ?_ _ | exact ah _) | (intro _) | exact af | (dsimp only))
def oz (c : Conf) (kids : List (List UInt8)) (t2 : Int) (t3 : Int × Int) : Option ((Int × Int) ⊕ Int) :=
 bif decide (t3.2 < (kids.length : Int)) then
 (inb t3.2 kids.length).bind fun i =>
 (kids[i]?).bind fun x3 =>
 (gb c x3).bind fun x4 =>
 (inb t2 x4.1.Caps.length).bind fun i1 =>
 (x4.1.Caps[i1]?).bind fun x5 =>
 let sum:=w64 (t3.1 + x5.Least)
 some (.inl (sum,w64 (t3.2 + 1)))
 else
 some (.inr t3.1)
theorem BI (c : Conf) (kids : List (List UInt8)) (t2 : Int) (t3 : Int × Int) : Lo (oz c kids t2 t3) (ue c kids t2 t3):=by
 unfold oz ue
 repeat' (first | (with_reducible first | exact kc _ _ | apply ad | apply ae | apply ab | apply ag | apply aj | refine ai ?_ _ | exact ah _) | (intro _) | exact af | (dsimp only))
def oQ (c : Conf) (kids : List (List UInt8)) (t2 : Int) : Option (Int ⊕ (Int ⊕ Unit)) :=
 bif decide (t2 < (c.Labels.length : Int)) then
 (itr 4096 (oz c kids t2) (0,0)).bind fun sum1 =>
 (
  bif decide ((kids.length : Int) > 0) then
  some (sum1 != 10000)
  else
  some false).bind fun q2 =>
 bif q2 then
  some (.inr (.inl 13))
 else
  some (.inl (w64 (t2 + 1)))
 else
 some (.inr (.inr ()))
theorem CB (c : Conf) (kids : List (List UInt8)) (t2 : Int) : Lo (oQ c kids t2) (sR c kids t2):=by
 unfold oQ sR
 repeat' (first | (with_reducible first | exact BI _ _ _ _ | apply ad | apply ae | apply ab | apply ag | apply aj | refine ai ?_ _ | exact ah _) | (intro _) | exact af | (dsimp only))
def pA (c : Conf) (t1 : Int) : Option (Int ⊕ (Int ⊕ Unit)) :=
 bif decide (t1 < (c.Queues.length : Int)) then
 (idx c.Queues t1).bind fun x2 =>
 (ja c x2.Path).bind fun kids =>
 (itr 4096 (oQ c kids) 0).bind fun q0 =>
 match q0 with
 | .inl q3 =>
  some (.inr (.inl q3))
 | .inr _ =>
  some (.inl (w64 (t1 + 1)))
 else
 some (.inr (.inr ()))
theorem Cd (c : Conf) (t1 : Int) : Lo (pA c t1) (ut c t1):=by
 unfold pA ut
 repeat' (first | (with_reducible first | exact nQ _ _ | exact CB _ _ _ | apply ad | apply ae | apply ab | apply ag | apply aj | refine ai ?_ _ | exact ah _) | (intro _) | exact af | (dsimp only))
def oR (x : Queue) (t : Int) : Option (Int ⊕ (Int ⊕ Unit)) :=
 bif decide (t < (x.Caps.length : Int)) then
 (idx x.Caps t).bind fun x1 =>
 (
  bif x1.Least != 10000 then
  some true
  else
  some (x1.Most != 10000)).bind fun q =>
 bif q then
  some (.inr (.inl 13))
 else
  some (.inl (w64 (t + 1)))
 else
 some (.inr (.inr ()))
theorem Ch (x : Queue) (t : Int) : Lo (oR x t) (sZ x t):=by
 unfold oR sZ
 repeat' (first | (with_reducible first | apply ad | apply ae | apply ab | apply ag | apply aj | refine ai ?_ _ | exact ah _) | (intro _) | exact af | (dsimp only))
def vf (c : Conf) : Option Int :=
 (idx c.Queues 0).bind fun x =>
 (itr 4096 (oR x) 0).bind fun q0 =>
 match q0 with
 | .inl q1 =>
 some q1
 | .inr _ =>
 (itr 4096 (pA c) 0).bind fun q0 =>
 match q0 with
 | .inl q4 =>
  some q4
 | .inr _ =>
  some 0
theorem Gp (c : Conf) : Lo (vf c) (uT c):=by
 unfold vf uT
 repeat' (first | (with_reducible first | exact Ch _ _ | exact Cd _ _ | apply ad | apply ae | apply ab | apply ag | apply aj | refine ai ?_ _ | exact ah _) | (intro _) | exact af | (dsimp only))
def uy (c : Conf) : Option Int :=
 (
 bif (c.Labels.length : Int) == 0 then
  some true
 else
  bif decide ((c.Labels.length : Int) > 3) then
  some true
  else
  some (decide ((c.Queues.length : Int) > 16))).bind fun q =>
 bif q then
 some 4
 else
 (qL c.Labels).bind fun e =>
 bif e != 0 then
  some e
 else
  (
  bif (c.Queues.length : Int) == 0 then
   some true
  else
   (idx c.Queues 0).bind fun x =>
   some (! (x.Path == ([114,111,111,116] : List UInt8)))).bind fun q1 =>
  bif q1 then
  some 12
  else
  (rL c).bind fun e1 =>
  bif e1 != 0 then
   some e1
  else
   (vf c).bind fun x1 =>
   some x1
theorem EO (c : Conf) : Lo (uy c) (r_ c):=by
 unfold uy r_
 repeat' (first | (with_reducible first | exact Da _ | exact Df _ | exact Gp _ | apply ad | apply ae | apply ab | apply ag | apply aj | refine ai ?_ _ | exact ah _) | (intro _) | exact af | (dsimp only))
def qY (s : List Vec) (f : (TupT fam [.st 0] → Option Bool)) (t : Int) : Option (Int ⊕ (Int ⊕ Unit)) :=
 bif decide (t < (s.length : Int)) then
 (idx s t).bind fun x =>
 (f (x,())).bind fun r =>
 bif r then
  some (.inr (.inl t))
 else
  some (.inl (w64 (t + 1)))
 else
 some (.inr (.inr ()))
theorem C1 (s : List Vec) (f f_' : (TupT fam [.st 0] → Option Bool)) (h_f : ∀ a,Lo (f a) (f_' a)) (t : Int) : Lo (qY s f t) (vH s f_' t):=by
 unfold qY vH
 repeat' (first | (with_reducible first | exact h_f _ | apply ad | apply ae | apply ab | apply ag | apply aj | refine ai ?_ _ | exact ah _) | (intro _) | exact af | (dsimp only))
def wV (s : List Vec) (f : (TupT fam [.st 0] → Option Bool)) : Option Int :=
 (itr 4096 (qY s f) 0).bind fun q0 =>
 match q0 with
 | .inl q =>
 some q
 | .inr _ =>
 some (-1)
theorem Gx (s : List Vec) (f f_' : (TupT fam [.st 0] → Option Bool)) (h_f : ∀ a,Lo (f a) (f_' a)) : Lo (wV s f) (xx s f_'):=by
 unfold wV xx
 repeat' (first | (with_reducible first | refine C1 _ _ _ ?_ _ | exact h_f _ | apply ad | apply ae | apply ab | apply ag | apply aj | refine ai ?_ _ | exact ah _) | (intro _) | exact af | (dsimp only))
def rv (s : List Vec) (f : (TupT fam [.st 0] → Option Bool)) : Option Bool :=
 (wV s f).bind fun x =>
 some (decide (x ≥ 0))
theorem Dv (s : List Vec) (f f_' : (TupT fam [.st 0] → Option Bool)) (h_f : ∀ a,Lo (f a) (f_' a)) : Lo (rv s f) (p_ s f_'):=by
 unfold rv p_
 repeat' (first | (with_reducible first | refine Gx _ _ _ ?_ | exact h_f _ | apply ad | apply ae | apply ab | apply ag | apply aj | refine ai ?_ _ | exact ah _) | (intro _) | exact af | (dsimp only))
def fX (v : Vec) : Option Bool :=
 bif decide (v.Mem < 0) then
 some true
 else
 bif decide (v.Mem > 1125899906842624) then
  some true
 else
  bif decide (v.Cores < 0) then
  some true
  else
  some (decide (v.Cores > 1125899906842624))
theorem uE (v : Vec) : Lo (fX v) (dX v):=by
 unfold fX dX
 repeat' (first | (with_reducible first | apply ad | apply ae | apply ab | apply ag | apply aj | refine ai ?_ _ | exact ah _) | (intro _) | exact af | (dsimp only))
def eU (x3 : App) (t4 : List Vec × Int) : Option ((List Vec × Int) ⊕ List Vec) :=
 bif decide (t4.2 < (x3.Asks.length : Int)) then
 (idx x3.Asks t4.2).bind fun x4 =>
 (app 16 t4.1 [x4.Size]).bind fun l7 =>
 some (.inl (l7,w64 (t4.2 + 1)))
 else
 some (.inr t4.1)
theorem sJ (x3 : App) (t4 : List Vec × Int) : Lo (eU x3 t4) (ic x3 t4):=by
 unfold eU ic
 repeat' (first | (with_reducible first | apply ad | apply ae | apply ab | apply ag | apply aj | refine ai ?_ _ | exact ah _) | (intro _) | exact af | (dsimp only))
def fa (k : Look) (t3 : List Vec × Int) : Option ((List Vec × Int) ⊕ List Vec) :=
 bif decide (t3.2 < (k.s.Apps.length : Int)) then
 (idx k.s.Apps t3.2).bind fun x3 =>
 (app 16 t3.1 [x3.Master]).bind fun l6 =>
 (itr 4096 (eU x3) (l6,0)).bind fun l8 =>
 some (.inl (l8,w64 (t3.2 + 1)))
 else
 some (.inr t3.1)
theorem sN (k : Look) (t3 : List Vec × Int) : Lo (fa k t3) (gP k t3):=by
 unfold fa gP
 repeat' (first | (with_reducible first | exact sJ _ _ | apply ad | apply ae | apply ab | apply ag | apply aj | refine ai ?_ _ | exact ah _) | (intro _) | exact af | (dsimp only))
def eS (k : Look) (t2 : List Vec × Int) : Option ((List Vec × Int) ⊕ List Vec) :=
 bif decide (t2.2 < (k.s.Plans.length : Int)) then
 (idx k.s.Plans t2.2).bind fun x2 =>
 (app 16 t2.1 [x2.Need]).bind fun l4 =>
 some (.inl (l4,w64 (t2.2 + 1)))
 else
 some (.inr t2.1)
theorem uc (k : Look) (t2 : List Vec × Int) : Lo (eS k t2) (hU k t2):=by
 unfold eS hU
 repeat' (first | (with_reducible first | apply ad | apply ae | apply ab | apply ag | apply aj | refine ai ?_ _ | exact ah _) | (intro _) | exact af | (dsimp only))
def eT (k : Look) (t1 : List Vec × Int) : Option ((List Vec × Int) ⊕ List Vec) :=
 bif decide (t1.2 < (k.s.Conts.length : Int)) then
 (idx k.s.Conts t1.2).bind fun x1 =>
 (app 16 t1.1 [x1.Size]).bind fun l2 =>
 some (.inl (l2,w64 (t1.2 + 1)))
 else
 some (.inr t1.1)
theorem sU (k : Look) (t1 : List Vec × Int) : Lo (eT k t1) (gC k t1):=by
 unfold eT gC
 repeat' (first | (with_reducible first | apply ad | apply ae | apply ab | apply ag | apply aj | refine ai ?_ _ | exact ah _) | (intro _) | exact af | (dsimp only))
def eP (k : Look) (t : List Vec × Int) : Option ((List Vec × Int) ⊕ List Vec) :=
 bif decide (t.2 < (k.s.Nodes.length : Int)) then
 (idx k.s.Nodes t.2).bind fun x =>
 (app 16 t.1 [x.Cap]).bind fun l =>
 some (.inl (l,w64 (t.2 + 1)))
 else
 some (.inr t.1)
theorem tx (k : Look) (t : List Vec × Int) : Lo (eP k t) (hZ k t):=by
 unfold eP hZ
 repeat' (first | (with_reducible first | apply ad | apply ae | apply ab | apply ag | apply aj | refine ai ?_ _ | exact ah _) | (intro _) | exact af | (dsimp only))
def iL (k : Look) : Option Bool :=
 (itr 4096 (eP k) ([],0)).bind fun l1 =>
 (itr 4096 (eT k) (l1,0)).bind fun l3 =>
 (itr 4096 (eS k) (l3,0)).bind fun l5 =>
 (itr 4096 (fa k) (l5,0)).bind fun l9 =>
 (rv l9 (fun a' => fX a'.1)).bind fun x5 =>
 some (! x5)
theorem wi (k : Look) : Lo (iL k) (fL k):=by
 unfold iL fL
 repeat' (first | (with_reducible first | exact tx _ _ | exact sU _ _ | exact uc _ _ | exact sN _ _ | refine Dv _ _ _ ?_ | exact uE _ | apply ad | apply ae | apply ab | apply ag | apply aj | refine ai ?_ _ | exact ah _) | (intro _) | exact af | (dsimp only))
def jJ (n : Int) (id_ : (TupT fam [.int .i64] → Option Int)) (i : Int) : Option (Int ⊕ (Bool ⊕ Unit)) :=
 bif decide (i < n) then
 (id_ (w64 (i - 1),())).bind fun r =>
 (id_ (i,())).bind fun r1 =>
 bif decide (r ≥ r1) then
  some (.inr (.inl false))
 else
  some (.inl (w64 (i + 1)))
 else
 some (.inr (.inr ()))
theorem yg (n : Int) (id_ id__' : (TupT fam [.int .i64] → Option Int)) (h_id_ : ∀ a,Lo (id_ a) (id__' a)) (i : Int) : Lo (jJ n id_ i) (lW n id__' i):=by
 unfold jJ lW
 repeat' (first | (with_reducible first | exact h_id_ _ | apply ad | apply ae | apply ab | apply ag | apply aj | refine ai ?_ _ | exact ah _) | (intro _) | exact af | (dsimp only))
def cq (n : Int) (most : Int) (id_ : (TupT fam [.int .i64] → Option Int)) : Option Bool :=
 (itr 4096 (jJ n id_) 1).bind fun q0 =>
 match q0 with
 | .inl q =>
 some q
 | .inr _ =>
 some (decide (n ≤ most))
theorem AK (n : Int) (most : Int) (id_ id__' : (TupT fam [.int .i64] → Option Int)) (h_id_ : ∀ a,Lo (id_ a) (id__' a)) : Lo (cq n most id_) (cC n most id__'):=by
 unfold cq cC
 repeat' (first | (with_reducible first | refine yg _ _ _ ?_ _ | exact h_id_ _ | apply ad | apply ae | apply ab | apply ag | apply aj | refine ai ?_ _ | exact ah _) | (intro _) | exact af | (dsimp only))
def kC (_a0 : Int) (_a1 : State) : Option Int:=none
theorem tg (_a0 : Int) (_a1 : State) : Lo (kC _a0 _a1) (gY _a0 _a1):=af
def kE (_a0 : Int) (_a1 : State) : Option Int:=none
theorem ta (_a0 : Int) (_a1 : State) : Lo (kE _a0 _a1) (hF _a0 _a1):=af
def kF (_a0 : Int) (_a1 : State) : Option Int:=none
theorem uu (_a0 : Int) (_a1 : State) : Lo (kF _a0 _a1) (gZ _a0 _a1):=af
def kD (_a0 : Int) (_a1 : State) : Option Int:=none
theorem tD (_a0 : Int) (_a1 : State) : Lo (kD _a0 _a1) (gA _a0 _a1):=af
def kA (_a0 : Int) (_a1 : State) : Option Int:=none
theorem tR (_a0 : Int) (_a1 : State) : Lo (kA _a0 _a1) (gU _a0 _a1):=af
def gR (k : Look) : Option Bool :=
 (cq (k.s.Nodes.length : Int) 12 (fun a' => kC a'.1 k.s)).bind fun x =>
 bif x then
 (cq (k.s.Apps.length : Int) 16 (fun a' => kE a'.1 k.s)).bind fun x1 =>
 bif x1 then
  (cq (k.s.Conts.length : Int) 200 (fun a' => kF a'.1 k.s)).bind fun x2 =>
  bif x2 then
  (cq (k.s.Slots.length : Int) 12 (fun a' => kD a'.1 k.s)).bind fun x3 =>
  bif x3 then
   (cq (k.s.Plans.length : Int) 12 (fun a' => kA a'.1 k.s)).bind fun x4 =>
   some x4
  else
   some false
  else
  some false
 else
  some false
 else
 some false
theorem vv (k : Look) : Lo (gR k) (eB k):=by
 unfold gR eB
 repeat' (first | (with_reducible first | refine AK _ _ _ _ ?_ | exact tg _ _ | exact ta _ _ | exact uu _ _ | exact tD _ _ | exact tR _ _ | apply ad | apply ae | apply ab | apply ag | apply aj | refine ai ?_ _ | exact ah _) | (intro _) | exact af | (dsimp only))
def pj (s : List Cont) (f : (TupT fam [.st 7] → Option Bool)) (t : Int) : Option (Int ⊕ (Int ⊕ Unit)) :=
 bif decide (t < (s.length : Int)) then
 (idx s t).bind fun x =>
 (f (x,())).bind fun r =>
 bif r then
  some (.inr (.inl t))
 else
  some (.inl (w64 (t + 1)))
 else
 some (.inr (.inr ()))
theorem Bz (s : List Cont) (f f_' : (TupT fam [.st 7] → Option Bool)) (h_f : ∀ a,Lo (f a) (f_' a)) (t : Int) : Lo (pj s f t) (tI s f_' t):=by
 unfold pj tI
 repeat' (first | (with_reducible first | exact h_f _ | apply ad | apply ae | apply ab | apply ag | apply aj | refine ai ?_ _ | exact ah _) | (intro _) | exact af | (dsimp only))
def f_ (s : List Cont) (f : (TupT fam [.st 7] → Option Bool)) : Option Int :=
 (itr 4096 (pj s f) 0).bind fun q0 =>
 match q0 with
 | .inl q =>
 some q
 | .inr _ =>
 some (-1)
theorem jE (s : List Cont) (f f_' : (TupT fam [.st 7] → Option Bool)) (h_f : ∀ a,Lo (f a) (f_' a)) : Lo (f_ s f) (il s f_'):=by
 unfold f_ il
 repeat' (first | (with_reducible first | refine Bz _ _ _ ?_ _ | exact h_f _ | apply ad | apply ae | apply ab | apply ag | apply aj | refine ai ?_ _ | exact ah _) | (intro _) | exact af | (dsimp only))
def kw (s : List Cont) (f : (TupT fam [.st 7] → Option Bool)) : Option Bool :=
 (f_ s f).bind fun x =>
 some (decide (x ≥ 0))
theorem u5 (s : List Cont) (f f_' : (TupT fam [.st 7] → Option Bool)) (h_f : ∀ a,Lo (f a) (f_' a)) : Lo (kw s f) (jM s f_'):=by
 unfold kw jM
 repeat' (first | (with_reducible first | refine jE _ _ _ ?_ | exact h_f _ | apply ad | apply ae | apply ab | apply ag | apply aj | refine ai ?_ _ | exact ah _) | (intro _) | exact af | (dsimp only))
def oy (l : List Cont) (holds : (TupT fam [.st 7] → Option Bool)) : Option Bool:=(kw l (fun x => (holds x).bind fun r => some (!r))).bind fun r => some (!r)
theorem CS (l : List Cont) (holds holds_' : (TupT fam [.st 7] → Option Bool)) (h_holds : ∀ a,Lo (holds a) (holds_' a)) : Lo (oy l holds) (m6 l holds_'):=by
 unfold oy m6
 repeat' (first | (with_reducible first | refine u5 _ _ _ ?_ | exact h_holds _ | apply ad | apply ae | apply ab | apply ag | apply aj | refine ai ?_ _ | exact ah _) | (intro _) | exact af | (dsimp only))
def qW (s : List App) (f : (TupT fam [.st 6] → Option Bool)) (t : Int) : Option (Int ⊕ (Int ⊕ Unit)) :=
 bif decide (t < (s.length : Int)) then
 (idx s t).bind fun x =>
 (f (x,())).bind fun r =>
 bif r then
  some (.inr (.inl t))
 else
  some (.inl (w64 (t + 1)))
 else
 some (.inr (.inr ()))
theorem CZ (s : List App) (f f_' : (TupT fam [.st 6] → Option Bool)) (h_f : ∀ a,Lo (f a) (f_' a)) (t : Int) : Lo (qW s f t) (vt s f_' t):=by
 unfold qW vt
 repeat' (first | (with_reducible first | exact h_f _ | apply ad | apply ae | apply ab | apply ag | apply aj | refine ai ?_ _ | exact ah _) | (intro _) | exact af | (dsimp only))
def nV (s : List App) (f : (TupT fam [.st 6] → Option Bool)) : Option Int :=
 (itr 4096 (qW s f) 0).bind fun q0 =>
 match q0 with
 | .inl q =>
 some q
 | .inr _ =>
 some (-1)
theorem vC (s : List App) (f f_' : (TupT fam [.st 6] → Option Bool)) (h_f : ∀ a,Lo (f a) (f_' a)) : Lo (nV s f) (oZ s f_'):=by
 unfold nV oZ
 repeat' (first | (with_reducible first | refine CZ _ _ _ ?_ _ | exact h_f _ | apply ad | apply ae | apply ab | apply ag | apply aj | refine ai ?_ _ | exact ah _) | (intro _) | exact af | (dsimp only))
def vK (a : App) (p : Int) : Option Bool :=
 some (a.Id == p)
theorem E_ (a : App) (p : Int) : Lo (vK a p) (u9 a p):=by
 unfold vK u9
 repeat' (first | (with_reducible first | apply ad | apply ae | apply ab | apply ag | apply aj | refine ai ?_ _ | exact ah _) | (intro _) | exact af | (dsimp only))
def ms (s : State) (id_ : Int) : Option Int :=
 (nV s.Apps (fun a' => vK a'.1 id_)).bind fun x =>
 some x
theorem sn (s : State) (id_ : Int) : Lo (ms s id_) (oF s id_):=by
 unfold ms oF
 repeat' (first | (with_reducible first | refine vC _ _ _ ?_ | exact E_ _ _ | apply ad | apply ae | apply ab | apply ag | apply aj | refine ai ?_ _ | exact ah _) | (intro _) | exact af | (dsimp only))
def m8 (s : List Ask) : Option (List Ask):=app 64 [] s
theorem vV (s : List Ask) : Lo (m8 s) (pC s):=by
 unfold m8 pC
 repeat' (first | (with_reducible first | apply ad | apply ae | apply ab | apply ag | apply aj | refine ai ?_ _ | exact ah _) | (intro _) | exact af | (dsimp only))
def iZ (l : List Int) : Option (List Int) :=
 (mkl 8 (l.length : Int) (l.length : Int) 0).bind fun l1 =>
 some (cpy l1 0 l1.length l)
theorem Ge (l : List Int) : Lo (iZ l) (jO l):=by
 unfold iZ jO
 repeat' (first | (with_reducible first | apply ad | apply ae | apply ab | apply ag | apply aj | refine ai ?_ _ | exact ah _) | (intro _) | exact af | (dsimp only))
def kf (a : App) : Option App :=
 (m8 a.Asks).bind fun x =>
 (iZ a.Grants).bind fun x1 =>
 (iZ a.Kills).bind fun x2 =>
 (iZ a.Told).bind fun x3 =>
 (iZ a.Lost).bind fun x4 =>
 some (⟨a.Id,a.State,a.Queue,a.User,a.Prio,⟨a.Master.Mem,a.Master.Cores⟩,x,a.Seen,a.Beat,x1,x2,x3,x4⟩ : App)
theorem pQ (a : App) : Lo (kf a) (mf a):=by
 unfold kf mf
 repeat' (first | (with_reducible first | exact vV _ | exact Ge _ | apply ad | apply ae | apply ab | apply ag | apply aj | refine ai ?_ _ | exact ah _) | (intro _) | exact af | (dsimp only))
def fS (s : State) (id_ : Int) : Option (App × Bool) :=
 (ms s id_).bind fun i =>
 bif decide (i < 0) then
 some ((⟨0,0,[],0,0,⟨0,0⟩,[],0,0,[],[],[],[]⟩ : App),false)
 else
 (idx s.Apps i).bind fun x =>
 (kf x).bind fun x1 =>
 some (x1,true)
theorem j9 (s : State) (id_ : Int) : Lo (fS s id_) (ii s id_):=by
 unfold fS ii
 repeat' (first | (with_reducible first | exact sn _ _ | exact pQ _ | apply ad | apply ae | apply ab | apply ag | apply aj | refine ai ?_ _ | exact ah _) | (intro _) | exact af | (dsimp only))
def pu (s : List Node) (f : (TupT fam [.st 4] → Option Bool)) (t : Int) : Option (Int ⊕ (Int ⊕ Unit)) :=
 bif decide (t < (s.length : Int)) then
 (idx s t).bind fun x =>
 (f (x,())).bind fun r =>
 bif r then
  some (.inr (.inl t))
 else
  some (.inl (w64 (t + 1)))
 else
 some (.inr (.inr ()))
theorem BK (s : List Node) (f f_' : (TupT fam [.st 4] → Option Bool)) (h_f : ∀ a,Lo (f a) (f_' a)) (t : Int) : Lo (pu s f t) (ui s f_' t):=by
 unfold pu ui
 repeat' (first | (with_reducible first | exact h_f _ | apply ad | apply ae | apply ab | apply ag | apply aj | refine ai ?_ _ | exact ah _) | (intro _) | exact af | (dsimp only))
def qe (s : List Node) (f : (TupT fam [.st 4] → Option Bool)) : Option Int :=
 (itr 4096 (pu s f) 0).bind fun q0 =>
 match q0 with
 | .inl q =>
 some q
 | .inr _ =>
 some (-1)
theorem yl (s : List Node) (f f_' : (TupT fam [.st 4] → Option Bool)) (h_f : ∀ a,Lo (f a) (f_' a)) : Lo (qe s f) (qC s f_'):=by
 unfold qe qC
 repeat' (first | (with_reducible first | refine BK _ _ _ ?_ _ | exact h_f _ | apply ad | apply ae | apply ab | apply ag | apply aj | refine ai ?_ _ | exact ah _) | (intro _) | exact af | (dsimp only))
def pc (i : Int) (n : Node) : Option Bool :=
 some (n.Id == i)
theorem BS (i : Int) (n : Node) : Lo (pc i n) (nC i n):=by
 unfold pc nC
 repeat' (first | (with_reducible first | apply ad | apply ae | apply ab | apply ag | apply aj | refine ai ?_ _ | exact ah _) | (intro _) | exact af | (dsimp only))
def nL (s : State) (id_ : Int) : Option Int :=
 (qe s.Nodes (fun a' => pc id_ a'.1)).bind fun x =>
 some x
theorem vq (s : State) (id_ : Int) : Lo (nL s id_) (oG s id_):=by
 unfold nL oG
 repeat' (first | (with_reducible first | refine yl _ _ _ ?_ | exact BS _ _ | apply ad | apply ae | apply ab | apply ag | apply aj | refine ai ?_ _ | exact ah _) | (intro _) | exact af | (dsimp only))
def g_ (s : State) (id_ : Int) : Option (Node × Bool) :=
 (nL s id_).bind fun i =>
 bif decide (i < 0) then
 some ((⟨0,0,0,⟨0,0⟩,0,0,false⟩ : Node),false)
 else
 (idx s.Nodes i).bind fun x =>
 some (x,true)
theorem lw (s : State) (id_ : Int) : Lo (g_ s id_) (iu s id_):=by
 unfold g_ iu
 repeat' (first | (with_reducible first | exact vq _ _ | apply ad | apply ae | apply ab | apply ag | apply aj | refine ai ?_ _ | exact ah _) | (intro _) | exact af | (dsimp only))
def gj (a : App) : Option Bool :=
 bif a.State == 1 then
 some true
 else
 some (a.State == 2)
theorem jT (a : App) : Lo (gj a) (ij a):=by
 unfold gj ij
 repeat' (first | (with_reducible first | apply ad | apply ae | apply ab | apply ag | apply aj | refine ai ?_ _ | exact ah _) | (intro _) | exact af | (dsimp only))
def jn (k : Look) (c : Cont) : Option Bool :=
 (fS k.s c.App).bind fun x =>
 (g_ k.s c.Node).bind fun x1 =>
 bif x.2 then
 (gj x.1).bind fun x2 =>
 bif x2 then
  bif x1.2 then
  bif x1.1.Up then
   bif x1.1.Label == c.Label then
   bif decide (c.Notice ≥ 0) then
    some (decide (c.Notice ≤ (imax k.s.Now 1)))
   else
    some false
   else
   some false
  else
   some false
  else
  some false
 else
  some false
 else
 some false
theorem xt (k : Look) (c : Cont) : Lo (jn k c) (gn k c):=by
 unfold jn gn
 repeat' (first | (with_reducible first | exact j9 _ _ | exact lw _ _ | exact jT _ | apply ad | apply ae | apply ab | apply ag | apply aj | refine ai ?_ _ | exact ah _) | (intro _) | exact af | (dsimp only))
def pw (s : List Node) (f : (TupT fam [.st 4] → Option Bool)) : Option Bool :=
 (qe s f).bind fun x =>
 some (decide (x ≥ 0))
theorem BU (s : List Node) (f f_' : (TupT fam [.st 4] → Option Bool)) (h_f : ∀ a,Lo (f a) (f_' a)) : Lo (pw s f) (mP s f_'):=by
 unfold pw mP
 repeat' (first | (with_reducible first | refine yl _ _ _ ?_ | exact h_f _ | apply ad | apply ae | apply ab | apply ag | apply aj | refine ai ?_ _ | exact ah _) | (intro _) | exact af | (dsimp only))
def oL (l : List Node) (holds : (TupT fam [.st 4] → Option Bool)) : Option Bool:=(pw l (fun x => (holds x).bind fun r => some (!r))).bind fun r => some (!r)
theorem CR (l : List Node) (holds holds_' : (TupT fam [.st 4] → Option Bool)) (h_holds : ∀ a,Lo (holds a) (holds_' a)) : Lo (oL l holds) (na l holds_'):=by
 unfold oL na
 repeat' (first | (with_reducible first | refine BU _ _ _ ?_ | exact h_holds _ | apply ad | apply ae | apply ab | apply ag | apply aj | refine ai ?_ _ | exact ah _) | (intro _) | exact af | (dsimp only))
def dh (v : Vec) : Option Bool :=
 bif decide (v.Mem ≥ 0) then
 bif decide (v.Mem ≤ 1125899906842624) then
  bif decide (v.Cores ≥ 0) then
  some (decide (v.Cores ≤ 1125899906842624))
  else
  some false
 else
  some false
 else
 some false
theorem md (v : Vec) : Lo (dh v) (dq v):=by
 unfold dh dq
 repeat' (first | (with_reducible first | apply ad | apply ae | apply ab | apply ag | apply aj | refine ai ?_ _ | exact ah _) | (intro _) | exact af | (dsimp only))
def pU (v : Vec) : Option (Vec × Int) :=
 (dh v).bind fun x =>
 bif ! x then
 some ((⟨0,0⟩ : Vec),11)
 else
 some (v,0)
theorem yC (v : Vec) : Lo (pU v) (qr v):=by
 unfold pU qr
 repeat' (first | (with_reducible first | exact md _ | apply ad | apply ae | apply ab | apply ag | apply aj | refine ai ?_ _ | exact ah _) | (intro _) | exact af | (dsimp only))
def cA (a : Vec) (b : Vec) : Option (Vec × Int) :=
 (
 (dh a).bind fun x =>
 bif ! x then
  some true
 else
  (dh b).bind fun x1 =>
  some (! x1)).bind fun q =>
 bif q then
 some ((⟨0,0⟩ : Vec),1)
 else
 (pU (⟨w64 (a.Mem + b.Mem),w64 (a.Cores + b.Cores)⟩ : Vec)).bind fun x2 =>
 some (x2.1,x2.2)
theorem cS (a : Vec) (b : Vec) : Lo (cA a b) (dv a b):=by
 unfold cA dv
 repeat' (first | (with_reducible first | exact md _ | exact yC _ | apply ad | apply ae | apply ab | apply ag | apply aj | refine ai ?_ _ | exact ah _) | (intro _) | exact af | (dsimp only))
def b8 (a : Vec) (b : Vec) : Option Bool :=
 bif decide (a.Mem ≤ b.Mem) then
 some (decide (a.Cores ≤ b.Cores))
 else
 some false
theorem en (a : Vec) (b : Vec) : Lo (b8 a b) (cX a b):=by
 unfold b8 cX
 repeat' (first | (with_reducible first | apply ad | apply ae | apply ab | apply ag | apply aj | refine ai ?_ _ | exact ah _) | (intro _) | exact af | (dsimp only))
def fW (k : Look) (n : Node) (t : Vec × Int) : Option ((Vec × Int) ⊕ (Bool ⊕ Vec)) :=
 bif decide (t.2 < (k.s.Conts.length : Int)) then
 (
  (idx k.s.Conts t.2).bind fun x =>
  bif x.Node != n.Id then
  some (.inl (t.1))
  else
  (cA t.1 x.Size).bind fun x1 =>
  bif x1.2 != 0 then
   some (.inr false)
  else
   some (.inl (x1.1)) : Option (Vec ⊕ Bool)).bind fun q0 =>
 match q0 with
 | .inl sum =>
  some (.inl (sum,w64 (t.2 + 1)))
 | .inr q =>
  some (.inr (.inl q))
 else
 some (.inr (.inr (t.1)))
theorem uK (k : Look) (n : Node) (t : Vec × Int) : Lo (fW k n t) (iI k n t):=by
 unfold fW iI
 repeat' (first | (with_reducible first | exact cS _ _ | apply ad | apply ae | apply ab | apply ag | apply aj | refine ai ?_ _ | exact ah _) | (intro _) | exact af | (dsimp only))
def ji (k : Look) (n : Node) : Option Bool :=
 (itr 4096 (fW k n) ((⟨0,0⟩ : Vec),0)).bind fun q0 =>
 match q0 with
 | .inl q1 =>
 some q1
 | .inr sum1 =>
 (b8 sum1 n.Cap).bind fun x2 =>
 some x2
theorem xH (k : Look) (n : Node) : Lo (ji k n) (gv k n):=by
 unfold ji gv
 repeat' (first | (with_reducible first | exact uK _ _ _ | exact en _ _ | apply ad | apply ae | apply ab | apply ag | apply aj | refine ai ?_ _ | exact ah _) | (intro _) | exact af | (dsimp only))
def qP (s : List App) (f : (TupT fam [.st 6] → Option Bool)) : Option Bool :=
 (nV s f).bind fun x =>
 some (decide (x ≥ 0))
theorem Dl (s : List App) (f f_' : (TupT fam [.st 6] → Option Bool)) (h_f : ∀ a,Lo (f a) (f_' a)) : Lo (qP s f) (qh s f_'):=by
 unfold qP qh
 repeat' (first | (with_reducible first | refine vC _ _ _ ?_ | exact h_f _ | apply ad | apply ae | apply ab | apply ag | apply aj | refine ai ?_ _ | exact ah _) | (intro _) | exact af | (dsimp only))
def re (l : List App) (holds : (TupT fam [.st 6] → Option Bool)) : Option Bool:=(qP l (fun x => (holds x).bind fun r => some (!r))).bind fun r => some (!r)
theorem Du (l : List App) (holds holds_' : (TupT fam [.st 6] → Option Bool)) (h_holds : ∀ a,Lo (holds a) (holds_' a)) : Lo (re l holds) (qg l holds_'):=by
 unfold re qg
 repeat' (first | (with_reducible first | refine Dl _ _ _ ?_ | exact h_holds _ | apply ad | apply ae | apply ab | apply ag | apply aj | refine ai ?_ _ | exact ah _) | (intro _) | exact af | (dsimp only))
def pY (c : Conf) (path : List UInt8) : Option Bool :=
 (gb c path).bind fun x =>
 bif x.2 then
 (ja c path).bind fun x1 =>
 some ((x1.length : Int) == 0)
 else
 some false
theorem ym (c : Conf) (path : List UInt8) : Lo (pY c path) (qm c path):=by
 unfold pY qm
 repeat' (first | (with_reducible first | exact kc _ _ | exact nQ _ _ | apply ad | apply ae | apply ab | apply ag | apply aj | refine ai ?_ _ | exact ah _) | (intro _) | exact af | (dsimp only))
def gW (k : Look) (a : App) (t : Int × Int × Int) : Option ((Int × Int × Int) ⊕ ((Int × Int))) :=
 bif decide (t.2.2 < (k.s.Conts.length : Int)) then
 (
  (idx k.s.Conts t.2.2).bind fun x =>
  (
  bif x.App == a.Id then
   some (w64 (t.2.1 + 1))
  else
   some t.2.1).bind fun all =>
  (
  bif x.App == a.Id then
   some x.Master
  else
   some false).bind fun q =>
  bif q then
  some (w64 (t.1 + 1),all)
  else
  some (t.1,all)).bind fun q1 =>
 some (.inl (q1.1,q1.2,w64 (t.2.2 + 1)))
 else
 some (.inr (t.1,t.2.1))
theorem vI (k : Look) (a : App) (t : Int × Int × Int) : Lo (gW k a t) (jl k a t):=by
 unfold gW jl
 repeat' (first | (with_reducible first | apply ad | apply ae | apply ab | apply ag | apply aj | refine ai ?_ _ | exact ah _) | (intro _) | exact af | (dsimp only))
def jL (k : Look) (a : App) : Option Bool :=
 (itr 4096 (gW k a) (0,0,0)).bind fun q2 =>
 (
 bif a.State == 1 then
  bif decide (q2.2 > 0) then
  some (.inr false)
  else
  some (.inl ())
 else
  bif a.State == 2 then
  bif q2.1 != 1 then
   some (.inr false)
  else
   some (.inl ())
  else
  some (.inr true) : Option (Unit ⊕ Bool)).bind fun q0 =>
 match q0 with
 | .inl _ =>
 (pY k.s.Conf a.Queue).bind fun x1 =>
 some x1
 | .inr q3 =>
 some q3
theorem ye (k : Look) (a : App) : Lo (jL k a) (iw k a):=by
 unfold jL iw
 repeat' (first | (with_reducible first | exact vI _ _ _ | exact ym _ _ | apply ad | apply ae | apply ab | apply ag | apply aj | refine ai ?_ _ | exact ah _) | (intro _) | exact af | (dsimp only))
def po (s : List Slot) (f : (TupT fam [.st 8] → Option Bool)) (t : Int) : Option (Int ⊕ (Int ⊕ Unit)) :=
 bif decide (t < (s.length : Int)) then
 (idx s t).bind fun x =>
 (f (x,())).bind fun r =>
 bif r then
  some (.inr (.inl t))
 else
  some (.inl (w64 (t + 1)))
 else
 some (.inr (.inr ()))
theorem CQ (s : List Slot) (f f_' : (TupT fam [.st 8] → Option Bool)) (h_f : ∀ a,Lo (f a) (f_' a)) (t : Int) : Lo (po s f t) (tN s f_' t):=by
 unfold po tN
 repeat' (first | (with_reducible first | exact h_f _ | apply ad | apply ae | apply ab | apply ag | apply aj | refine ai ?_ _ | exact ah _) | (intro _) | exact af | (dsimp only))
def pW (s : List Slot) (f : (TupT fam [.st 8] → Option Bool)) : Option Int :=
 (itr 4096 (po s f) 0).bind fun q0 =>
 match q0 with
 | .inl q =>
 some q
 | .inr _ =>
 some (-1)
theorem ze (s : List Slot) (f f_' : (TupT fam [.st 8] → Option Bool)) (h_f : ∀ a,Lo (f a) (f_' a)) : Lo (pW s f) (qB s f_'):=by
 unfold pW qB
 repeat' (first | (with_reducible first | refine CQ _ _ _ ?_ _ | exact h_f _ | apply ad | apply ae | apply ab | apply ag | apply aj | refine ai ?_ _ | exact ah _) | (intro _) | exact af | (dsimp only))
def pq (s : List Slot) (f : (TupT fam [.st 8] → Option Bool)) : Option Bool :=
 (pW s f).bind fun x =>
 some (decide (x ≥ 0))
theorem BC (s : List Slot) (f f_' : (TupT fam [.st 8] → Option Bool)) (h_f : ∀ a,Lo (f a) (f_' a)) : Lo (pq s f) (nR s f_'):=by
 unfold pq nR
 repeat' (first | (with_reducible first | refine ze _ _ _ ?_ | exact h_f _ | apply ad | apply ae | apply ab | apply ag | apply aj | refine ai ?_ _ | exact ah _) | (intro _) | exact af | (dsimp only))
def oT (l : List Slot) (holds : (TupT fam [.st 8] → Option Bool)) : Option Bool:=(pq l (fun x => (holds x).bind fun r => some (!r))).bind fun r => some (!r)
theorem BG (l : List Slot) (holds holds_' : (TupT fam [.st 8] → Option Bool)) (h_holds : ∀ a,Lo (holds a) (holds_' a)) : Lo (oT l holds) (mW l holds_'):=by
 unfold oT mW
 repeat' (first | (with_reducible first | refine BC _ _ _ ?_ | exact h_holds _ | apply ad | apply ae | apply ab | apply ag | apply aj | refine ai ?_ _ | exact ah _) | (intro _) | exact af | (dsimp only))
def ox (_a0 : Look) (_a1 : Slot) : Option Bool:=none
theorem wZ (_a0 : Look) (_a1 : Slot) : Lo (ox _a0 _a1) (kH _a0 _a1):=af
def oq (s : State) : Option Bool :=
 (uy s.Conf).bind fun x =>
 bif x == 0 then
 (iL (⟨⟨⟨s.Conf.Labels,s.Conf.Queues⟩,s.Nodes,s.Apps,s.Conts,s.Slots,s.Plans,s.Now,s.Epoch,s.Seq⟩⟩ : Look)).bind fun x1 =>
 bif x1 then
  (gR (⟨⟨⟨s.Conf.Labels,s.Conf.Queues⟩,s.Nodes,s.Apps,s.Conts,s.Slots,s.Plans,s.Now,s.Epoch,s.Seq⟩⟩ : Look)).bind fun x2 =>
  bif x2 then
  (oy s.Conts (fun a' => jn (⟨⟨⟨s.Conf.Labels,s.Conf.Queues⟩,s.Nodes,s.Apps,s.Conts,s.Slots,s.Plans,s.Now,s.Epoch,s.Seq⟩⟩ : Look) a'.1)).bind fun x3 =>
  bif x3 then
   (oL s.Nodes (fun a' => ji (⟨⟨⟨s.Conf.Labels,s.Conf.Queues⟩,s.Nodes,s.Apps,s.Conts,s.Slots,s.Plans,s.Now,s.Epoch,s.Seq⟩⟩ : Look) a'.1)).bind fun x4 =>
   bif x4 then
   (re s.Apps (fun a' => jL (⟨⟨⟨s.Conf.Labels,s.Conf.Queues⟩,s.Nodes,s.Apps,s.Conts,s.Slots,s.Plans,s.Now,s.Epoch,s.Seq⟩⟩ : Look) a'.1)).bind fun x5 =>
   bif x5 then
    (oT s.Slots (fun a' => ox (⟨⟨⟨s.Conf.Labels,s.Conf.Queues⟩,s.Nodes,s.Apps,s.Conts,s.Slots,s.Plans,s.Now,s.Epoch,s.Seq⟩⟩ : Look) a'.1)).bind fun x6 =>
    some x6
   else
    some false
   else
   some false
  else
   some false
  else
  some false
 else
  some false
 else
 some false
theorem Bd (s : State) : Lo (oq s) (lC s):=by
 unfold oq lC
 repeat' (first | (with_reducible first | exact EO _ | exact wi _ | exact vv _ | refine CS _ _ _ ?_ | exact xt _ _ | refine CR _ _ _ ?_ | exact xH _ _ | refine Du _ _ _ ?_ | exact ye _ _ | refine BG _ _ _ ?_ | exact wZ _ _ | apply ad | apply ae | apply ab | apply ag | apply aj | refine ai ?_ _ | exact ah _) | (intro _) | exact af | (dsimp only))
def aW (s : List (List UInt8)) : Option (List (List UInt8)):=app 16 [] s
theorem bU (s : List (List UInt8)) : Lo (aW s) (aQ s):=by
 unfold aW aQ
 repeat' (first | (with_reducible first | apply ad | apply ae | apply ab | apply ag | apply aj | refine ai ?_ _ | exact ah _) | (intro _) | exact af | (dsimp only))
def fA (s : List Queue) : Option (List Queue):=app 48 [] s
theorem lO (s : List Queue) : Lo (fA s) (ft s):=by
 unfold fA ft
 repeat' (first | (with_reducible first | apply ad | apply ae | apply ab | apply ag | apply aj | refine ai ?_ _ | exact ah _) | (intro _) | exact af | (dsimp only))
def fy (s : List Node) : Option (List Node):=app 64 [] s
theorem l_ (s : List Node) : Lo (fy s) (fj s):=by
 unfold fy fj
 repeat' (first | (with_reducible first | apply ad | apply ae | apply ab | apply ag | apply aj | refine ai ?_ _ | exact ah _) | (intro _) | exact af | (dsimp only))
def cp (s : List Cont) : Option (List Cont):=app 72 [] s
theorem et (s : List Cont) : Lo (cp s) (cE s):=by
 unfold cp cE
 repeat' (first | (with_reducible first | apply ad | apply ae | apply ab | apply ag | apply aj | refine ai ?_ _ | exact ah _) | (intro _) | exact af | (dsimp only))
def fD (s : List Slot) : Option (List Slot):=app 24 [] s
theorem lS (s : List Slot) : Lo (fD s) (fm s):=by
 unfold fD fm
 repeat' (first | (with_reducible first | apply ad | apply ae | apply ab | apply ag | apply aj | refine ai ?_ _ | exact ah _) | (intro _) | exact af | (dsimp only))
def lh (s : List Plan) : Option (List Plan):=app 48 [] s
theorem tp (s : List Plan) : Lo (lh s) (mi s):=by
 unfold lh mi
 repeat' (first | (with_reducible first | apply ad | apply ae | apply ab | apply ag | apply aj | refine ai ?_ _ | exact ah _) | (intro _) | exact af | (dsimp only))
def gG (s : List App) : Option (List App):=app 200 [] s
theorem mN (s : List App) : Lo (gG s) (hP s):=by
 unfold gG hP
 repeat' (first | (with_reducible first | apply ad | apply ae | apply ab | apply ag | apply aj | refine ai ?_ _ | exact ah _) | (intro _) | exact af | (dsimp only))
def ro (x9 : List App) (t1 : List App × Nat × Int) : Option ((List App × Nat × Int) ⊕ (List App × Nat × Int)) :=
 bif decide (t1.2.2 < (x9.length : Int)) then
 (inb t1.2.2 t1.1.length).bind fun i2 =>
 bif Nat.ble t1.2.1 i2 then
  (t1.1[i2]?).bind fun x10 =>
  (kf x10).bind fun x11 =>
  (inb t1.2.2 t1.1.length).bind fun i3 =>
  bif Nat.beq i3 t1.2.1 then
  (t1.1[i3]?).bind fun x12 =>
  some (.inl (List.set t1.1 i3 x11,t1.2.1 + 1,w64 (t1.2.2 + 1)))
  else
  none
 else
  none
 else
 some (.inr (t1.1,t1.2.1,t1.2.2))
theorem C4 (x9 : List App) (t1 : List App × Nat × Int) : Lo (ro x9 t1) (vj x9 t1):=by
 unfold ro vj
 repeat' (first | (with_reducible first | exact pQ _ | apply ad | apply ae | apply ab | apply ag | apply aj | refine ai ?_ _ | exact ah _) | (intro _) | exact af | (dsimp only))
def ra (x1 : List Queue) (t : List Queue × Nat × Int) : Option ((List Queue × Nat × Int) ⊕ (List Queue × Nat × Int)) :=
 bif decide (t.2.2 < (x1.length : Int)) then
 (inb t.2.2 t.1.length).bind fun i =>
 bif Nat.ble t.2.1 i then
  (t.1[i]?).bind fun x2 =>
  (ef x2.Caps).bind fun x3 =>
  (inb t.2.2 t.1.length).bind fun i1 =>
  bif Nat.beq i1 t.2.1 then
  (t.1[i1]?).bind fun x4 =>
  some (.inl (List.set t.1 i1 (⟨x4.Path,x3,x4.User⟩ : Queue),t.2.1 + 1,w64 (t.2.2 + 1)))
  else
  none
 else
  none
 else
 some (.inr (t.1,t.2.1,t.2.2))
theorem C8 (x1 : List Queue) (t : List Queue × Nat × Int) : Lo (ra x1 t) (vu x1 t):=by
 unfold ra vu
 repeat' (first | (with_reducible first | exact jy _ | apply ad | apply ae | apply ab | apply ag | apply aj | refine ai ?_ _ | exact ah _) | (intro _) | exact af | (dsimp only))
def sg (s : State) : Option State :=
 (aW s.Conf.Labels).bind fun x =>
 (fA s.Conf.Queues).bind fun x1 =>
 (itr 4096 (ra x1) (x1,0,0)).bind fun q =>
 bif Nat.ble q.1.length q.2.1 then
 (fy s.Nodes).bind fun x5 =>
 (cp s.Conts).bind fun x6 =>
 (fD s.Slots).bind fun x7 =>
 (lh s.Plans).bind fun x8 =>
 (gG s.Apps).bind fun x9 =>
 (itr 4096 (ro x9) (x9,0,0)).bind fun q1 =>
 bif Nat.ble q1.1.length q1.2.1 then
  some (⟨⟨x,q.1⟩,x5,q1.1,x6,x7,x8,s.Now,s.Epoch,s.Seq⟩ : State)
 else
  none
 else
 none
theorem GL (s : State) : Lo (sg s) (tC s):=by
 unfold sg tC
 repeat' (first | (with_reducible first | exact bU _ | exact lO _ | exact C8 _ _ | exact l_ _ | exact et _ | exact lS _ | exact tp _ | exact mN _ | exact C4 _ _ | apply ad | apply ae | apply ab | apply ag | apply aj | refine ai ?_ _ | exact ah _) | (intro _) | exact af | (dsimp only))
def mM (x9 : List App) (t1 : List App × Int) : Option ((List App × Int) ⊕ List App) :=
 bif decide (t1.2 < (x9.length : Int)) then
 (inb t1.2 t1.1.length).bind fun i2 =>
 (t1.1[i2]?).bind fun x10 =>
 (kf x10).bind fun x11 =>
 (inb t1.2 t1.1.length).bind fun i3 =>
 (t1.1[i3]?).bind fun x12 =>
 some (.inl (List.set t1.1 i3 x11,w64 (t1.2 + 1)))
 else
 some (.inr t1.1)
theorem A2 (x9 : List App) (t1 : List App × Int) : Lo (mM x9 t1) (rA x9 t1):=by
 unfold mM rA
 repeat' (first | (with_reducible first | exact pQ _ | apply ad | apply ae | apply ab | apply ag | apply aj | refine ai ?_ _ | exact ah _) | (intro _) | exact af | (dsimp only))
def mD (x1 : List Queue) (t : List Queue × Int) : Option ((List Queue × Int) ⊕ List Queue) :=
 bif decide (t.2 < (x1.length : Int)) then
 (inb t.2 t.1.length).bind fun i =>
 (t.1[i]?).bind fun x2 =>
 (ef x2.Caps).bind fun x3 =>
 (inb t.2 t.1.length).bind fun i1 =>
 (t.1[i1]?).bind fun x4 =>
 some (.inl (List.set t.1 i1 (⟨x4.Path,x3,x4.User⟩ : Queue),w64 (t.2 + 1)))
 else
 some (.inr t.1)
theorem Bb (x1 : List Queue) (t : List Queue × Int) : Lo (mD x1 t) (rH x1 t):=by
 unfold mD rH
 repeat' (first | (with_reducible first | exact jy _ | apply ad | apply ae | apply ab | apply ag | apply aj | refine ai ?_ _ | exact ah _) | (intro _) | exact af | (dsimp only))
def nH (s : State) : Option State :=
 (aW s.Conf.Labels).bind fun x =>
 (fA s.Conf.Queues).bind fun x1 =>
 (itr 4096 (mD x1) (x1,0)).bind fun q =>
 (fy s.Nodes).bind fun x5 =>
 (cp s.Conts).bind fun x6 =>
 (fD s.Slots).bind fun x7 =>
 (lh s.Plans).bind fun x8 =>
 (gG s.Apps).bind fun x9 =>
 (itr 4096 (mM x9) (x9,0)).bind fun q1 =>
 some (⟨⟨x,q⟩,x5,q1,x6,x7,x8,s.Now,s.Epoch,s.Seq⟩ : State)
theorem xO (s : State) : Lo (nH s) (m7 s):=by
 unfold nH m7
 repeat' (first | (with_reducible first | exact bU _ | exact lO _ | exact Bb _ _ | exact l_ _ | exact et _ | exact lS _ | exact tp _ | exact mN _ | exact A2 _ _ | apply ad | apply ae | apply ab | apply ag | apply aj | refine ai ?_ _ | exact ah _) | (intro _) | exact af | (dsimp only))
def xR (_a0 : Cont) (_a1 : Int) : Option Bool:=none
theorem Do (_a0 : Cont) (_a1 : Int) : Lo (xR _a0 _a1) (vN _a0 _a1):=af
def oA (ids : List Int) (x : State) (t : Int) : Option (Int ⊕ Unit) :=
 bif decide (t < (ids.length : Int)) then
 (idx ids t).bind fun x1 =>
 (f_ x.Conts (fun a' => xR a'.1 x1)).bind fun k =>
 bif decide (k < 0) then
  some (.inl (w64 (t + 1)))
 else
  (inb k x.Conts.length).bind fun i =>
  (x.Conts[i]?).bind fun x2 =>
  (ms x x2.App).bind fun i1 =>
  (
  bif decide (i1 ≥ 0) then
   some x2.Master
  else
   some false).bind fun q =>
  bif q then
  none
  else
  none
 else
 some (.inr ())
theorem Cz (ids : List Int) (x : State) (t : Int) : Lo (oA ids x t) (ur ids x t):=by
 unfold oA ur
 repeat' (first | (with_reducible first | refine jE _ _ _ ?_ | exact Do _ _ | exact sn _ _ | apply ad | apply ae | apply ab | apply ag | apply aj | refine ai ?_ _ | exact ah _) | (intro _) | exact af | (dsimp only))
def bP (s : State) (ids : List Int) : Option State :=
 (sg s).bind fun x =>
 (itr 4096 (oA ids x) 0).bind fun _ =>
 (sg x).bind fun x3 =>
 some x3
theorem gO (s : State) (ids : List Int) : Lo (bP s ids) (cF s ids):=by
 unfold bP cF
 repeat' (first | (with_reducible first | exact GL _ | exact Cz _ _ _ | apply ad | apply ae | apply ab | apply ag | apply aj | refine ai ?_ _ | exact ah _) | (intro _) | exact af | (dsimp only))
def dP (t : Step) (s : State) (e : Int) : Option (Output × Step) :=
 bif e != 0 then
 none
 else
 some ((⟨0,[],[],[],0⟩ : Output),(⟨⟨⟨s.Conf.Labels,s.Conf.Queues⟩,s.Nodes,s.Apps,s.Conts,s.Slots,s.Plans,s.Now,s.Epoch,s.Seq⟩,⟨t.x.Kind,t.x.Id,t.x.Beat,t.x.N,t.x.Text,⟨t.x.Node.Id,t.x.Node.Label,t.x.Node.Rack,⟨t.x.Node.Cap.Mem,t.x.Node.Cap.Cores⟩,t.x.Node.Seen,t.x.Node.Beat,t.x.Node.Up⟩,⟨t.x.App.Id,t.x.App.State,t.x.App.Queue,t.x.App.User,t.x.App.Prio,⟨t.x.App.Master.Mem,t.x.App.Master.Cores⟩,t.x.App.Asks,t.x.App.Seen,t.x.App.Beat,t.x.App.Grants,t.x.App.Kills,t.x.App.Told,t.x.App.Lost⟩,t.x.Asks,t.x.Ids,⟨t.x.Plan.Id,t.x.Plan.Label,t.x.Plan.From,t.x.Plan.Until,⟨t.x.Plan.Need.Mem,t.x.Plan.Need.Cores⟩⟩⟩⟩ : Step))
theorem wT (t : Step) (s : State) (e : Int) : Lo (dP t s e) (c9 t s e):=by
 unfold dP c9
 repeat' (first | (with_reducible first | apply ad | apply ae | apply ab | apply ag | apply aj | refine ai ?_ _ | exact ah _) | (intro _) | exact af | (dsimp only))
def gQ (l : List Int) : Option (List Int) :=
 (mkl 8 (l.length : Int) (l.length : Int) 0).bind fun l1 =>
 some (cpy l1 0 l1.length l)
theorem EN (l : List Int) : Lo (gQ l) (iJ l):=by
 unfold gQ iJ
 repeat' (first | (with_reducible first | apply ad | apply ae | apply ab | apply ag | apply aj | refine ai ?_ _ | exact ah _) | (intro _) | exact af | (dsimp only))
def pD (x9 : List App) (t1 : List App × Int) : Option ((List App × Int) ⊕ List App) :=
 bif decide (t1.2 < (x9.length : Int)) then
 (inb t1.2 t1.1.length).bind fun i2 =>
 (t1.1[i2]?).bind fun x10 =>
 (m8 x10.Asks).bind fun x11 =>
 (gQ x10.Grants).bind fun x12 =>
 (gQ x10.Kills).bind fun x13 =>
 (gQ x10.Told).bind fun x14 =>
 (gQ x10.Lost).bind fun x15 =>
 (inb t1.2 t1.1.length).bind fun i3 =>
 (t1.1[i3]?).bind fun x16 =>
 some (.inl (List.set t1.1 i3 (⟨x10.Id,x10.State,x10.Queue,x10.User,x10.Prio,⟨x10.Master.Mem,x10.Master.Cores⟩,x11,x10.Seen,x10.Beat,x12,x13,x14,x15⟩ : App),w64 (t1.2 + 1)))
 else
 some (.inr t1.1)
theorem BL (x9 : List App) (t1 : List App × Int) : Lo (pD x9 t1) (tk x9 t1):=by
 unfold pD tk
 repeat' (first | (with_reducible first | exact vV _ | exact EN _ | apply ad | apply ae | apply ab | apply ag | apply aj | refine ai ?_ _ | exact ah _) | (intro _) | exact af | (dsimp only))
def pv (x1 : List Queue) (t : List Queue × Int) : Option ((List Queue × Int) ⊕ List Queue) :=
 bif decide (t.2 < (x1.length : Int)) then
 (inb t.2 t.1.length).bind fun i =>
 (t.1[i]?).bind fun x2 =>
 (ef x2.Caps).bind fun x3 =>
 (inb t.2 t.1.length).bind fun i1 =>
 (t.1[i1]?).bind fun x4 =>
 some (.inl (List.set t.1 i1 (⟨x4.Path,x3,x4.User⟩ : Queue),w64 (t.2 + 1)))
 else
 some (.inr t.1)
theorem BE (x1 : List Queue) (t : List Queue × Int) : Lo (pv x1 t) (sH x1 t):=by
 unfold pv sH
 repeat' (first | (with_reducible first | exact jy _ | apply ad | apply ae | apply ab | apply ag | apply aj | refine ai ?_ _ | exact ah _) | (intro _) | exact af | (dsimp only))
def qd (s : State) : Option State :=
 (aW s.Conf.Labels).bind fun x =>
 (fA s.Conf.Queues).bind fun x1 =>
 (itr 4096 (pv x1) (x1,0)).bind fun q =>
 (fy s.Nodes).bind fun x5 =>
 (cp s.Conts).bind fun x6 =>
 (fD s.Slots).bind fun x7 =>
 (lh s.Plans).bind fun x8 =>
 (gG s.Apps).bind fun x9 =>
 (itr 4096 (pD x9) (x9,0)).bind fun q1 =>
 some (⟨⟨x,q⟩,x5,q1,x6,x7,x8,s.Now,s.Epoch,s.Seq⟩ : State)
theorem y_ (s : State) : Lo (qd s) (qA s):=by
 unfold qd qA
 repeat' (first | (with_reducible first | exact bU _ | exact lO _ | exact BE _ _ | exact l_ _ | exact et _ | exact lS _ | exact tp _ | exact mN _ | exact BL _ _ | apply ad | apply ae | apply ab | apply ag | apply aj | refine ai ?_ _ | exact ah _) | (intro _) | exact af | (dsimp only))
def cK (n : Int) (most : Int) : Option Bool :=
 bif decide (n ≥ 0) then
 some (decide (n ≤ most))
 else
 some false
theorem Cr (n : Int) (most : Int) : Lo (cK n most) (de n most):=by
 unfold cK de
 repeat' (first | (with_reducible first | apply ad | apply ae | apply ab | apply ag | apply aj | refine ai ?_ _ | exact ah _) | (intro _) | exact af | (dsimp only))
def nO (s : List Node) (i : Int) (v : List Node) : Option (List Node):=ins s i v
theorem AP (s : List Node) (i : Int) (v : List Node) : Lo (nO s i v) (lv s i v):=by
 unfold nO lv
 repeat' (first | (with_reducible first | apply ad | apply ae | apply ab | apply ag | apply aj | refine ai ?_ _ | exact ah _) | (intro _) | exact af | (dsimp only))
def jg (n : Node) (x : State) (k : Int) : Option (Int ⊕ Int) :=
 (
 bif decide (k < (x.Nodes.length : Int)) then
  (inb k x.Nodes.length).bind fun i3 =>
  (x.Nodes[i3]?).bind fun x8 =>
  some (decide (x8.Id < n.Id))
 else
  some false).bind fun q3 =>
 bif q3 then
 some (.inl (w64 (k + 1)))
 else
 some (.inr k)
theorem xA (n : Node) (x : State) (k : Int) : Lo (jg n x k) (kY n x k):=by
 unfold jg kY
 repeat' (first | (with_reducible first | apply ad | apply ae | apply ab | apply ag | apply aj | refine ai ?_ _ | exact ah _) | (intro _) | exact af | (dsimp only))
def lM (s : State) (n : Node) : Option (State × Int) :=
 (qd s).bind fun x =>
 (nL x n.Id).bind fun i =>
 (
 (cK n.Id 999).bind fun x1 =>
 bif ! x1 then
  some true
 else
  (cK n.Label (w64 ((x.Conf.Labels.length : Int) - 1))).bind fun x2 =>
  bif ! x2 then
  some true
  else
  (cK n.Rack 99).bind fun x3 =>
  bif ! x3 then
   some true
  else
   (cK n.Cap.Mem 1073741824).bind fun x4 =>
   bif ! x4 then
   some true
   else
   (cK n.Cap.Cores 1073741824).bind fun x5 =>
   some (! x5)).bind fun q =>
 bif q then
 some (x,1)
 else
 (
  bif decide (i ≥ 0) then
  (inb i x.Nodes.length).bind fun i1 =>
  (x.Nodes[i1]?).bind fun x6 =>
  some x6.Up
  else
  some false).bind fun q1 =>
 bif q1 then
  some (x,7)
 else
  (
  bif decide (i < 0) then
   some (decide ((x.Nodes.length : Int) ≥ 12))
  else
   some false).bind fun q2 =>
  bif q2 then
  some (x,4)
  else
  bif decide (i ≥ 0) then
   (inb i x.Nodes.length).bind fun i2 =>
   (x.Nodes[i2]?).bind fun x7 =>
   some ((⟨⟨x.Conf.Labels,x.Conf.Queues⟩,List.set x.Nodes i2 (⟨n.Id,n.Label,n.Rack,⟨n.Cap.Mem,n.Cap.Cores⟩,x.Now,0,true⟩ : Node),x.Apps,x.Conts,x.Slots,x.Plans,x.Now,x.Epoch,x.Seq⟩ : State),0)
  else
   (itr 4096 (jg n x) 0).bind fun k1 =>
   (nO x.Nodes k1 [(⟨n.Id,n.Label,n.Rack,⟨n.Cap.Mem,n.Cap.Cores⟩,x.Now,0,true⟩ : Node)]).bind fun x9 =>
   some ((⟨⟨x.Conf.Labels,x.Conf.Queues⟩,x9,x.Apps,x.Conts,x.Slots,x.Plans,x.Now,x.Epoch,x.Seq⟩ : State),0)
theorem Ak (s : State) (n : Node) : Lo (lM s n) (ke s n):=by
 unfold lM ke
 repeat' (first | (with_reducible first | exact y_ _ | exact vq _ _ | exact Cr _ _ | exact xA _ _ _ | exact AP _ _ _ | apply ad | apply ae | apply ab | apply ag | apply aj | refine ai ?_ _ | exact ah _) | (intro _) | exact af | (dsimp only))
def iO (t : Step) (node : Int) (t1 : List Int × Int) : Option ((List Int × Int) ⊕ List Int) :=
 bif decide (t1.2 < (t.s.Conts.length : Int)) then
 (
  (idx t.s.Conts t1.2).bind fun x =>
  bif x.Node == node then
  (app 8 t1.1 [x.Id]).bind fun l =>
  some l
  else
  some t1.1).bind fun out =>
 some (.inl (out,w64 (t1.2 + 1)))
 else
 some (.inr t1.1)
theorem wA (t : Step) (node : Int) (t1 : List Int × Int) : Lo (iO t node t1) (jW t node t1):=by
 unfold iO jW
 repeat' (first | (with_reducible first | apply ad | apply ae | apply ab | apply ag | apply aj | refine ai ?_ _ | exact ah _) | (intro _) | exact af | (dsimp only))
def dA (t : Step) (node : Int) : Option (List Int) :=
 (itr 4096 (iO t node) ([],0)).bind fun out1 =>
 some out1
theorem yq (t : Step) (node : Int) : Lo (dA t node) (dm t node):=by
 unfold dA dm
 repeat' (first | (with_reducible first | exact wA _ _ _ | apply ad | apply ae | apply ab | apply ag | apply aj | refine ai ?_ _ | exact ah _) | (intro _) | exact af | (dsimp only))
def tY (s : State) (id_ : Int) (beat : Int) : Option (State × Int) :=
 (qd s).bind fun x =>
 (nL x id_).bind fun i =>
 bif decide (i < 0) then
 some (x,2)
 else
 (inb i x.Nodes.length).bind fun i1 =>
 (x.Nodes[i1]?).bind fun x1 =>
 bif ! x1.Up then
  some (x,18)
 else
  (
  bif decide (beat < 0) then
   some true
  else
   (inb i x.Nodes.length).bind fun i2 =>
   (x.Nodes[i2]?).bind fun x2 =>
   some (decide (beat < x2.Beat))).bind fun q =>
  bif q then
  some (x,15)
  else
  (inb i x.Nodes.length).bind fun i3 =>
  (x.Nodes[i3]?).bind fun x3 =>
  bif decide ((w64 (beat - x3.Beat)) > 1) then
   some (x,1)
  else
   (inb i x.Nodes.length).bind fun i4 =>
   (x.Nodes[i4]?).bind fun x4 =>
   (inb i (List.set x.Nodes i4 (⟨x4.Id,x4.Label,x4.Rack,⟨x4.Cap.Mem,x4.Cap.Cores⟩,x.Now,x4.Beat,x4.Up⟩ : Node)).length).bind fun i5 =>
   ((List.set x.Nodes i4 (⟨x4.Id,x4.Label,x4.Rack,⟨x4.Cap.Mem,x4.Cap.Cores⟩,x.Now,x4.Beat,x4.Up⟩ : Node))[i5]?).bind fun x5 =>
   some ((⟨⟨x.Conf.Labels,x.Conf.Queues⟩,List.set (List.set x.Nodes i4 (⟨x4.Id,x4.Label,x4.Rack,⟨x4.Cap.Mem,x4.Cap.Cores⟩,x.Now,x4.Beat,x4.Up⟩ : Node)) i5 (⟨x5.Id,x5.Label,x5.Rack,⟨x5.Cap.Mem,x5.Cap.Cores⟩,x5.Seen,beat,x5.Up⟩ : Node),x.Apps,x.Conts,x.Slots,x.Plans,x.Now,x.Epoch,x.Seq⟩ : State),0)
theorem EA (s : State) (id_ : Int) (beat : Int) : Lo (tY s id_ beat) (sy s id_ beat):=by
 unfold tY sy
 repeat' (first | (with_reducible first | exact y_ _ | exact vq _ _ | apply ad | apply ae | apply ab | apply ag | apply aj | refine ai ?_ _ | exact ah _) | (intro _) | exact af | (dsimp only))
def bV (s : List Int) (f : (TupT fam [.int .i64] → Option Bool)) (t : Int) : Option (Int ⊕ (Int ⊕ Unit)) :=
 bif decide (t < (s.length : Int)) then
 (idx s t).bind fun x =>
 (f (x,())).bind fun r =>
 bif r then
  some (.inr (.inl t))
 else
  some (.inl (w64 (t + 1)))
 else
 some (.inr (.inr ()))
theorem lk (s : List Int) (f f_' : (TupT fam [.int .i64] → Option Bool)) (h_f : ∀ a,Lo (f a) (f_' a)) (t : Int) : Lo (bV s f t) (cj s f_' t):=by
 unfold bV cj
 repeat' (first | (with_reducible first | exact h_f _ | apply ad | apply ae | apply ab | apply ag | apply aj | refine ai ?_ _ | exact ah _) | (intro _) | exact af | (dsimp only))
def bz (s : List Int) (f : (TupT fam [.int .i64] → Option Bool)) : Option Int :=
 (itr 4096 (bV s f) 0).bind fun q0 =>
 match q0 with
 | .inl q =>
 some q
 | .inr _ =>
 some (-1)
theorem fK (s : List Int) (f f_' : (TupT fam [.int .i64] → Option Bool)) (h_f : ∀ a,Lo (f a) (f_' a)) : Lo (bz s f) (a_ s f_'):=by
 unfold bz a_
 repeat' (first | (with_reducible first | refine lk _ _ _ ?_ _ | exact h_f _ | apply ad | apply ae | apply ab | apply ag | apply aj | refine ai ?_ _ | exact ah _) | (intro _) | exact af | (dsimp only))
def d_ (del : (TupT fam [.int .i64] → Option Bool)) (t : List Int × Int × Int) : Option ((List Int × Int × Int) ⊕ ((List Int × Int))):=none
theorem kR (del del_' : (TupT fam [.int .i64] → Option Bool)) (h_del : ∀ a,Lo (del a) (del_' a)) (t : List Int × Int × Int) : Lo (d_ del t) (eJ del_' t):=af
def cm (s : List Int) (del : (TupT fam [.int .i64] → Option Bool)) : Option (List Int) :=
 (bz s del).bind fun i =>
 bif i == (-1) then
 some s
 else
 (itr 4096 (d_ del) (s,i,w64 (i + 1))).bind fun q1 =>
 (inS q1.2 (q1.1.length : Int) q1.1.length).bind fun p =>
 (inS 0 q1.2 (cpy q1.1 p.1 p.2 (List.replicate p.2 0)).length).bind fun p1 =>
 some (List.take p1.2 (cpy q1.1 p.1 p.2 (List.replicate p.2 0)))
theorem mz (s : List Int) (del del_' : (TupT fam [.int .i64] → Option Bool)) (h_del : ∀ a,Lo (del a) (del_' a)) : Lo (cm s del) (bH s del_'):=by
 unfold cm bH
 repeat' (first | (with_reducible first | refine fK _ _ _ ?_ | refine kR _ _ ?_ _ | exact h_del _ | apply ad | apply ae | apply ab | apply ag | apply aj | refine ai ?_ _ | exact ah _) | (intro _) | exact af | (dsimp only))
def bZ (s : List Int) : Option (List Int):=app 8 [] s
theorem iR (s : List Int) : Lo (bZ s) (bI s):=by
 unfold bZ bI
 repeat' (first | (with_reducible first | apply ad | apply ae | apply ab | apply ag | apply aj | refine ai ?_ _ | exact ah _) | (intro _) | exact af | (dsimp only))
def ml (_a0 : Int) (_a1 : List Int) : Option Bool:=none
theorem vp (_a0 : Int) (_a1 : List Int) : Lo (ml _a0 _a1) (jm _a0 _a1):=af
def mT (s : State) (id_ : Int) (t : Vec × Int) : Option ((Vec × Int) ⊕ Vec) :=
 bif decide (t.2 < (s.Conts.length : Int)) then
 (
  (idx s.Conts t.2).bind fun x =>
  bif x.Node == id_ then
  (cA t.1 x.Size).bind fun x1 =>
  some x1.1
  else
  some t.1).bind fun out =>
 some (.inl (out,w64 (t.2 + 1)))
 else
 some (.inr t.1)
theorem AR (s : State) (id_ : Int) (t : Vec × Int) : Lo (mT s id_ t) (rB s id_ t):=by
 unfold mT rB
 repeat' (first | (with_reducible first | exact cS _ _ | apply ad | apply ae | apply ab | apply ag | apply aj | refine ai ?_ _ | exact ah _) | (intro _) | exact af | (dsimp only))
def tB (s : State) (id_ : Int) : Option Vec :=
 (itr 4096 (mT s id_) ((⟨0,0⟩ : Vec),0)).bind fun out1 =>
 some out1
theorem EL (s : State) (id_ : Int) : Lo (tB s id_) (r9 s id_):=by
 unfold tB r9
 repeat' (first | (with_reducible first | exact AR _ _ _ | apply ad | apply ae | apply ab | apply ag | apply aj | refine ai ?_ _ | exact ah _) | (intro _) | exact af | (dsimp only))
def sS (s : State) (id_ : Int) : Option Vec :=
 (g_ s id_).bind fun x =>
 (
 bif ! x.2 then
  some true
 else
  some (! x.1.Up)).bind fun q =>
 bif q then
 some (⟨0,0⟩ : Vec)
 else
 (tB s id_).bind fun x1 =>
 some (⟨imax (w64 (x.1.Cap.Mem - x1.Mem)) 0,imax (w64 (x.1.Cap.Cores - x1.Cores)) 0⟩ : Vec)
theorem Em (s : State) (id_ : Int) : Lo (sS s id_) (rW s id_):=by
 unfold sS rW
 repeat' (first | (with_reducible first | exact lw _ _ | exact EL _ _ | apply ad | apply ae | apply ab | apply ag | apply aj | refine ai ?_ _ | exact ah _) | (intro _) | exact af | (dsimp only))
def lH (a : Ask) (n : Node) : Option Int :=
 (
 (
  bif ! n.Up then
  some true
  else
  some (n.Label != a.Label)).bind fun q =>
 bif q then
  some (.inr (.inl 4))
 else
  bif a.Rack == (-1) then
  some (.inl ())
  else
  (
   bif a.Node == n.Id then
   some (a.Node == n.Id)
   else
   bif a.Node == (-1) then
    some (a.Rack == n.Rack)
   else
    some false).bind fun q1 =>
  bif q1 then
   some (.inl ())
  else
   bif a.Rack == n.Rack then
   some (.inr (.inr (.inr ())))
   else
   some (.inr (.inr (.inl ()))) : Option (Unit ⊕ Int ⊕ Unit ⊕ Unit)).bind fun q0 =>
 match q0 with
 | .inl _ =>
 some 1
 | .inr (.inl q2) =>
 some q2
 | .inr (.inr (.inl _)) =>
 some 3
 | .inr (.inr (.inr _)) =>
 some 2
theorem vX (a : Ask) (n : Node) : Lo (lH a n) (lu a n):=by
 unfold lH lu
 repeat' (first | (with_reducible first | apply ad | apply ae | apply ab | apply ag | apply aj | refine ai ?_ _ | exact ah _) | (intro _) | exact af | (dsimp only))
def pL (a : Ask) (n : Node) : Option Bool :=
 (lH a n).bind fun x =>
 bif x == 1 then
 some true
 else
 bif x == 2 then
  some (decide (a.Missed ≥ 2))
 else
  bif x == 3 then
  some (decide (a.Missed ≥ 4))
  else
  some false
theorem EV (a : Ask) (n : Node) : Lo (pL a n) (qp a n):=by
 unfold pL qp
 repeat' (first | (with_reducible first | exact vX _ _ | apply ad | apply ae | apply ab | apply ag | apply aj | refine ai ?_ _ | exact ah _) | (intro _) | exact af | (dsimp only))
def gi (t : Attempt) (x : Ask) : Option Bool :=
 (lH x t.n).bind fun x1 =>
 bif x1 != 4 then
 (b8 x.Size t.n.Cap).bind fun x2 =>
 some x2
 else
 some false
theorem uN (t : Attempt) (x : Ask) : Lo (gi t x) (dL t x):=by
 unfold gi dL
 repeat' (first | (with_reducible first | exact vX _ _ | exact en _ _ | apply ad | apply ae | apply ab | apply ag | apply aj | refine ai ?_ _ | exact ah _) | (intro _) | exact af | (dsimp only))
def gM (v : View) (c : Cont) (t : App × Int) : Option ((App × Int) ⊕ ((App × Bool) ⊕ App)) :=
 bif decide (t.2 < (v.s.Apps.length : Int)) then
 (idx v.s.Apps t.2).bind fun x =>
 bif x.Id == c.App then
  some (.inr (.inl (x,true)))
 else
  some (.inl (t.1,w64 (t.2 + 1)))
 else
 some (.inr (.inr (t.1)))
theorem vz (v : View) (c : Cont) (t : App × Int) : Lo (gM v c t) (jr v c t):=by
 unfold gM jr
 repeat' (first | (with_reducible first | apply ad | apply ae | apply ab | apply ag | apply aj | refine ai ?_ _ | exact ah _) | (intro _) | exact af | (dsimp only))
def jX (v : View) (c : Cont) : Option (App × Bool) :=
 (itr 4096 (gM v c) ((⟨0,0,[],0,0,⟨0,0⟩,[],0,0,[],[],[],[]⟩ : App),0)).bind fun q0 =>
 match q0 with
 | .inl q =>
 some (q.1,q.2)
 | .inr q1 =>
 some ((⟨0,0,[],0,0,⟨0,0⟩,[],0,0,[],[],[],[]⟩ : App),false)
theorem xS (v : View) (c : Cont) : Lo (jX v c) (iF v c):=by
 unfold jX iF
 repeat' (first | (with_reducible first | exact vz _ _ _ | apply ad | apply ae | apply ab | apply ag | apply aj | refine ai ?_ _ | exact ah _) | (intro _) | exact af | (dsimp only))
def ir (v : View) (a : App) : Option Bool :=
 bif a.Queue == v.path then
 bif v.user == (-1) then
  some true
 else
  some (a.User == v.user)
 else
 (cat v.path ([46] : List UInt8)).bind fun s =>
 none
theorem rQ (v : View) (a : App) : Lo (ir v a) (gJ v a):=by
 unfold ir gJ
 repeat' (first | (with_reducible first | apply ad | apply ae | apply ab | apply ag | apply aj | refine ai ?_ _ | exact ah _) | (intro _) | exact af | (dsimp only))
def iP (v : View) (t : Vec × Int) : Option ((Vec × Int) ⊕ Vec) :=
 bif decide (t.2 < (v.s.Conts.length : Int)) then
 (
  (idx v.s.Conts t.2).bind fun x =>
  (jX v x).bind fun x1 =>
  (
  bif x1.2 then
   bif x.Label == v.label then
   (ir v x1.1).bind fun x2 =>
   some x2
   else
   some false
  else
   some false).bind fun q =>
  bif q then
  (cA t.1 x.Size).bind fun x3 =>
  some x3.1
  else
  some t.1).bind fun out =>
 some (.inl (out,w64 (t.2 + 1)))
 else
 some (.inr t.1)
theorem vY (v : View) (t : Vec × Int) : Lo (iP v t) (jK v t):=by
 unfold iP jK
 repeat' (first | (with_reducible first | exact xS _ _ | exact rQ _ _ | exact cS _ _ | apply ad | apply ae | apply ab | apply ag | apply aj | refine ai ?_ _ | exact ah _) | (intro _) | exact af | (dsimp only))
def gp (v : View) : Option Vec :=
 (itr 4096 (iP v) ((⟨0,0⟩ : Vec),0)).bind fun out1 =>
 some out1
theorem qi (v : View) : Lo (gp v) (fH v):=by
 unfold gp fH
 repeat' (first | (with_reducible first | exact vY _ _ | apply ad | apply ae | apply ab | apply ag | apply aj | refine ai ?_ _ | exact ah _) | (intro _) | exact af | (dsimp only))
def cZ (s : State) (path : List UInt8) (label : Int) : Option Vec :=
 (gp (⟨⟨⟨s.Conf.Labels,s.Conf.Queues⟩,s.Nodes,s.Apps,s.Conts,s.Slots,s.Plans,s.Now,s.Epoch,s.Seq⟩,path,label,(-1)⟩ : View)).bind fun x =>
 some x
theorem fh (s : State) (path : List UInt8) (label : Int) : Lo (cZ s path label) (cR s path label):=by
 unfold cZ cR
 repeat' (first | (with_reducible first | exact qi _ | apply ad | apply ae | apply ab | apply ag | apply aj | refine ai ?_ _ | exact ah _) | (intro _) | exact af | (dsimp only))
def ph (l : List Vec) (t : Vec × Int) : Option ((Vec × Int) ⊕ Vec) :=
 bif decide (t.2 < (l.length : Int)) then
 (idx l t.2).bind fun x =>
 (cA t.1 x).bind fun x1 =>
 some (.inl (x1.1,w64 (t.2 + 1)))
 else
 some (.inr t.1)
theorem CE (l : List Vec) (t : Vec × Int) : Lo (ph l t) (tA l t):=by
 unfold ph tA
 repeat' (first | (with_reducible first | exact cS _ _ | apply ad | apply ae | apply ab | apply ag | apply aj | refine ai ?_ _ | exact ah _) | (intro _) | exact af | (dsimp only))
def pX (l : List Vec) : Option Vec :=
 (itr 4096 (ph l) ((⟨0,0⟩ : Vec),0)).bind fun out =>
 some out
theorem yF (l : List Vec) : Lo (pX l) (qz l):=by
 unfold pX qz
 repeat' (first | (with_reducible first | exact CE _ _ | apply ad | apply ae | apply ab | apply ag | apply aj | refine ai ?_ _ | exact ah _) | (intro _) | exact af | (dsimp only))
def lP (s : State) (label : Int) (t : List Vec × Int) : Option ((List Vec × Int) ⊕ List Vec) :=
 bif decide (t.2 < (s.Nodes.length : Int)) then
 (
  (idx s.Nodes t.2).bind fun x =>
  (
  bif x.Up then
   some (x.Label == label)
  else
   some false).bind fun q =>
  bif q then
  (app 16 t.1 [x.Cap]).bind fun l =>
  some l
  else
  some t.1).bind fun l1 =>
 some (.inl (l1,w64 (t.2 + 1)))
 else
 some (.inr t.1)
theorem Ag (s : State) (label : Int) (t : List Vec × Int) : Lo (lP s label t) (oU s label t):=by
 unfold lP oU
 repeat' (first | (with_reducible first | apply ad | apply ae | apply ab | apply ag | apply aj | refine ai ?_ _ | exact ah _) | (intro _) | exact af | (dsimp only))
def dt (s : State) (label : Int) : Option Vec :=
 (itr 4096 (lP s label) ([],0)).bind fun l2 =>
 (pX l2).bind fun x1 =>
 some x1
theorem gH (s : State) (label : Int) : Lo (dt s label) (d4 s label):=by
 unfold dt d4
 repeat' (first | (with_reducible first | exact Ag _ _ _ | exact yF _ | apply ad | apply ae | apply ab | apply ag | apply aj | refine ai ?_ _ | exact ah _) | (intro _) | exact af | (dsimp only))
def tG (x : Int) (y : Int) : Option (Int × Int) :=
 let w0:=IntKind.u64.wrap ((andK .u64 x 4294967295) * (andK .u64 y 4294967295))
 let t:=IntKind.u64.wrap ((IntKind.u64.wrap ((shrK .u64 x 32) * (andK .u64 y 4294967295))) + (shrK .u64 w0 32))
 let w1:=IntKind.u64.wrap ((andK .u64 t 4294967295) + (IntKind.u64.wrap ((andK .u64 x 4294967295) * (shrK .u64 y 32))))
 let hi:=IntKind.u64.wrap ((IntKind.u64.wrap ((IntKind.u64.wrap ((shrK .u64 x 32) * (shrK .u64 y 32))) + (shrK .u64 t 32))) + (shrK .u64 w1 32))
 some (hi,IntKind.u64.wrap (x * y))
theorem Ew (x : Int) (y : Int) : Lo (tG x y) (ss x y):=by
 unfold tG ss
 repeat' (first | (with_reducible first | apply ad | apply ae | apply ab | apply ag | apply aj | refine ai ?_ _ | exact ah _) | (intro _) | exact af | (dsimp only))
def tP (hi : Int) (lo : Int) (y : Int) : Option (Int × Int) :=
 bif y == 0 then
 none
 else
 bif decide (y ≤ hi) then
  none
 else
  bif hi == 0 then
  (nz y).bind fun _ =>
  (nz y).bind fun _ =>
  some (IntKind.u64.wrap (Int.tdiv lo y),Int.tmod lo y)
  else
  none
theorem EF (hi : Int) (lo : Int) (y : Int) : Lo (tP hi lo y) (rV hi lo y):=by
 unfold tP rV
 repeat' (first | (with_reducible first | apply ad | apply ae | apply ab | apply ag | apply aj | refine ai ?_ _ | exact ah _) | (intro _) | exact af | (dsimp only))
def pP (n : Int) (bp : Int) : Option Int :=
 (tG (IntKind.u64.wrap n) (IntKind.u64.wrap bp)).bind fun x =>
 (tP x.1 x.2 10000).bind fun x1 =>
 some (w64 x1.1)
theorem Ga (n : Int) (bp : Int) : Lo (pP n bp) (qE n bp):=by
 unfold pP qE
 repeat' (first | (with_reducible first | exact Ew _ _ | exact EF _ _ _ | apply ad | apply ae | apply ab | apply ag | apply aj | refine ai ?_ _ | exact ah _) | (intro _) | exact af | (dsimp only))
def np (a : Vec) (bp : Int) : Option (Vec × Int) :=
 (
 (dh a).bind fun x =>
 bif ! x then
  some true
 else
  bif decide (bp < 0) then
  some true
  else
  some (decide (bp > 1000000))).bind fun q =>
 bif q then
 some ((⟨0,0⟩ : Vec),1)
 else
 (pP a.Mem bp).bind fun x1 =>
 (pP a.Cores bp).bind fun x2 =>
 (pU (⟨x1,x2⟩ : Vec)).bind fun x3 =>
 some (x3.1,x3.2)
theorem xN (a : Vec) (bp : Int) : Lo (np a bp) (nY a bp):=by
 unfold np nY
 repeat' (first | (with_reducible first | exact md _ | exact Ga _ _ | exact yC _ | apply ad | apply ae | apply ab | apply ag | apply aj | refine ai ?_ _ | exact ah _) | (intro _) | exact af | (dsimp only))
def tz (t : List UInt8 × List (List UInt8)) : Option ((List UInt8 × List (List UInt8)) ⊕ List (List UInt8)) :=
 bif ! (t.1 == ([] : List UInt8)) then
 (app 16 t.2 [t.1]).bind fun l =>
 (jG t.1).bind fun x =>
 some (.inl (x.1,l))
 else
 some (.inr t.2)
theorem Ey (t : List UInt8 × List (List UInt8)) : Lo (tz t) (xI t):=by
 unfold tz xI
 repeat' (first | (with_reducible first | exact rJ _ | apply ad | apply ae | apply ab | apply ag | apply aj | refine ai ?_ _ | exact ah _) | (intro _) | exact af | (dsimp only))
def ve (path : List UInt8) : Option (List (List UInt8)) :=
 (itr 4096 tz (path,[])).bind fun out =>
 some out
theorem CM (path : List UInt8) : Lo (ve path) (wc path):=by
 unfold ve wc
 repeat' (first | (with_reducible first | exact Ey _ | apply ad | apply ae | apply ab | apply ag | apply aj | refine ai ?_ _ | exact ah _) | (intro _) | exact af | (dsimp only))
def mU (s : State) (label : Int) (part : (TupT fam [.st 1] → Option Int)) (up : List (List UInt8)) (t : Vec × Vec × Int) : Option ((Vec × Vec × Int) ⊕ (Vec ⊕ (Vec × Vec))) :=
 bif decide (t.2.2 ≥ 0) then
 (inb t.2.2 up.length).bind fun i1 =>
 (up[i1]?).bind fun x2 =>
 (gb s.Conf x2).bind fun x3 =>
 (
  bif ! x3.2 then
  some true
  else
  bif decide (label < 0) then
   some true
  else
   some (decide (label ≥ (x3.1.Caps.length : Int)))).bind fun q =>
 bif q then
  some (.inr (.inl (⟨0,0⟩ : Vec)))
 else
  (inb label x3.1.Caps.length).bind fun i2 =>
  (x3.1.Caps[i2]?).bind fun x4 =>
  (part (x4,())).bind fun r =>
  (np t.2.1 r).bind fun x5 =>
  some (.inl (t.1,x5.1,w64 (t.2.2 - 1)))
 else
 some (.inr (.inr (t.1,t.2.1)))
theorem A6 (s : State) (label : Int) (part part_' : (TupT fam [.st 1] → Option Int)) (h_part : ∀ a,Lo (part a) (part_' a)) (up : List (List UInt8)) (t : Vec × Vec × Int) : Lo (mU s label part up t) (qK s label part_' up t):=by
 unfold mU qK
 repeat' (first | (with_reducible first | exact kc _ _ | exact xN _ _ | exact h_part _ | apply ad | apply ae | apply ab | apply ag | apply aj | refine ai ?_ _ | exact ah _) | (intro _) | exact af | (dsimp only))
def nG (s : State) (path : List UInt8) (label : Int) (part : (TupT fam [.st 1] → Option Int)) : Option Vec :=
 (ve path).bind fun up =>
 (gb s.Conf path).bind fun x =>
 bif ! x.2 then
 some (⟨0,0⟩ : Vec)
 else
 (dt s label).bind fun x1 =>
 let i:=w64 ((up.length : Int) - 2)
 (itr 4096 (mU s label part up) ((⟨0,0⟩ : Vec),x1,i)).bind fun q0 =>
 match q0 with
 | .inl q1 =>
  some q1
 | .inr q2 =>
  some q2.2
theorem xP (s : State) (path : List UInt8) (label : Int) (part part_' : (TupT fam [.st 1] → Option Int)) (h_part : ∀ a,Lo (part a) (part_' a)) : Lo (nG s path label part) (mV s path label part_'):=by
 unfold nG mV
 repeat' (first | (with_reducible first | exact CM _ | exact kc _ _ | exact gH _ _ | refine A6 _ _ _ _ ?_ _ _ | exact h_part _ | apply ad | apply ae | apply ab | apply ag | apply aj | refine ai ?_ _ | exact ah _) | (intro _) | exact af | (dsimp only))
def li (_a0 : Cap) : Option Int:=none
theorem uH (_a0 : Cap) : Lo (li _a0) (iA _a0):=af
def fk (s : State) (path : List UInt8) (label : Int) : Option Vec :=
 (nG s path label (fun a' => li a'.1)).bind fun x =>
 some x
theorem kh (s : State) (path : List UInt8) (label : Int) : Lo (fk s path label) (d7 s path label):=by
 unfold fk d7
 repeat' (first | (with_reducible first | refine xP _ _ _ _ _ ?_ | exact uH _ | apply ad | apply ae | apply ab | apply ag | apply aj | refine ai ?_ _ | exact ah _) | (intro _) | exact af | (dsimp only))
def iv (t : Attempt) (a : App) (x : Ask) : Option Bool :=
 (cZ t.s a.Queue t.n.Label).bind fun x1 =>
 (cA x1 x.Size).bind fun x2 =>
 bif x2.2 == 0 then
 (fk t.s a.Queue t.n.Label).bind fun x3 =>
 (b8 x2.1 x3).bind fun x4 =>
 some x4
 else
 some false
theorem wo (t : Attempt) (a : App) (x : Ask) : Lo (iv t a x) (fu t a x):=by
 unfold iv fu
 repeat' (first | (with_reducible first | exact fh _ _ _ | exact cS _ _ | exact kh _ _ _ | exact en _ _ | apply ad | apply ae | apply ab | apply ag | apply aj | refine ai ?_ _ | exact ah _) | (intro _) | exact af | (dsimp only))
def ma (s : State) (path : List UInt8) (label : Int) (user : Int) : Option Vec :=
 bif user == (-1) then
 some (⟨0,0⟩ : Vec)
 else
 (gp (⟨⟨⟨s.Conf.Labels,s.Conf.Queues⟩,s.Nodes,s.Apps,s.Conts,s.Slots,s.Plans,s.Now,s.Epoch,s.Seq⟩,path,label,user⟩ : View)).bind fun x =>
 some x
theorem Ae (s : State) (path : List UInt8) (label : Int) (user : Int) : Lo (ma s path label user) (ki s path label user):=by
 unfold ma ki
 repeat' (first | (with_reducible first | exact qi _ | apply ad | apply ae | apply ab | apply ag | apply aj | refine ai ?_ _ | exact ah _) | (intro _) | exact af | (dsimp only))
def uw (s : State) (path : List UInt8) (label : Int) : Option Vec :=
 (gb s.Conf path).bind fun x =>
 (fk s path label).bind fun x1 =>
 (np x1 x.1.User).bind fun x2 =>
 some x2.1
theorem EG (s : State) (path : List UInt8) (label : Int) : Lo (uw s path label) (rZ s path label):=by
 unfold uw rZ
 repeat' (first | (with_reducible first | exact kc _ _ | exact kh _ _ _ | exact xN _ _ | apply ad | apply ae | apply ab | apply ag | apply aj | refine ai ?_ _ | exact ah _) | (intro _) | exact af | (dsimp only))
def gF (t : Attempt) (a : App) : Option Bool :=
 (ma t.s a.Queue t.n.Label a.User).bind fun x =>
 (uw t.s a.Queue t.n.Label).bind fun x1 =>
 (b8 x x1).bind fun x2 =>
 some x2
theorem vD (t : Attempt) (a : App) : Lo (gF t a) (ez t a):=by
 unfold gF ez
 repeat' (first | (with_reducible first | exact Ae _ _ _ _ | exact EG _ _ _ | exact en _ _ | apply ad | apply ae | apply ab | apply ag | apply aj | refine ai ?_ _ | exact ah _) | (intro _) | exact af | (dsimp only))
def gD (t : Attempt) (x : Ask) : Option Bool :=
 (b8 x.Size t.free).bind fun x1 =>
 some x1
theorem vT (t : Attempt) (x : Ask) : Lo (gD t x) (eA t x):=by
 unfold gD eA
 repeat' (first | (with_reducible first | exact en _ _ | apply ad | apply ae | apply ab | apply ag | apply aj | refine ai ?_ _ | exact ah _) | (intro _) | exact af | (dsimp only))
def mu (_a0 : Cap) : Option Int:=none
theorem vU (_a0 : Cap) : Lo (mu _a0) (jd _a0):=af
def sQ (s : State) (path : List UInt8) (label : Int) : Option Vec :=
 (nG s path label (fun a' => mu a'.1)).bind fun x =>
 some x
theorem ED (s : State) (path : List UInt8) (label : Int) : Lo (sQ s path label) (mX s path label):=by
 unfold sQ mX
 repeat' (first | (with_reducible first | refine xP _ _ _ _ _ ?_ | exact vU _ | apply ad | apply ae | apply ab | apply ag | apply aj | refine ai ?_ _ | exact ah _) | (intro _) | exact af | (dsimp only))
def nM (s : State) (label : Int) (t : List Vec × Int) : Option ((List Vec × Int) ⊕ List Vec) :=
 bif decide (t.2 < (s.Plans.length : Int)) then
 (
  (idx s.Plans t.2).bind fun x =>
  (
  bif x.Label == label then
   bif decide (x.From ≤ s.Now) then
   some (decide (x.Until > s.Now))
   else
   some false
  else
   some false).bind fun q =>
  bif q then
  (app 16 t.1 [x.Need]).bind fun l =>
  some l
  else
  some t.1).bind fun l1 =>
 some (.inl (l1,w64 (t.2 + 1)))
 else
 some (.inr t.1)
theorem Be (s : State) (label : Int) (t : List Vec × Int) : Lo (nM s label t) (qT s label t):=by
 unfold nM qT
 repeat' (first | (with_reducible first | apply ad | apply ae | apply ab | apply ag | apply aj | refine ai ?_ _ | exact ah _) | (intro _) | exact af | (dsimp only))
def t_ (s : State) (label : Int) : Option Vec :=
 (itr 4096 (nM s label) ([],0)).bind fun l2 =>
 (pX l2).bind fun x1 =>
 some x1
theorem Ep (s : State) (label : Int) : Lo (t_ s label) (sA s label):=by
 unfold t_ sA
 repeat' (first | (with_reducible first | exact Be _ _ _ | exact yF _ | apply ad | apply ae | apply ab | apply ag | apply aj | refine ai ?_ _ | exact ah _) | (intro _) | exact af | (dsimp only))
def nF (s : State) (label : Int) (size : Vec) (x : List (List UInt8)) (t : Int) : Option (Int ⊕ (Bool ⊕ Unit)) :=
 bif decide (t < (x.length : Int)) then
 (inb t x.length).bind fun i =>
 (x[i]?).bind fun x1 =>
 (cZ s x1 label).bind fun x2 =>
 (cA x2 size).bind fun x3 =>
 (
  bif x3.2 != 0 then
  some true
  else
  (sQ s x1 label).bind fun x4 =>
  (b8 x3.1 x4).bind fun x5 =>
  some (! x5)).bind fun q =>
 bif q then
  some (.inr (.inl false))
 else
  (dt s label).bind fun x6 =>
  (t_ s label).bind fun x7 =>
  (
  bif x1 == ([114,111,111,116] : List UInt8) then
   bif ! (((imax (w64 (x6.Mem - x7.Mem)) 0) == x6.Mem) && ((imax (w64 (x6.Cores - x7.Cores)) 0) == x6.Cores)) then
   (b8 x3.1 (⟨imax (w64 (x6.Mem - x7.Mem)) 0,imax (w64 (x6.Cores - x7.Cores)) 0⟩ : Vec)).bind fun x8 =>
   some (! x8)
   else
   some false
  else
   some false).bind fun q1 =>
  bif q1 then
  some (.inr (.inl false))
  else
  some (.inl (w64 (t + 1)))
 else
 some (.inr (.inr ()))
theorem AL (s : State) (label : Int) (size : Vec) (x : List (List UInt8)) (t : Int) : Lo (nF s label size x t) (rq s label size x t):=by
 unfold nF rq
 repeat' (first | (with_reducible first | exact fh _ _ _ | exact cS _ _ | exact ED _ _ _ | exact en _ _ | exact gH _ _ | exact Ep _ _ | apply ad | apply ae | apply ab | apply ag | apply aj | refine ai ?_ _ | exact ah _) | (intro _) | exact af | (dsimp only))
def tV (s : State) (path : List UInt8) (label : Int) (size : Vec) : Option Bool :=
 (ve path).bind fun x =>
 (itr 4096 (nF s label size x) 0).bind fun q0 =>
 match q0 with
 | .inl q2 =>
 some q2
 | .inr _ =>
 some true
theorem EH (s : State) (path : List UInt8) (label : Int) (size : Vec) : Lo (tV s path label size) (rY s path label size):=by
 unfold tV rY
 repeat' (first | (with_reducible first | exact CM _ | exact AL _ _ _ _ _ | apply ad | apply ae | apply ab | apply ag | apply aj | refine ai ?_ _ | exact ah _) | (intro _) | exact af | (dsimp only))
def ie (t : Attempt) (a : App) (x : Ask) : Option Bool :=
 (tV t.s a.Queue t.n.Label x.Size).bind fun x1 =>
 some x1
theorem vR (t : Attempt) (a : App) (x : Ask) : Lo (ie t a x) (eG t a x):=by
 unfold ie eG
 repeat' (first | (with_reducible first | exact EH _ _ _ _ | apply ad | apply ae | apply ab | apply ag | apply aj | refine ai ?_ _ | exact ah _) | (intro _) | exact af | (dsimp only))
def pH (s : List App) (i : Int) (v : List App) : Option (List App):=ins s i v
theorem B9 (s : List App) (i : Int) (v : List App) : Lo (pH s i v) (oi s i v):=by
 unfold pH oi
 repeat' (first | (with_reducible first | apply ad | apply ae | apply ab | apply ag | apply aj | refine ai ?_ _ | exact ah _) | (intro _) | exact af | (dsimp only))
def qF (s : State) (a : App) (k : Int) : Option (Int ⊕ Int) :=
 (
 bif decide (k < (s.Apps.length : Int)) then
  (inb k s.Apps.length).bind fun i2 =>
  (s.Apps[i2]?).bind fun x1 =>
  some (decide (x1.Id < a.Id))
 else
  some false).bind fun q =>
 bif q then
 some (.inl (w64 (k + 1)))
 else
 some (.inr k)
theorem C6 (s : State) (a : App) (k : Int) : Lo (qF s a k) (vk s a k):=by
 unfold qF vk
 repeat' (first | (with_reducible first | apply ad | apply ae | apply ab | apply ag | apply aj | refine ai ?_ _ | exact ah _) | (intro _) | exact af | (dsimp only))
def sD (s : State) (a : App) : Option State :=
 (ms s a.Id).bind fun i =>
 bif decide (i ≥ 0) then
 (inb i s.Apps.length).bind fun i1 =>
 (s.Apps[i1]?).bind fun x =>
 some (⟨⟨s.Conf.Labels,s.Conf.Queues⟩,s.Nodes,List.set s.Apps i1 a,s.Conts,s.Slots,s.Plans,s.Now,s.Epoch,s.Seq⟩ : State)
 else
 (itr 4096 (qF s a) 0).bind fun k1 =>
 (pH s.Apps k1 [a]).bind fun x2 =>
 some (⟨⟨s.Conf.Labels,s.Conf.Queues⟩,s.Nodes,x2,s.Conts,s.Slots,s.Plans,s.Now,s.Epoch,s.Seq⟩ : State)
theorem Ax (s : State) (a : App) : Lo (sD s a) (tu s a):=by
 unfold sD tu
 repeat' (first | (with_reducible first | exact sn _ _ | exact C6 _ _ _ | exact B9 _ _ _ | apply ad | apply ae | apply ab | apply ag | apply aj | refine ai ?_ _ | exact ah _) | (intro _) | exact af | (dsimp only))
def rU (s : State) (a : App) : Option State :=
 (nH s).bind fun x =>
 (kf a).bind fun x1 =>
 (sD x x1).bind fun x2 =>
 some x2
theorem Am (s : State) (a : App) : Lo (rU s a) (sK s a):=by
 unfold rU sK
 repeat' (first | (with_reducible first | exact xO _ | exact pQ _ | exact Ax _ _ | apply ad | apply ae | apply ab | apply ag | apply aj | refine ai ?_ _ | exact ah _) | (intro _) | exact af | (dsimp only))
def sr (l : List Ask) : Option (List Ask) :=
 (mkl 64 (l.length : Int) (l.length : Int) (⟨0,0,⟨0,0⟩,0,0,0,0⟩ : Ask)).bind fun l1 =>
 some (cpy l1 0 l1.length l)
theorem Al (l : List Ask) : Lo (sr l) (tF l):=by
 unfold sr tF
 repeat' (first | (with_reducible first | apply ad | apply ae | apply ab | apply ag | apply aj | refine ai ?_ _ | exact ah _) | (intro _) | exact af | (dsimp only))
def kK (s : List Ask) (f : (TupT fam [.st 5] → Option Bool)) (t : Int) : Option (Int ⊕ (Int ⊕ Unit)) :=
 bif decide (t < (s.length : Int)) then
 (idx s t).bind fun x =>
 (f (x,())).bind fun r =>
 bif r then
  some (.inr (.inl t))
 else
  some (.inl (w64 (t + 1)))
 else
 some (.inr (.inr ()))
theorem yr (s : List Ask) (f f_' : (TupT fam [.st 5] → Option Bool)) (h_f : ∀ a,Lo (f a) (f_' a)) (t : Int) : Lo (kK s f t) (nX s f_' t):=by
 unfold kK nX
 repeat' (first | (with_reducible first | exact h_f _ | apply ad | apply ae | apply ab | apply ag | apply aj | refine ai ?_ _ | exact ah _) | (intro _) | exact af | (dsimp only))
def kq (s : List Ask) (f : (TupT fam [.st 5] → Option Bool)) : Option Int :=
 (itr 4096 (kK s f) 0).bind fun q0 =>
 match q0 with
 | .inl q =>
 some q
 | .inr _ =>
 some (-1)
theorem uU (s : List Ask) (f f_' : (TupT fam [.st 5] → Option Bool)) (h_f : ∀ a,Lo (f a) (f_' a)) : Lo (kq s f) (j_ s f_'):=by
 unfold kq j_
 repeat' (first | (with_reducible first | refine yr _ _ _ ?_ _ | exact h_f _ | apply ad | apply ae | apply ab | apply ag | apply aj | refine ai ?_ _ | exact ah _) | (intro _) | exact af | (dsimp only))
def vA (a : Ask) (p : Int) : Option Bool :=
 some (a.Prio == p)
theorem FV (a : Ask) (p : Int) : Lo (vA a p) (u7 a p):=by
 unfold vA u7
 repeat' (first | (with_reducible first | apply ad | apply ae | apply ab | apply ag | apply aj | refine ai ?_ _ | exact ah _) | (intro _) | exact af | (dsimp only))
def zo (l : List Ask) (prio : Int) : Option Int :=
 (kq l (fun a' => vA a'.1 prio)).bind fun x =>
 some x
theorem HQ (l : List Ask) (prio : Int) : Lo (zo l prio) (zW l prio):=by
 unfold zo zW
 repeat' (first | (with_reducible first | refine uU _ _ _ ?_ | exact FV _ _ | apply ad | apply ae | apply ab | apply ag | apply aj | refine ai ?_ _ | exact ah _) | (intro _) | exact af | (dsimp only))
def pG (s : List Ask) (i : Int) (j : Int) : Option (List Ask):=del s i j
theorem Cg (s : List Ask) (i : Int) (j : Int) : Lo (pG s i j) (n9 s i j):=by
 unfold pG n9
 repeat' (first | (with_reducible first | apply ad | apply ae | apply ab | apply ag | apply aj | refine ai ?_ _ | exact ah _) | (intro _) | exact af | (dsimp only))
def vg (l : List Ask) (prio : Int) : Option (List Ask × Bool) :=
 (sr l).bind fun out =>
 (zo out prio).bind fun i =>
 bif decide (i < 0) then
 some (out,false)
 else
 (inb i out.length).bind fun i1 =>
 (out[i1]?).bind fun x =>
 (inb i (List.set out i1 (⟨x.Prio,x.Label,⟨x.Size.Mem,x.Size.Cores⟩,x.Count,x.Node,x.Rack,0⟩ : Ask)).length).bind fun i2 =>
 ((List.set out i1 (⟨x.Prio,x.Label,⟨x.Size.Mem,x.Size.Cores⟩,x.Count,x.Node,x.Rack,0⟩ : Ask))[i2]?).bind fun x1 =>
 (inb i (List.set out i1 (⟨x.Prio,x.Label,⟨x.Size.Mem,x.Size.Cores⟩,x.Count,x.Node,x.Rack,0⟩ : Ask)).length).bind fun i3 =>
 ((List.set out i1 (⟨x.Prio,x.Label,⟨x.Size.Mem,x.Size.Cores⟩,x.Count,x.Node,x.Rack,0⟩ : Ask))[i3]?).bind fun x2 =>
 (
  (inb i (List.set (List.set out i1 (⟨x.Prio,x.Label,⟨x.Size.Mem,x.Size.Cores⟩,x.Count,x.Node,x.Rack,0⟩ : Ask)) i3 (⟨x2.Prio,x2.Label,⟨x2.Size.Mem,x2.Size.Cores⟩,w64 (x1.Count - 1),x2.Node,x2.Rack,x2.Missed⟩ : Ask)).length).bind fun i4 =>
  ((List.set (List.set out i1 (⟨x.Prio,x.Label,⟨x.Size.Mem,x.Size.Cores⟩,x.Count,x.Node,x.Rack,0⟩ : Ask)) i3 (⟨x2.Prio,x2.Label,⟨x2.Size.Mem,x2.Size.Cores⟩,w64 (x1.Count - 1),x2.Node,x2.Rack,x2.Missed⟩ : Ask))[i4]?).bind fun x3 =>
  bif decide (x3.Count ≤ 0) then
  (pG (List.set (List.set out i1 (⟨x.Prio,x.Label,⟨x.Size.Mem,x.Size.Cores⟩,x.Count,x.Node,x.Rack,0⟩ : Ask)) i3 (⟨x2.Prio,x2.Label,⟨x2.Size.Mem,x2.Size.Cores⟩,w64 (x1.Count - 1),x2.Node,x2.Rack,x2.Missed⟩ : Ask)) i (w64 (i + 1))).bind fun out1 =>
  some out1
  else
  some (List.set (List.set out i1 (⟨x.Prio,x.Label,⟨x.Size.Mem,x.Size.Cores⟩,x.Count,x.Node,x.Rack,0⟩ : Ask)) i3 (⟨x2.Prio,x2.Label,⟨x2.Size.Mem,x2.Size.Cores⟩,w64 (x1.Count - 1),x2.Node,x2.Rack,x2.Missed⟩ : Ask))).bind fun out2 =>
 some (out2,true)
theorem E5 (l : List Ask) (prio : Int) : Lo (vg l prio) (u3 l prio):=by
 unfold vg u3
 repeat' (first | (with_reducible first | exact Al _ | exact HQ _ _ | exact Cg _ _ _ | apply ad | apply ae | apply ab | apply ag | apply aj | refine ai ?_ _ | exact ah _) | (intro _) | exact af | (dsimp only))
def nS (s : List Cont) (i : Int) (v : List Cont) : Option (List Cont):=ins s i v
theorem A9 (s : List Cont) (i : Int) (v : List Cont) : Lo (nS s i v) (lz s i v):=by
 unfold nS lz
 repeat' (first | (with_reducible first | apply ad | apply ae | apply ab | apply ag | apply aj | refine ai ?_ _ | exact ah _) | (intro _) | exact af | (dsimp only))
def dH (t : Attempt) (x2 : State) (k : Int) : Option (Int ⊕ Int) :=
 (
 bif decide (k < (x2.Conts.length : Int)) then
  (inb k x2.Conts.length).bind fun i =>
  (x2.Conts[i]?).bind fun x3 =>
  some (decide (x3.Id < (w64 ((shlK .i64 t.s.Epoch 20) + (w64 (t.s.Seq + 1))))))
 else
  some false).bind fun q =>
 bif q then
 some (.inl (w64 (k + 1)))
 else
 some (.inr k)
theorem rt (t : Attempt) (x2 : State) (k : Int) : Lo (dH t x2 k) (fg t x2 k):=by
 unfold dH fg
 repeat' (first | (with_reducible first | apply ad | apply ae | apply ab | apply ag | apply aj | refine ai ?_ _ | exact ah _) | (intro _) | exact af | (dsimp only))
def gc (t : Attempt) (a : App) (x : Ask) : Option (Cont × Attempt) :=
 (vg a.Asks x.Prio).bind fun x1 =>
 (
 bif a.State == 1 then
  some (⟨a.Id,2,a.Queue,a.User,a.Prio,⟨a.Master.Mem,a.Master.Cores⟩,[],t.s.Now,0,a.Grants,a.Kills,a.Told,a.Lost⟩ : App)
 else
  (app 8 a.Grants [w64 ((shlK .i64 t.s.Epoch 20) + (w64 (t.s.Seq + 1)))]).bind fun l =>
  some (⟨a.Id,a.State,a.Queue,a.User,a.Prio,⟨a.Master.Mem,a.Master.Cores⟩,x1.1,a.Seen,a.Beat,l,a.Kills,a.Told,a.Lost⟩ : App)).bind fun a1 =>
 (rU (⟨⟨t.s.Conf.Labels,t.s.Conf.Queues⟩,t.s.Nodes,t.s.Apps,t.s.Conts,t.s.Slots,t.s.Plans,t.s.Now,t.s.Epoch,w64 (t.s.Seq + 1)⟩ : State) a1).bind fun x2 =>
 (itr 4096 (dH t x2) 0).bind fun k1 =>
 (nS x2.Conts k1 [(⟨w64 ((shlK .i64 t.s.Epoch 20) + (w64 (t.s.Seq + 1))),a.Id,t.n.Id,⟨x.Size.Mem,x.Size.Cores⟩,x.Prio,x.Label,a.State == 1,0⟩ : Cont)]).bind fun x4 =>
 some ((⟨w64 ((shlK .i64 t.s.Epoch 20) + (w64 (t.s.Seq + 1))),a.Id,t.n.Id,⟨x.Size.Mem,x.Size.Cores⟩,x.Prio,x.Label,a.State == 1,0⟩ : Cont),(⟨⟨⟨x2.Conf.Labels,x2.Conf.Queues⟩,x2.Nodes,x2.Apps,x4,x2.Slots,x2.Plans,x2.Now,x2.Epoch,x2.Seq⟩,⟨t.n.Id,t.n.Label,t.n.Rack,⟨t.n.Cap.Mem,t.n.Cap.Cores⟩,t.n.Seen,t.n.Beat,t.n.Up⟩,⟨t.free.Mem,t.free.Cores⟩⟩ : Attempt))
theorem uB (t : Attempt) (a : App) (x : Ask) : Lo (gc t a x) (dF t a x):=by
 unfold gc dF
 repeat' (first | (with_reducible first | exact E5 _ _ | exact Am _ _ | exact rt _ _ _ | exact A9 _ _ _ | apply ad | apply ae | apply ab | apply ag | apply aj | refine ai ?_ _ | exact ah _) | (intro _) | exact af | (dsimp only))
def g9 (t : Attempt) : Option (Int × Cont × Bool × Attempt) :=
 (pW t.s.Slots (fun a' => none)).bind fun i =>
 bif decide (i < 0) then
 some (0,(⟨0,0,0,⟨0,0⟩,0,0,false,0⟩ : Cont),false,t)
 else
 (inb i t.s.Slots.length).bind fun i1 =>
 (t.s.Slots[i1]?).bind fun x =>
 (fS t.s x.App).bind fun x1 =>
 none
theorem vm (t : Attempt) : Lo (g9 t) (eF t):=by
 unfold g9 eF
 repeat' (first | (with_reducible first | refine ze _ _ _ ?_ | exact j9 _ _ | apply ad | apply ae | apply ab | apply ag | apply aj | refine ai ?_ _ | exact ah _) | (intro _) | exact af | (dsimp only))
def qH (s : List Load) (f : (TupT fam [.st 15,.st 15] → Option Int)) : Option (List Load):=sortG (F:=fam) (.st 15) f s
theorem DF (s : List Load) (f f_' : (TupT fam [.st 15,.st 15] → Option Int)) (h_f : ∀ a,Lo (f a) (f_' a)) : Lo (qH s f) (pJ s f_'):=by
 unfold qH pJ
 repeat' (first | (with_reducible first | refine Kl ?_ _ | exact h_f _ | apply ad | apply ae | apply ab | apply ag | apply aj | refine ai ?_ _ | exact ah _) | (intro _) | exact af | (dsimp only))
def m_ (_a0 : Load) (_a1 : Load) : Option Int:=none
theorem wy (_a0 : Load) (_a1 : Load) : Lo (m_ _a0 _a1) (jH _a0 _a1):=af
def nr (x4 : List Load) (t1 : List (List UInt8) × Int) : Option ((List (List UInt8) × Int) ⊕ List (List UInt8)) :=
 bif decide (t1.2 < (x4.length : Int)) then
 (inb t1.2 x4.length).bind fun i1 =>
 (x4[i1]?).bind fun x5 =>
 (inS t1.2 (t1.1.length : Int) t1.1.length).bind fun p =>
 some (.inl (cpy t1.1 p.1 p.2 [x5.path],w64 (t1.2 + 1)))
 else
 some (.inr t1.1)
theorem AU (x4 : List Load) (t1 : List (List UInt8) × Int) : Lo (nr x4 t1) (qG x4 t1):=by
 unfold nr qG
 repeat' (first | (with_reducible first | apply ad | apply ae | apply ab | apply ag | apply aj | refine ai ?_ _ | exact ah _) | (intro _) | exact af | (dsimp only))
def nK (s : State) (label : Int) (x : List (List UInt8)) (t : List Load × Int) : Option ((List Load × Int) ⊕ List Load) :=
 bif decide (t.2 < (x.length : Int)) then
 (inb t.2 x.length).bind fun i =>
 (x[i]?).bind fun x1 =>
 (cZ s x1 label).bind fun x2 =>
 (fk s x1 label).bind fun x3 =>
 (app 48 t.1 [(⟨x1,⟨x2.Mem,x2.Cores⟩,⟨x3.Mem,x3.Cores⟩⟩ : Load)]).bind fun l =>
 some (.inl (l,w64 (t.2 + 1)))
 else
 some (.inr t.1)
theorem AM (s : State) (label : Int) (x : List (List UInt8)) (t : List Load × Int) : Lo (nK s label x t) (qM s label x t):=by
 unfold nK qM
 repeat' (first | (with_reducible first | exact fh _ _ _ | exact kh _ _ _ | apply ad | apply ae | apply ab | apply ag | apply aj | refine ai ?_ _ | exact ah _) | (intro _) | exact af | (dsimp only))
def sL (s : State) (path : List UInt8) (label : Int) : Option (List (List UInt8)) :=
 (ja s.Conf path).bind fun x =>
 (itr 4096 (nK s label x) ([],0)).bind fun l1 =>
 (qH l1 (fun a' => m_ a'.1 a'.2.1)).bind fun x4 =>
 (mkl 16 (x4.length : Int) (x4.length : Int) []).bind fun l2 =>
 (itr 4096 (nr x4) (l2,0)).bind fun out =>
 some out
theorem Eu (s : State) (path : List UInt8) (label : Int) : Lo (sL s path label) (sj s path label):=by
 unfold sL sj
 repeat' (first | (with_reducible first | exact nQ _ _ | exact AM _ _ _ _ | refine DF _ _ _ ?_ | exact wy _ _ | exact AU _ _ | apply ad | apply ae | apply ab | apply ag | apply aj | refine ai ?_ _ | exact ah _) | (intro _) | exact af | (dsimp only))
def qx (s : State) (label : Int) (deep : Int) (self : State → (List UInt8) → Int → Int → Option (List (List UInt8))) (kids : List (List UInt8)) (t : List (List UInt8) × Int) : Option ((List (List UInt8) × Int) ⊕ List (List UInt8)):=none
theorem ya (s : State) (label : Int) (deep : Int) (self self_' : State → (List UInt8) → Int → Int → Option (List (List UInt8))) (h_self : ∀ (a0 : State) (a1 : (List UInt8)) (a2 : Int) (a3 : Int),Lo (self a0 a1 a2 a3) (self_' a0 a1 a2 a3)) (kids : List (List UInt8)) (t : List (List UInt8) × Int) : Lo (qx s label deep self kids t) (uq s label deep self_' kids t):=af
def mR (self : State → (List UInt8) → Int → Int → Option (List (List UInt8))) (s : State) (path : List UInt8) (label : Int) (deep : Int) : Option (List (List UInt8)) :=
 (sL s path label).bind fun kids =>
 (
 bif (kids.length : Int) == 0 then
  some true
 else
  some (decide (deep > 4))).bind fun q =>
 bif q then
 some [path]
 else
 (itr 4096 (qx s label deep self kids) ([],0)).bind fun out =>
 some out
theorem AY (self self_' : State → (List UInt8) → Int → Int → Option (List (List UInt8))) (h_self : ∀ (a0 : State) (a1 : (List UInt8)) (a2 : Int) (a3 : Int),Lo (self a0 a1 a2 a3) (self_' a0 a1 a2 a3)) (s : State) (path : List UInt8) (label : Int) (deep : Int) : Lo (mR self s path label deep) (ri self_' s path label deep):=by
 unfold mR ri
 repeat' (first | (with_reducible first | exact Eu _ _ _ | refine ya _ _ _ _ _ ?_ _ _ | refine h_self _ _ _ _ | apply ad | apply ae | apply ab | apply ag | apply aj | refine ai ?_ _ | exact ah _) | (intro _) | exact af | (dsimp only))
def jA : Nat → State → (List UInt8) → Int → Int → Option (List (List UInt8))
 | 0 => fun _ _ _ _ => none
 | n + 1 => mR (jA n)
theorem tJ : ∀ (n : Nat),∀ (a0 : State) (a1 : List UInt8) (a2 : Int) (a3 : Int),Lo (jA n a0 a1 a2 a3) (iX n a0 a1 a2 a3)
 | 0 => fun _ _ _ _ => af
 | n + 1 => fun a0 a1 a2 a3 => AY (jA n) (iX n) (tJ n) a0 a1 a2 a3
def qO (a0 : State) (a1 : List UInt8) (a2 : Int) (a3 : Int) : Option (List (List UInt8)):=jA 64 a0 a1 a2 a3
theorem Dk (a0 : State) (a1 : List UInt8) (a2 : Int) (a3 : Int) : Lo (qO a0 a1 a2 a3) (pO a0 a1 a2 a3):=by
 unfold qO pO
 repeat' (first | (with_reducible first | refine tJ _ _ _ _ _ | apply ad | apply ae | apply ab | apply ag | apply aj | refine ai ?_ _ | exact ah _) | (intro _) | exact af | (dsimp only))
def oY (s : State) (label : Int) : Option (List (List UInt8)) :=
 (qO s ([114,111,111,116] : List UInt8) label 1).bind fun x =>
 some x
theorem Cp (s : State) (label : Int) : Lo (oY s label) (nJ s label):=by
 unfold oY nJ
 repeat' (first | (with_reducible first | exact Dk _ _ _ _ | apply ad | apply ae | apply ab | apply ag | apply aj | refine ai ?_ _ | exact ah _) | (intro _) | exact af | (dsimp only))
def rP (a : Int) (cmp : (TupT fam [.st 6,.st 6] → Option Int)) (t1 : List App × Int) : Option ((List App × Int) ⊕ List App):=none
theorem yn (a : Int) (cmp cmp_' : (TupT fam [.st 6,.st 6] → Option Int)) (h_cmp : ∀ a,Lo (cmp a) (cmp_' a)) (t1 : List App × Int) : Lo (rP a cmp t1) (u4 a cmp_' t1):=af
def kW (a : Int) (b : Int) (cmp : (TupT fam [.st 6,.st 6] → Option Int)) (t : List App × Int) : Option ((List App × Int) ⊕ List App) :=
 bif decide (t.2 < b) then
 (itr 4096 (rP a cmp) (t.1,t.2)).bind fun data1 =>
 some (.inl (data1,w64 (t.2 + 1)))
 else
 some (.inr t.1)
theorem yS (a : Int) (b : Int) (cmp cmp_' : (TupT fam [.st 6,.st 6] → Option Int)) (h_cmp : ∀ a,Lo (cmp a) (cmp_' a)) (t : List App × Int) : Lo (kW a b cmp t) (mQ a b cmp_' t):=by
 unfold kW mQ
 repeat' (first | (with_reducible first | refine yn _ _ _ ?_ _ | exact h_cmp _ | apply ad | apply ae | apply ab | apply ag | apply aj | refine ai ?_ _ | exact ah _) | (intro _) | exact af | (dsimp only))
def km (data : List App) (a : Int) (b : Int) (cmp : (TupT fam [.st 6,.st 6] → Option Int)) : Option (List App) :=
 (itr 4096 (kW a b cmp) (data,w64 (a + 1))).bind fun data2 =>
 some data2
theorem uS (data : List App) (a : Int) (b : Int) (cmp cmp_' : (TupT fam [.st 6,.st 6] → Option Int)) (h_cmp : ∀ a,Lo (cmp a) (cmp_' a)) : Lo (km data a b cmp) (j8 data a b cmp_'):=by
 unfold km j8
 repeat' (first | (with_reducible first | refine yS _ _ _ _ ?_ _ | exact h_cmp _ | apply ad | apply ae | apply ab | apply ag | apply aj | refine ai ?_ _ | exact ah _) | (intro _) | exact af | (dsimp only))
def wL (a0 : List App) (a1 : Int) (a2 : Int) (a3 : Int) (a4 : (TupT fam [.st 6,.st 6] → Option Int)) : Option (List App):=none
theorem CO (a0 : List App) (a1 : Int) (a2 : Int) (a3 : Int) (a4 a4_' : (TupT fam [.st 6,.st 6] → Option Int)) (h_a4 : ∀ a,Lo (a4 a) (a4_' a)) : Lo (wL a0 a1 a2 a3 a4) (nh a0 a1 a2 a3 a4_'):=af
def rS (n : Int) (cmp : (TupT fam [.st 6,.st 6] → Option Int)) (t1 : List App × Int) (t2 : List App × Int × Int) : Option ((List App × Int × Int) ⊕ ((List App × Int))):=none
theorem y7 (n : Int) (cmp cmp_' : (TupT fam [.st 6,.st 6] → Option Int)) (h_cmp : ∀ a,Lo (cmp a) (cmp_' a)) (t1 : List App × Int) (t2 : List App × Int × Int) : Lo (rS n cmp t1 t2) (uV n cmp_' t1 t2):=af
def kJ (n : Int) (cmp : (TupT fam [.st 6,.st 6] → Option Int)) (t1 : List App × Int) : Option ((List App × Int) ⊕ List App) :=
 bif decide (t1.2 < n) then
 (itr 4096 (rS n cmp t1) (t1.1,0,w64 (2 * t1.2))).bind fun q1 =>
 (
  let m:=w64 (q1.2 + t1.2)
  bif decide (m < n) then
  (wL q1.1 q1.2 m n cmp).bind fun x3 =>
  some x3
  else
  some q1.1).bind fun data1 =>
 some (.inl (data1,w64 (t1.2 * 2)))
 else
 some (.inr t1.1)
theorem yV (n : Int) (cmp cmp_' : (TupT fam [.st 6,.st 6] → Option Int)) (h_cmp : ∀ a,Lo (cmp a) (cmp_' a)) (t1 : List App × Int) : Lo (kJ n cmp t1) (nU n cmp_' t1):=by
 unfold kJ nU
 repeat' (first | (with_reducible first | refine y7 _ _ _ ?_ _ _ | refine CO _ _ _ _ _ _ ?_ | exact h_cmp _ | apply ad | apply ae | apply ab | apply ag | apply aj | refine ai ?_ _ | exact ah _) | (intro _) | exact af | (dsimp only))
def kX (n : Int) (cmp : (TupT fam [.st 6,.st 6] → Option Int)) (t : List App × Int × Int) : Option ((List App × Int × Int) ⊕ ((List App × Int))) :=
 bif decide (t.2.2 ≤ n) then
 (km t.1 t.2.1 t.2.2 cmp).bind fun x =>
 some (.inl (x,t.2.2,w64 (t.2.2 + 20)))
 else
 some (.inr (t.1,t.2.1))
theorem yY (n : Int) (cmp cmp_' : (TupT fam [.st 6,.st 6] → Option Int)) (h_cmp : ∀ a,Lo (cmp a) (cmp_' a)) (t : List App × Int × Int) : Lo (kX n cmp t) (mE n cmp_' t):=by
 unfold kX mE
 repeat' (first | (with_reducible first | refine uS _ _ _ _ _ ?_ | exact h_cmp _ | apply ad | apply ae | apply ab | apply ag | apply aj | refine ai ?_ _ | exact ah _) | (intro _) | exact af | (dsimp only))
def pB (data : List App) (n : Int) (cmp : (TupT fam [.st 6,.st 6] → Option Int)) : Option (List App) :=
 (itr 4096 (kX n cmp) (data,0,20)).bind fun q =>
 (km q.1 q.2 n cmp).bind fun x1 =>
 (itr 4096 (kJ n cmp) (x1,20)).bind fun data2 =>
 some data2
theorem BA (data : List App) (n : Int) (cmp cmp_' : (TupT fam [.st 6,.st 6] → Option Int)) (h_cmp : ∀ a,Lo (cmp a) (cmp_' a)) : Lo (pB data n cmp) (mZ data n cmp_'):=by
 unfold pB mZ
 repeat' (first | (with_reducible first | refine yY _ _ _ ?_ _ | refine uS _ _ _ _ _ ?_ | refine yV _ _ _ ?_ _ | exact h_cmp _ | apply ad | apply ae | apply ab | apply ag | apply aj | refine ai ?_ _ | exact ah _) | (intro _) | exact af | (dsimp only))
def oP (x : List App) (cmp : (TupT fam [.st 6,.st 6] → Option Int)) : Option (List App) :=
 (pB x (x.length : Int) cmp).bind fun x1 =>
 some x1
theorem CH (x : List App) (cmp cmp_' : (TupT fam [.st 6,.st 6] → Option Int)) (h_cmp : ∀ a,Lo (cmp a) (cmp_' a)) : Lo (oP x cmp) (mL x cmp_'):=by
 unfold oP mL
 repeat' (first | (with_reducible first | refine BA _ _ _ _ ?_ | exact h_cmp _ | apply ad | apply ae | apply ab | apply ag | apply aj | refine ai ?_ _ | exact ah _) | (intro _) | exact af | (dsimp only))
def wz (_a0 : App) (_a1 : App) : Option Int:=none
theorem Cl (_a0 : App) (_a1 : App) : Lo (wz _a0 _a1) (tH _a0 _a1):=af
def mH (x2 : List App) (t1 : List Int × Int) : Option ((List Int × Int) ⊕ List Int) :=
 bif decide (t1.2 < (x2.length : Int)) then
 (inb t1.2 x2.length).bind fun i =>
 (x2[i]?).bind fun x3 =>
 (inb t1.2 t1.1.length).bind fun i1 =>
 (t1.1[i1]?).bind fun x4 =>
 some (.inl (List.set t1.1 i1 x3.Id,w64 (t1.2 + 1)))
 else
 some (.inr t1.1)
theorem AZ (x2 : List App) (t1 : List Int × Int) : Lo (mH x2 t1) (rz x2 t1):=by
 unfold mH rz
 repeat' (first | (with_reducible first | apply ad | apply ae | apply ab | apply ag | apply aj | refine ai ?_ _ | exact ah _) | (intro _) | exact af | (dsimp only))
def mI (s : State) (queue : List UInt8) (t : List App × Int) : Option ((List App × Int) ⊕ List App) :=
 bif decide (t.2 < (s.Apps.length : Int)) then
 (
  (idx s.Apps t.2).bind fun x =>
  (
  (gj x).bind fun x1 =>
  bif x1 then
   some (x.Queue == queue)
  else
   some false).bind fun q =>
  bif q then
  (app 200 t.1 [x]).bind fun l =>
  some l
  else
  some t.1).bind fun l1 =>
 some (.inl (l1,w64 (t.2 + 1)))
 else
 some (.inr t.1)
theorem AN (s : State) (queue : List UInt8) (t : List App × Int) : Lo (mI s queue t) (rF s queue t):=by
 unfold mI rF
 repeat' (first | (with_reducible first | exact jT _ | apply ad | apply ae | apply ab | apply ag | apply aj | refine ai ?_ _ | exact ah _) | (intro _) | exact af | (dsimp only))
def sX (s : State) (queue : List UInt8) : Option (List Int) :=
 (itr 4096 (mI s queue) ([],0)).bind fun l2 =>
 (oP l2 (fun a' => wz a'.1 a'.2.1)).bind fun x2 =>
 (mkl 8 (x2.length : Int) (x2.length : Int) 0).bind fun l3 =>
 (itr 4096 (mH x2) (l3,0)).bind fun out =>
 some out
theorem EK (s : State) (queue : List UInt8) : Lo (sX s queue) (rX s queue):=by
 unfold sX rX
 repeat' (first | (with_reducible first | exact AN _ _ _ | refine CH _ _ _ ?_ | exact Cl _ _ | exact AZ _ _ | apply ad | apply ae | apply ab | apply ag | apply aj | refine ai ?_ _ | exact ah _) | (intro _) | exact af | (dsimp only))
def dR (first : Bool) (may : (TupT fam [.st 5,.st 4] → Option Bool)) (x5 : List Ask) (t3 : Attempt × Cont × App × Int) : Option ((Attempt × Cont × App × Int) ⊕ ((Attempt × Int × Cont) ⊕ (Attempt × Cont))) :=
 bif decide (t3.2.2.2 < (x5.length : Int)) then
 (
  (inb t3.2.2.2 x5.length).bind fun i1 =>
  (x5[i1]?).bind fun x6 =>
  (iv t3.1 t3.2.2.1 x6).bind fun due =>
  (
  (gi t3.1 x6).bind fun x7 =>
  bif ! x7 then
   some true
  else
   bif first then
   some (! due)
   else
   some false).bind fun q =>
  bif q then
  some (.inl (t3.1,t3.2.1,t3.2.2.1))
  else
  (may (x6,t3.1.n,())).bind fun r =>
  bif ! r then
   bif first == due then
   none
   else
   some (.inl (t3.1,t3.2.1,t3.2.2.1))
  else
   (ie t3.1 t3.2.2.1 x6).bind fun x8 =>
   bif ! x8 then
   some (.inl (t3.1,t3.2.1,t3.2.2.1))
   else
   (gD t3.1 x6).bind fun x9 =>
   bif x9 then
    (gc t3.1 t3.2.2.1 x6).bind fun x10 =>
    some (.inr (x10.2,1,x10.1))
   else
    bif first then
    none
    else
    some (.inl (t3.1,t3.2.1,t3.2.2.1)) : Option ((Attempt × Cont × App) ⊕ (Attempt × Int × Cont))).bind fun q0 =>
 match q0 with
 | .inl q1 =>
  some (.inl (q1.1,q1.2.1,q1.2.2,w64 (t3.2.2.2 + 1)))
 | .inr q2 =>
  some (.inr (.inl (q2.1,q2.2.1,q2.2.2)))
 else
 some (.inr (.inr (t3.1,t3.2.1)))
theorem rn (first : Bool) (may may_' : (TupT fam [.st 5,.st 4] → Option Bool)) (h_may : ∀ a,Lo (may a) (may_' a)) (x5 : List Ask) (t3 : Attempt × Cont × App × Int) : Lo (dR first may x5 t3) (eL first may_' x5 t3):=by
 unfold dR eL
 repeat' (first | (with_reducible first | exact wo _ _ _ | exact uN _ _ | exact vR _ _ _ | exact vT _ _ | exact uB _ _ _ | exact h_may _ | apply ad | apply ae | apply ab | apply ag | apply aj | refine ai ?_ _ | exact ah _) | (intro _) | exact af | (dsimp only))
def dW (first : Bool) (may : (TupT fam [.st 5,.st 4] → Option Bool)) (x1 : List Int) (t2 : Attempt × Cont × Int) : Option ((Attempt × Cont × Int) ⊕ ((Attempt × Int × Cont) ⊕ (Attempt × Cont) ⊕ (Attempt × Cont))) :=
 bif decide (t2.2.2 < (x1.length : Int)) then
 (
  (inb t2.2.2 x1.length).bind fun i =>
  (x1[i]?).bind fun x2 =>
  (fS t2.1.s x2).bind fun x3 =>
  bif ! x3.2 then
  some (.inr (.inr (t2.1,t2.2.1)))
  else
  (gF t2.1 x3.1).bind fun x4 =>
  bif ! x4 then
   some (.inl (t2.1,t2.2.1))
  else
   (m8 x3.1.Asks).bind fun x5 =>
   (itr 4096 (dR first may x5) (t2.1,t2.2.1,x3.1,0)).bind fun q0 =>
   match q0 with
   | .inl q3 =>
   some (.inr (.inl (q3.1,q3.2.1,q3.2.2)))
   | .inr q4 =>
   some (.inl (q4.1,q4.2)) : Option ((Attempt × Cont) ⊕ (Attempt × Int × Cont) ⊕ (Attempt × Cont))).bind fun q0 =>
 match q0 with
 | .inl q5 =>
  some (.inl (q5.1,q5.2,w64 (t2.2.2 + 1)))
 | .inr (.inl q6) =>
  some (.inr (.inl (q6.1,q6.2.1,q6.2.2)))
 | .inr (.inr q7) =>
  some (.inr (.inr (.inl (q7.1,q7.2))))
 else
 some (.inr (.inr (.inr (t2.1,t2.2.1))))
theorem qX (first : Bool) (may may_' : (TupT fam [.st 5,.st 4] → Option Bool)) (h_may : ∀ a,Lo (may a) (may_' a)) (x1 : List Int) (t2 : Attempt × Cont × Int) : Lo (dW first may x1 t2) (eV first may_' x1 t2):=by
 unfold dW eV
 repeat' (first | (with_reducible first | exact j9 _ _ | exact vD _ _ | exact vV _ | refine rn _ _ _ ?_ _ _ | exact h_may _ | apply ad | apply ae | apply ab | apply ag | apply aj | refine ai ?_ _ | exact ah _) | (intro _) | exact af | (dsimp only))
def dN (leaves : List (List UInt8)) (first : Bool) (may : (TupT fam [.st 5,.st 4] → Option Bool)) (t1 : Attempt × Cont × Int) : Option ((Attempt × Cont × Int) ⊕ ((Attempt × Int × Cont) ⊕ (Attempt × Cont))) :=
 bif decide (t1.2.2 < (leaves.length : Int)) then
 (
  (idx leaves t1.2.2).bind fun x =>
  (sX t1.1.s x).bind fun x1 =>
  (itr 4096 (dW first may x1) (t1.1,t1.2.1,0)).bind fun q0 =>
  match q0 with
  | .inl q8 =>
  some (.inr (q8.1,q8.2.1,q8.2.2))
  | .inr (.inl q9) =>
  some (.inl (q9.1,q9.2))
  | .inr (.inr q10) =>
  some (.inl (q10.1,q10.2)) : Option ((Attempt × Cont) ⊕ (Attempt × Int × Cont))).bind fun q0 =>
 match q0 with
 | .inl q11 =>
  some (.inl (q11.1,q11.2,w64 (t1.2.2 + 1)))
 | .inr q12 =>
  some (.inr (.inl (q12.1,q12.2.1,q12.2.2)))
 else
 some (.inr (.inr (t1.1,t1.2.1)))
theorem rI (leaves : List (List UInt8)) (first : Bool) (may may_' : (TupT fam [.st 5,.st 4] → Option Bool)) (h_may : ∀ a,Lo (may a) (may_' a)) (t1 : Attempt × Cont × Int) : Lo (dN leaves first may t1) (eN leaves first may_' t1):=by
 unfold dN eN
 repeat' (first | (with_reducible first | exact EK _ _ | refine qX _ _ _ ?_ _ _ | exact h_may _ | apply ad | apply ae | apply ab | apply ag | apply aj | refine ai ?_ _ | exact ah _) | (intro _) | exact af | (dsimp only))
def cU (t : Attempt) (leaves : List (List UInt8)) (first : Bool) (may : (TupT fam [.st 5,.st 4] → Option Bool)) : Option (Int × Cont × Attempt) :=
 (itr 4096 (dN leaves first may) (t,(⟨0,0,0,⟨0,0⟩,0,0,false,0⟩ : Cont),0)).bind fun q0 =>
 match q0 with
 | .inl q13 =>
 some (q13.2.1,q13.2.2,q13.1)
 | .inr q14 =>
 some (0,(⟨0,0,0,⟨0,0⟩,0,0,false,0⟩ : Cont),q14.1)
theorem uL (t : Attempt) (leaves : List (List UInt8)) (first : Bool) (may may_' : (TupT fam [.st 5,.st 4] → Option Bool)) (h_may : ∀ a,Lo (may a) (may_' a)) : Lo (cU t leaves first may) (ce t leaves first may_'):=by
 unfold cU ce
 repeat' (first | (with_reducible first | refine rI _ _ _ _ ?_ _ | exact h_may _ | apply ad | apply ae | apply ab | apply ag | apply aj | refine ai ?_ _ | exact ah _) | (intro _) | exact af | (dsimp only))
def eQ (t : Attempt) : Option (Int × Cont × Attempt) :=
 (oY t.s t.n.Label).bind fun leaves =>
 (cU t leaves true (fun a' => pL a'.1 a'.2.1)).bind fun x =>
 bif x.1 != 0 then
 some (x.1,x.2.1,x.2.2)
 else
 (cU x.2.2 leaves false (fun a' => pL a'.1 a'.2.1)).bind fun x1 =>
 some (x1.1,x1.2.1,x1.2.2)
theorem tW (t : Attempt) : Lo (eQ t) (dn t):=by
 unfold eQ dn
 repeat' (first | (with_reducible first | exact Cp _ _ | refine uL _ _ _ _ _ ?_ | exact EV _ _ | apply ad | apply ae | apply ab | apply ag | apply aj | refine ai ?_ _ | exact ah _) | (intro _) | exact af | (dsimp only))
def ua (s : State) (node : Int) : Option (State × Int × Cont) :=
 (bP s []).bind fun x =>
 (g_ s node).bind fun x1 =>
 (
 bif ! x1.2 then
  some true
 else
  bif ! x1.1.Up then
  some true
  else
  bif decide ((s.Conts.length : Int) ≥ 200) then
   some true
  else
   some (decide (s.Seq ≥ 1048575))).bind fun q =>
 bif q then
 some (x,0,(⟨0,0,0,⟨0,0⟩,0,0,false,0⟩ : Cont))
 else
 (sS s node).bind fun x2 =>
 (g9 (⟨⟨⟨x.Conf.Labels,x.Conf.Queues⟩,x.Nodes,x.Apps,x.Conts,x.Slots,x.Plans,x.Now,x.Epoch,x.Seq⟩,⟨x1.1.Id,x1.1.Label,x1.1.Rack,⟨x1.1.Cap.Mem,x1.1.Cap.Cores⟩,x1.1.Seen,x1.1.Beat,x1.1.Up⟩,⟨x2.Mem,x2.Cores⟩⟩ : Attempt)).bind fun x3 =>
 (
  bif ! x3.2.2.1 then
  (eQ x3.2.2.2).bind fun x4 =>
  some (x4.1,x4.2.1,x4.2.2)
  else
  some (x3.1,x3.2.1,x3.2.2.2)).bind fun q1 =>
 (bP q1.2.2.s []).bind fun x5 =>
 some (x5,q1.1,q1.2.1)
theorem EC (s : State) (node : Int) : Lo (ua s node) (sa s node):=by
 unfold ua sa
 repeat' (first | (with_reducible first | exact gO _ _ | exact lw _ _ | exact Em _ _ | exact vm _ | exact tW _ | apply ad | apply ae | apply ab | apply ag | apply aj | refine ai ?_ _ | exact ah _) | (intro _) | exact af | (dsimp only))
def lY (node : Int) (t : State × List Cont) : Option ((State × List Cont) ⊕ ((State × List Cont))) :=
 bif decide ((t.2.length : Int) < 3) then
 (ua t.1 node).bind fun x1 =>
 bif x1.2.1 != 1 then
  some (.inr (x1.1,t.2))
 else
  (app 72 t.2 [x1.2.2]).bind fun l =>
  some (.inl (x1.1,l))
 else
 some (.inr (t.1,t.2))
theorem z8 (node : Int) (t : State × List Cont) : Lo (lY node t) (pI node t):=by
 unfold lY pI
 repeat' (first | (with_reducible first | exact EC _ _ | apply ad | apply ae | apply ab | apply ag | apply aj | refine ai ?_ _ | exact ah _) | (intro _) | exact af | (dsimp only))
def qV (s : State) (node : Int) : Option (State × List Cont) :=
 (bP s []).bind fun x =>
 (itr 4096 (lY node) (x,[])).bind fun q =>
 some (q.1,q.2)
theorem CU (s : State) (node : Int) : Lo (qV s node) (qf s node):=by
 unfold qV qf
 repeat' (first | (with_reducible first | exact gO _ _ | exact z8 _ _ | apply ad | apply ae | apply ab | apply ag | apply aj | refine ai ?_ _ | exact ah _) | (intro _) | exact af | (dsimp only))
def jp (t : Step) : Option (Output × Step) :=
 (g_ t.s t.x.Id).bind fun x =>
 (
 bif x.2 then
  bif x.1.Up then
  some (t.x.Beat == x.1.Beat)
  else
  some false
 else
  some false).bind fun q =>
 bif q then
 (dA t x.1.Id).bind fun x1 =>
 some ((⟨0,[],x1,[],0⟩ : Output),t)
 else
 (tY t.s t.x.Id t.x.Beat).bind fun x2 =>
 bif x2.2 != 0 then
  none
 else
  (dA t x.1.Id).bind fun x3 =>
  (bZ t.x.Ids).bind fun x4 =>
  (cm x4 (fun a' => ml a'.1 x3)).bind fun ended =>
  (bP x2.1 ended).bind fun x5 =>
  (qV x5 x.1.Id).bind fun x6 =>
  (dA (⟨⟨⟨x6.1.Conf.Labels,x6.1.Conf.Queues⟩,x6.1.Nodes,x6.1.Apps,x6.1.Conts,x6.1.Slots,x6.1.Plans,x6.1.Now,x6.1.Epoch,x6.1.Seq⟩,⟨t.x.Kind,t.x.Id,t.x.Beat,t.x.N,t.x.Text,⟨t.x.Node.Id,t.x.Node.Label,t.x.Node.Rack,⟨t.x.Node.Cap.Mem,t.x.Node.Cap.Cores⟩,t.x.Node.Seen,t.x.Node.Beat,t.x.Node.Up⟩,⟨t.x.App.Id,t.x.App.State,t.x.App.Queue,t.x.App.User,t.x.App.Prio,⟨t.x.App.Master.Mem,t.x.App.Master.Cores⟩,t.x.App.Asks,t.x.App.Seen,t.x.App.Beat,t.x.App.Grants,t.x.App.Kills,t.x.App.Told,t.x.App.Lost⟩,t.x.Asks,t.x.Ids,⟨t.x.Plan.Id,t.x.Plan.Label,t.x.Plan.From,t.x.Plan.Until,⟨t.x.Plan.Need.Mem,t.x.Plan.Need.Cores⟩⟩⟩⟩ : Step) x.1.Id).bind fun x7 =>
  some ((⟨0,[],x7,[],0⟩ : Output),(⟨⟨⟨x6.1.Conf.Labels,x6.1.Conf.Queues⟩,x6.1.Nodes,x6.1.Apps,x6.1.Conts,x6.1.Slots,x6.1.Plans,x6.1.Now,x6.1.Epoch,x6.1.Seq⟩,⟨t.x.Kind,t.x.Id,t.x.Beat,t.x.N,t.x.Text,⟨t.x.Node.Id,t.x.Node.Label,t.x.Node.Rack,⟨t.x.Node.Cap.Mem,t.x.Node.Cap.Cores⟩,t.x.Node.Seen,t.x.Node.Beat,t.x.Node.Up⟩,⟨t.x.App.Id,t.x.App.State,t.x.App.Queue,t.x.App.User,t.x.App.Prio,⟨t.x.App.Master.Mem,t.x.App.Master.Cores⟩,t.x.App.Asks,t.x.App.Seen,t.x.App.Beat,t.x.App.Grants,t.x.App.Kills,t.x.App.Told,t.x.App.Lost⟩,t.x.Asks,t.x.Ids,⟨t.x.Plan.Id,t.x.Plan.Label,t.x.Plan.From,t.x.Plan.Until,⟨t.x.Plan.Need.Mem,t.x.Plan.Need.Cores⟩⟩⟩⟩ : Step))
theorem xj (t : Step) : Lo (jp t) (gm t):=by
 unfold jp gm
 repeat' (first | (with_reducible first | exact lw _ _ | exact yq _ _ | exact EA _ _ _ | exact iR _ | refine mz _ _ _ ?_ | exact vp _ _ | exact gO _ _ | exact CU _ _ | apply ad | apply ae | apply ab | apply ag | apply aj | refine ai ?_ _ | exact ah _) | (intro _) | exact af | (dsimp only))
def rR (del : (TupT fam [.st 5] → Option Bool)) (t : List Ask × Int × Int) : Option ((List Ask × Int × Int) ⊕ ((List Ask × Int))):=none
theorem zu (del del_' : (TupT fam [.st 5] → Option Bool)) (h_del : ∀ a,Lo (del a) (del_' a)) (t : List Ask × Int × Int) : Lo (rR del t) (uZ del_' t):=af
def oD (s : List Ask) (del : (TupT fam [.st 5] → Option Bool)) : Option (List Ask) :=
 (kq s del).bind fun i =>
 bif i == (-1) then
 some s
 else
 (itr 4096 (rR del) (s,i,w64 (i + 1))).bind fun q1 =>
 (inS q1.2 (q1.1.length : Int) q1.1.length).bind fun p =>
 (inS 0 q1.2 (cpy q1.1 p.1 p.2 (List.replicate p.2 (⟨0,0,⟨0,0⟩,0,0,0,0⟩ : Ask))).length).bind fun p1 =>
 some (List.take p1.2 (cpy q1.1 p.1 p.2 (List.replicate p.2 (⟨0,0,⟨0,0⟩,0,0,0,0⟩ : Ask))))
theorem Cv (s : List Ask) (del del_' : (TupT fam [.st 5] → Option Bool)) (h_del : ∀ a,Lo (del a) (del_' a)) : Lo (oD s del) (nI s del_'):=by
 unfold oD nI
 repeat' (first | (with_reducible first | refine uU _ _ _ ?_ | refine zu _ _ ?_ _ | exact h_del _ | apply ad | apply ae | apply ab | apply ag | apply aj | refine ai ?_ _ | exact ah _) | (intro _) | exact af | (dsimp only))
def yW (_a0 : Ask) (_a1 : Ask) : Option Bool:=none
theorem Ek (_a0 : Ask) (_a1 : Ask) : Lo (yW _a0 _a1) (xi _a0 _a1):=af
def oO (s : List Ask) (i : Int) (v : List Ask) : Option (List Ask):=ins s i v
theorem Cf (s : List Ask) (i : Int) (v : List Ask) : Lo (oO s i v) (nT s i v):=by
 unfold oO nT
 repeat' (first | (with_reducible first | apply ad | apply ae | apply ab | apply ag | apply aj | refine ai ?_ _ | exact ah _) | (intro _) | exact af | (dsimp only))
def qI (a : Ask) (out : List Ask) (k : Int) : Option (Int ⊕ Int) :=
 (
 bif decide (k < (out.length : Int)) then
  (inb k out.length).bind fun i =>
  (out[i]?).bind fun x1 =>
  some (decide (x1.Prio < a.Prio))
 else
  some false).bind fun q =>
 bif q then
 some (.inl (w64 (k + 1)))
 else
 some (.inr k)
theorem DH (a : Ask) (out : List Ask) (k : Int) : Lo (qI a out k) (vh a out k):=by
 unfold qI vh
 repeat' (first | (with_reducible first | apply ad | apply ae | apply ab | apply ag | apply aj | refine ai ?_ _ | exact ah _) | (intro _) | exact af | (dsimp only))
def si (l : List Ask) (a : Ask) : Option (List Ask × Int) :=
 (sr l).bind fun x =>
 (oD x (fun a' => yW a'.1 a)).bind fun out =>
 bif a.Count == 0 then
 some (out,0)
 else
 bif decide ((out.length : Int) ≥ 8) then
  some ([],4)
 else
  (itr 4096 (qI a out) 0).bind fun k1 =>
  (oO out k1 [(⟨a.Prio,a.Label,⟨a.Size.Mem,a.Size.Cores⟩,a.Count,a.Node,a.Rack,0⟩ : Ask)]).bind fun x2 =>
  some (x2,0)
theorem Au (l : List Ask) (a : Ask) : Lo (si l a) (ud l a):=by
 unfold si ud
 repeat' (first | (with_reducible first | exact Al _ | refine Cv _ _ _ ?_ | exact Ek _ _ | exact DH _ _ _ | exact Cf _ _ _ | apply ad | apply ae | apply ab | apply ag | apply aj | refine ai ?_ _ | exact ah _) | (intro _) | exact af | (dsimp only))
def ux (a : App) : Option (List Ask) :=
 (si [] (⟨0,0,⟨a.Master.Mem,a.Master.Cores⟩,1,(-1),(-1),0⟩ : Ask)).bind fun x =>
 some x.1
theorem Et (a : App) : Lo (ux a) (so a):=by
 unfold ux so
 repeat' (first | (with_reducible first | exact Au _ _ | apply ad | apply ae | apply ab | apply ag | apply aj | refine ai ?_ _ | exact ah _) | (intro _) | exact af | (dsimp only))
def du (n : Int) (least : Int) (most : Int) : Option Bool :=
 bif decide (n ≥ least) then
 some (decide (n ≤ most))
 else
 some false
theorem DE (n : Int) (least : Int) (most : Int) : Lo (du n least most) (d9 n least most):=by
 unfold du d9
 repeat' (first | (with_reducible first | apply ad | apply ae | apply ab | apply ag | apply aj | refine ai ?_ _ | exact ah _) | (intro _) | exact af | (dsimp only))
def pn (l : List App) (t : Int × Int) : Option ((Int × Int) ⊕ Int) :=
 bif decide (t.2 < (l.length : Int)) then
 (
  (idx l t.2).bind fun x =>
  (gj x).bind fun x1 =>
  bif x1 then
  some (w64 (t.1 + 1))
  else
  some t.1).bind fun n =>
 some (.inl (n,w64 (t.2 + 1)))
 else
 some (.inr t.1)
theorem BN (l : List App) (t : Int × Int) : Lo (pn l t) (sP l t):=by
 unfold pn sP
 repeat' (first | (with_reducible first | exact jT _ | apply ad | apply ae | apply ab | apply ag | apply aj | refine ai ?_ _ | exact ah _) | (intro _) | exact af | (dsimp only))
def vn (l : List App) : Option Int :=
 (itr 4096 (pn l) (0,0)).bind fun n1 =>
 some n1
theorem Fb (l : List App) : Lo (vn l) (u_ l):=by
 unfold vn u_
 repeat' (first | (with_reducible first | exact BN _ _ | apply ad | apply ae | apply ab | apply ag | apply aj | refine ai ?_ _ | exact ah _) | (intro _) | exact af | (dsimp only))
def As (_a0 : App) : Option Bool:=none
theorem Gi (_a0 : App) : Lo (As _a0) (yx _a0):=af
def rj (s : State) (a : App) : Option (State × Int) :=
 (nH s).bind fun x =>
 (
 (du a.Id 0 9999).bind fun x1 =>
 bif ! x1 then
  some true
 else
  (du a.User 0 99).bind fun x2 =>
  bif ! x2 then
  some true
  else
  (du a.Prio 0 9).bind fun x3 =>
  bif ! x3 then
   some true
  else
   (du a.Master.Mem 1 1073741824).bind fun x4 =>
   bif ! x4 then
   some true
   else
   (du a.Master.Cores 1 1073741824).bind fun x5 =>
   some (! x5)).bind fun q =>
 bif q then
 some (x,1)
 else
 (ms x a.Id).bind fun x6 =>
 bif decide (x6 ≥ 0) then
  some (x,7)
 else
  (vn x.Apps).bind fun x7 =>
  bif decide (x7 ≥ 16) then
  some (x,4)
  else
  (pY x.Conf a.Queue).bind fun x8 =>
  bif ! x8 then
   some (x,19)
  else
   (nV x.Apps (fun a' => As a'.1)).bind fun k =>
   (
   bif decide ((x.Apps.length : Int) ≥ 16) then
    some (decide (k ≥ 0))
   else
    some false).bind fun q1 =>
   bif q1 then
   none
   else
   (ux (⟨a.Id,1,a.Queue,a.User,a.Prio,⟨a.Master.Mem,a.Master.Cores⟩,[],x.Now,0,[],[],[],[]⟩ : App)).bind fun x9 =>
   (sD x (⟨a.Id,1,a.Queue,a.User,a.Prio,⟨a.Master.Mem,a.Master.Cores⟩,x9,x.Now,0,[],[],[],[]⟩ : App)).bind fun x10 =>
   some (x10,0)
theorem De (s : State) (a : App) : Lo (rj s a) (pN s a):=by
 unfold rj pN
 repeat' (first | (with_reducible first | exact xO _ | exact DE _ _ _ | exact sn _ _ | exact Fb _ | exact ym _ _ | refine vC _ _ _ ?_ | exact Gi _ | exact Et _ | exact Ax _ _ | apply ad | apply ae | apply ab | apply ag | apply aj | refine ai ?_ _ | exact ah _) | (intro _) | exact af | (dsimp only))
def fb (t : Step) (x : Int) (t2 : List Cont × Int) : Option ((List Cont × Int) ⊕ List Cont) :=
 bif decide (t2.2 < (t.s.Conts.length : Int)) then
 (
  (idx t.s.Conts t2.2).bind fun x1 =>
  bif x1.Id == x then
  (app 72 t2.1 [x1]).bind fun l =>
  some l
  else
  some t2.1).bind fun out =>
 some (.inl (out,w64 (t2.2 + 1)))
 else
 some (.inr t2.1)
theorem tK (t : Step) (x : Int) (t2 : List Cont × Int) : Lo (fb t x t2) (gz t x t2):=by
 unfold fb gz
 repeat' (first | (with_reducible first | apply ad | apply ae | apply ab | apply ag | apply aj | refine ai ?_ _ | exact ah _) | (intro _) | exact af | (dsimp only))
def eO (t : Step) (ids : List Int) (t1 : List Cont × Int) : Option ((List Cont × Int) ⊕ List Cont) :=
 bif decide (t1.2 < (ids.length : Int)) then
 (idx ids t1.2).bind fun x =>
 (itr 4096 (fb t x) (t1.1,0)).bind fun out1 =>
 some (.inl (out1,w64 (t1.2 + 1)))
 else
 some (.inr t1.1)
theorem tU (t : Step) (ids : List Int) (t1 : List Cont × Int) : Lo (eO t ids t1) (gN t ids t1):=by
 unfold eO gN
 repeat' (first | (with_reducible first | exact tK _ _ _ | apply ad | apply ae | apply ab | apply ag | apply aj | refine ai ?_ _ | exact ah _) | (intro _) | exact af | (dsimp only))
def cg (t : Step) (ids : List Int) : Option (List Cont) :=
 (itr 4096 (eO t ids) ([],0)).bind fun out2 =>
 some out2
theorem mj (t : Step) (ids : List Int) : Lo (cg t ids) (bX t ids):=by
 unfold cg bX
 repeat' (first | (with_reducible first | exact tU _ _ _ | apply ad | apply ae | apply ab | apply ag | apply aj | refine ai ?_ _ | exact ah _) | (intro _) | exact af | (dsimp only))
def dI (t : Step) (app_ : Int) (t1 : List Int × Int) : Option ((List Int × Int) ⊕ List Int) :=
 bif decide (t1.2 < (t.s.Conts.length : Int)) then
 (
  (idx t.s.Conts t1.2).bind fun x =>
  (
  bif x.App == app_ then
   some (x.Notice != 0)
  else
   some false).bind fun q =>
  bif q then
  (app 8 t1.1 [x.Id]).bind fun l =>
  some l
  else
  some t1.1).bind fun out =>
 some (.inl (out,w64 (t1.2 + 1)))
 else
 some (.inr t1.1)
theorem rE (t : Step) (app_ : Int) (t1 : List Int × Int) : Lo (dI t app_ t1) (fd t app_ t1):=by
 unfold dI fd
 repeat' (first | (with_reducible first | apply ad | apply ae | apply ab | apply ag | apply aj | refine ai ?_ _ | exact ah _) | (intro _) | exact af | (dsimp only))
def cT (t : Step) (app_ : Int) : Option (List Int) :=
 (itr 4096 (dI t app_) ([],0)).bind fun out1 =>
 some out1
theorem uC (t : Step) (app_ : Int) : Lo (cT t app_) (b_ t app_):=by
 unfold cT b_
 repeat' (first | (with_reducible first | exact rE _ _ _ | apply ad | apply ae | apply ab | apply ag | apply aj | refine ai ?_ _ | exact ah _) | (intro _) | exact af | (dsimp only))
def be (s : List Int) (f : (TupT fam [.int .i64] → Option Bool)) : Option Bool :=
 (bz s f).bind fun x =>
 some (decide (x ≥ 0))
theorem dZ (s : List Int) (f f_' : (TupT fam [.int .i64] → Option Bool)) (h_f : ∀ a,Lo (f a) (f_' a)) : Lo (be s f) (aZ s f_'):=by
 unfold be aZ
 repeat' (first | (with_reducible first | refine fK _ _ _ ?_ | exact h_f _ | apply ad | apply ae | apply ab | apply ag | apply aj | refine ai ?_ _ | exact ah _) | (intro _) | exact af | (dsimp only))
def sI (n : Int) (p : Int) (p1 : Int) : Option Bool :=
 bif decide (n < p) then
 some true
 else
 some (decide (n > p1))
theorem EJ (n : Int) (p : Int) (p1 : Int) : Lo (sI n p p1) (se n p p1):=by
 unfold sI se
 repeat' (first | (with_reducible first | apply ad | apply ae | apply ab | apply ag | apply aj | refine ai ?_ _ | exact ah _) | (intro _) | exact af | (dsimp only))
def cQ (least : Int) (most : Int) (l : List Int) : Option Bool :=
 (be l (fun a' => sI a'.1 least most)).bind fun x =>
 some (! x)
theorem Ap (least : Int) (most : Int) (l : List Int) : Lo (cQ least most l) (eu least most l):=by
 unfold cQ eu
 repeat' (first | (with_reducible first | refine dZ _ _ _ ?_ | exact EJ _ _ _ | apply ad | apply ae | apply ab | apply ag | apply aj | refine ai ?_ _ | exact ah _) | (intro _) | exact af | (dsimp only))
def uz (a : Ask) (labels : Int) : Option Int :=
 (
 (cQ 0 9 [a.Prio]).bind fun x =>
 bif ! x then
  some true
 else
  (cQ 0 (w64 (labels - 1)) [a.Label]).bind fun x1 =>
  bif ! x1 then
  some true
  else
  (cQ 1 1073741824 [a.Size.Mem,a.Size.Cores]).bind fun x2 =>
  bif ! x2 then
   some true
  else
   (cQ (-1) 999 [a.Node]).bind fun x3 =>
   bif ! x3 then
   some true
   else
   (cQ (-1) 99 [a.Rack]).bind fun x4 =>
   bif ! x4 then
    some true
   else
    bif a.Node != (-1) then
    some (a.Rack == (-1))
    else
    some false).bind fun q =>
 bif q then
 some 1
 else
 (cQ 0 50 [a.Count]).bind fun x5 =>
 bif ! x5 then
  some 4
 else
  some 0
theorem EB (a : Ask) (labels : Int) : Lo (uz a labels) (r7 a labels):=by
 unfold uz r7
 repeat' (first | (with_reducible first | exact Ap _ _ _ | apply ad | apply ae | apply ab | apply ag | apply aj | refine ai ?_ _ | exact ah _) | (intro _) | exact af | (dsimp only))
def my (_a0 : Cont) (_a1 : Int) (_a2 : App) : Option Bool:=none
theorem vr (_a0 : Cont) (_a1 : Int) (_a2 : App) : Lo (my _a0 _a1 _a2) (jc _a0 _a1 _a2):=af
def fU (t : Step) (a : App) (ids : List Int) (t1 : Int) : Option (Int ⊕ Unit) :=
 bif decide (t1 < (ids.length : Int)) then
 (idx ids t1).bind fun x =>
 (f_ t.s.Conts (fun a' => my a'.1 x a)).bind fun i =>
 bif decide (i ≥ 0) then
  none
 else
  some (.inl (w64 (t1 + 1)))
 else
 some (.inr ())
theorem uI (t : Step) (a : App) (ids : List Int) (t1 : Int) : Lo (fU t a ids t1) (iQ t a ids t1):=by
 unfold fU iQ
 repeat' (first | (with_reducible first | refine jE _ _ _ ?_ | exact vr _ _ _ | apply ad | apply ae | apply ab | apply ag | apply aj | refine ai ?_ _ | exact ah _) | (intro _) | exact af | (dsimp only))
def ju (t : Step) (a : App) (ids : List Int) : Option (App × Step) :=
 (itr 4096 (fU t a ids) 0).bind fun _ =>
 some (a,t)
theorem xd (t : Step) (a : App) (ids : List Int) : Lo (ju t a ids) (go t a ids):=by
 unfold ju go
 repeat' (first | (with_reducible first | exact uI _ _ _ _ | apply ad | apply ae | apply ab | apply ag | apply aj | refine ai ?_ _ | exact ah _) | (intro _) | exact af | (dsimp only))
def eh (t : Step) (t1 : App × Int) : Option ((App × Int) ⊕ App) :=
 bif decide (t1.2 < (t.x.Asks.length : Int)) then
 (idx t.x.Asks t1.2).bind fun x3 =>
 (uz x3 (t.s.Conf.Labels.length : Int)).bind fun e =>
 (
  bif e == 0 then
  (si t1.1.Asks x3).bind fun x4 =>
  some ((⟨t1.1.Id,t1.1.State,t1.1.Queue,t1.1.User,t1.1.Prio,⟨t1.1.Master.Mem,t1.1.Master.Cores⟩,x4.1,t1.1.Seen,t1.1.Beat,t1.1.Grants,t1.1.Kills,t1.1.Told,t1.1.Lost⟩ : App),x4.2)
  else
  some (t1.1,e)).bind fun q =>
 bif q.2 != 0 then
  none
 else
  some (.inl (q.1,w64 (t1.2 + 1)))
 else
 some (.inr t1.1)
theorem su (t : Step) (t1 : App × Int) : Lo (eh t t1) (fR t t1):=by
 unfold eh fR
 repeat' (first | (with_reducible first | exact EB _ _ | exact Au _ _ | apply ad | apply ae | apply ab | apply ag | apply aj | refine ai ?_ _ | exact ah _) | (intro _) | exact af | (dsimp only))
def gV (t : Step) : Option (Output × Step) :=
 (fS t.s t.x.Id).bind fun x =>
 bif ! x.2 then
 none
 else
 bif x.1.State != 2 then
  none
 else
  bif decide (t.x.Beat < x.1.Beat) then
  none
  else
  bif decide ((w64 (t.x.Beat - x.1.Beat)) > 1) then
   none
  else
   bif t.x.Beat == x.1.Beat then
   (cg t x.1.Told).bind fun x1 =>
   (cT t x.1.Id).bind fun x2 =>
   some ((⟨0,x1,x2,x.1.Lost,0⟩ : Output),t)
   else
   (itr 4096 (eh t) (x.1,0)).bind fun a =>
   (ju t a t.x.Ids).bind fun x5 =>
   (cg x5.2 x5.1.Grants).bind fun x6 =>
   (cT x5.2 x5.1.Id).bind fun x7 =>
   (bZ x5.1.Kills).bind fun x8 =>
   (rU x5.2.s (⟨x5.1.Id,x5.1.State,x5.1.Queue,x5.1.User,x5.1.Prio,⟨x5.1.Master.Mem,x5.1.Master.Cores⟩,x5.1.Asks,x5.2.s.Now,w64 (x5.1.Beat + 1),[],[],x5.1.Grants,x5.1.Kills⟩ : App)).bind fun x9 =>
   some ((⟨0,x6,x7,x8,0⟩ : Output),(⟨⟨⟨x9.Conf.Labels,x9.Conf.Queues⟩,x9.Nodes,x9.Apps,x9.Conts,x9.Slots,x9.Plans,x9.Now,x9.Epoch,x9.Seq⟩,⟨x5.2.x.Kind,x5.2.x.Id,x5.2.x.Beat,x5.2.x.N,x5.2.x.Text,⟨x5.2.x.Node.Id,x5.2.x.Node.Label,x5.2.x.Node.Rack,⟨x5.2.x.Node.Cap.Mem,x5.2.x.Node.Cap.Cores⟩,x5.2.x.Node.Seen,x5.2.x.Node.Beat,x5.2.x.Node.Up⟩,⟨x5.2.x.App.Id,x5.2.x.App.State,x5.2.x.App.Queue,x5.2.x.App.User,x5.2.x.App.Prio,⟨x5.2.x.App.Master.Mem,x5.2.x.App.Master.Cores⟩,x5.2.x.App.Asks,x5.2.x.App.Seen,x5.2.x.App.Beat,x5.2.x.App.Grants,x5.2.x.App.Kills,x5.2.x.App.Told,x5.2.x.App.Lost⟩,x5.2.x.Asks,x5.2.x.Ids,⟨x5.2.x.Plan.Id,x5.2.x.Plan.Label,x5.2.x.Plan.From,x5.2.x.Plan.Until,⟨x5.2.x.Plan.Need.Mem,x5.2.x.Plan.Need.Cores⟩⟩⟩⟩ : Step))
theorem vJ (t : Step) : Lo (gV t) (eE t):=by
 unfold gV eE
 repeat' (first | (with_reducible first | exact j9 _ _ | exact mj _ _ | exact uC _ _ | exact su _ _ | exact xd _ _ _ | exact iR _ | exact Am _ _ | apply ad | apply ae | apply ab | apply ag | apply aj | refine ai ?_ _ | exact ah _) | (intro _) | exact af | (dsimp only))
def kP (s : State) (t : List Int × Int) : Option ((List Int × Int) ⊕ List Int) :=
 bif decide (t.2 < (s.Nodes.length : Int)) then
 (
  (idx s.Nodes t.2).bind fun x =>
  (
  bif x.Up then
   some (decide ((w64 (s.Now - x.Seen)) ≥ 10))
  else
   some false).bind fun q =>
  bif q then
  (app 8 t.1 [x.Id]).bind fun l =>
  some l
  else
  some t.1).bind fun out =>
 some (.inl (out,w64 (t.2 + 1)))
 else
 some (.inr t.1)
theorem yj (s : State) (t : List Int × Int) : Lo (kP s t) (m9 s t):=by
 unfold kP m9
 repeat' (first | (with_reducible first | apply ad | apply ae | apply ab | apply ag | apply aj | refine ai ?_ _ | exact ah _) | (intro _) | exact af | (dsimp only))
def pe (s : State) : Option (List Int) :=
 (itr 4096 (kP s) ([],0)).bind fun out1 =>
 some out1
theorem BP (s : State) : Lo (pe s) (mG s):=by
 unfold pe mG
 repeat' (first | (with_reducible first | exact yj _ _ | apply ad | apply ae | apply ab | apply ag | apply aj | refine ai ?_ _ | exact ah _) | (intro _) | exact af | (dsimp only))
def me (s : State) (t : List Ent2_IntInt × List Int × Int) : Option ((List Ent2_IntInt × List Int × Int) ⊕ List Int) :=
 bif decide (t.2.2 < (s.Apps.length : Int)) then
 (
  (idx s.Apps t.2.2).bind fun x =>
  let e:=mget (fun x1 => x.Id == x1.k) t.1 (⟨x.Id,0⟩ : Ent2_IntInt)
  (
  bif x.State == 2 then
   let e1:=mget (fun x3 => x.Id == x3.k) (mput (fun x2 => x.Id == x2.k) t.1 (⟨x.Id,w64 (e.v + 1)⟩ : Ent2_IntInt)) (⟨x.Id,0⟩ : Ent2_IntInt)
   bif e1.v == 1 then
   some (decide ((w64 (s.Now - x.Seen)) ≥ 15))
   else
   some false
  else
   some false).bind fun q =>
  bif q then
  (app 8 t.2.1 [x.Id]).bind fun l =>
  some (mput (fun x2 => x.Id == x2.k) t.1 (⟨x.Id,w64 (e.v + 1)⟩ : Ent2_IntInt),l)
  else
  some (mput (fun x2 => x.Id == x2.k) t.1 (⟨x.Id,w64 (e.v + 1)⟩ : Ent2_IntInt),t.2.1)).bind fun q1 =>
 some (.inl (q1.1,q1.2,w64 (t.2.2 + 1)))
 else
 some (.inr t.2.1)
theorem Aj (s : State) (t : List Ent2_IntInt × List Int × Int) : Lo (me s t) (oK s t):=by
 unfold me oK
 repeat' (first | (with_reducible first | apply ad | apply ae | apply ab | apply ag | apply aj | refine ai ?_ _ | exact ah _) | (intro _) | exact af | (dsimp only))
def qZ (s : State) : Option (List Int) :=
 (itr 4096 (me s) ([],[],0)).bind fun out =>
 some out
theorem Dh (s : State) : Lo (qZ s) (pT s):=by
 unfold qZ pT
 repeat' (first | (with_reducible first | exact Aj _ _ | apply ad | apply ae | apply ab | apply ag | apply aj | refine ai ?_ _ | exact ah _) | (intro _) | exact af | (dsimp only))
def jQ (s : List Plan) (f : (TupT fam [.st 9] → Option Bool)) (t : Int) : Option (Int ⊕ (Int ⊕ Unit)) :=
 bif decide (t < (s.length : Int)) then
 (idx s t).bind fun x =>
 (f (x,())).bind fun r =>
 bif r then
  some (.inr (.inl t))
 else
  some (.inl (w64 (t + 1)))
 else
 some (.inr (.inr ()))
theorem xX (s : List Plan) (f f_' : (TupT fam [.st 9] → Option Bool)) (h_f : ∀ a,Lo (f a) (f_' a)) (t : Int) : Lo (jQ s f t) (lZ s f_' t):=by
 unfold jQ lZ
 repeat' (first | (with_reducible first | exact h_f _ | apply ad | apply ae | apply ab | apply ag | apply aj | refine ai ?_ _ | exact ah _) | (intro _) | exact af | (dsimp only))
def jD (s : List Plan) (f : (TupT fam [.st 9] → Option Bool)) : Option Int :=
 (itr 4096 (jQ s f) 0).bind fun q0 =>
 match q0 with
 | .inl q =>
 some q
 | .inr _ =>
 some (-1)
theorem uo (s : List Plan) (f f_' : (TupT fam [.st 9] → Option Bool)) (h_f : ∀ a,Lo (f a) (f_' a)) : Lo (jD s f) (iT s f_'):=by
 unfold jD iT
 repeat' (first | (with_reducible first | refine xX _ _ _ ?_ _ | exact h_f _ | apply ad | apply ae | apply ab | apply ag | apply aj | refine ai ?_ _ | exact ah _) | (intro _) | exact af | (dsimp only))
def jI (del : (TupT fam [.st 9] → Option Bool)) (t : List Plan × Int × Int) : Option ((List Plan × Int × Int) ⊕ ((List Plan × Int))) :=
 bif decide (t.2.2 < (t.1.length : Int)) then
 (
  (inb t.2.2 t.1.length).bind fun i1 =>
  (t.1[i1]?).bind fun x =>
  (del (x,())).bind fun r =>
  bif ! r then
  (inb t.2.1 t.1.length).bind fun i2 =>
  (t.1[i2]?).bind fun x1 =>
  some (List.set t.1 i2 x,w64 (t.2.1 + 1))
  else
  some (t.1,t.2.1)).bind fun q =>
 some (.inl (q.1,q.2,w64 (t.2.2 + 1)))
 else
 some (.inr (t.1,t.2.1))
theorem xW (del del_' : (TupT fam [.st 9] → Option Bool)) (h_del : ∀ a,Lo (del a) (del_' a)) (t : List Plan × Int × Int) : Lo (jI del t) (lX del_' t):=by
 unfold jI lX
 repeat' (first | (with_reducible first | exact h_del _ | apply ad | apply ae | apply ab | apply ag | apply aj | refine ai ?_ _ | exact ah _) | (intro _) | exact af | (dsimp only))
def oh (s : List Plan) (del : (TupT fam [.st 9] → Option Bool)) : Option (List Plan) :=
 (jD s del).bind fun i =>
 bif i == (-1) then
 some s
 else
 (itr 4096 (jI del) (s,i,w64 (i + 1))).bind fun q1 =>
 (inS q1.2 (q1.1.length : Int) q1.1.length).bind fun p =>
 (inS 0 q1.2 (cpy q1.1 p.1 p.2 (List.replicate p.2 (⟨0,0,0,0,⟨0,0⟩⟩ : Plan))).length).bind fun p1 =>
 some (List.take p1.2 (cpy q1.1 p.1 p.2 (List.replicate p.2 (⟨0,0,0,0,⟨0,0⟩⟩ : Plan))))
theorem Bh (s : List Plan) (del del_' : (TupT fam [.st 9] → Option Bool)) (h_del : ∀ a,Lo (del a) (del_' a)) : Lo (oh s del) (lG s del_'):=by
 unfold oh lG
 repeat' (first | (with_reducible first | refine uo _ _ _ ?_ | refine xW _ _ ?_ _ | exact h_del _ | apply ad | apply ae | apply ab | apply ag | apply aj | refine ai ?_ _ | exact ah _) | (intro _) | exact af | (dsimp only))
def gE (p : Plan) (now : Int) : Option Bool:=some (decide (p.Until ≤ now))
theorem vP (p : Plan) (now : Int) : Lo (gE p now) (eC p now):=by
 unfold gE eC
 repeat' (first | (with_reducible first | apply ad | apply ae | apply ab | apply ag | apply aj | refine ai ?_ _ | exact ah _) | (intro _) | exact af | (dsimp only))
def mc (x : Cont) (p : Cont) : Option Bool :=
 some (x.Id == p.Id)
theorem Ab (x : Cont) (p : Cont) : Lo (mc x p) (kz x p):=by
 unfold mc kz
 repeat' (first | (with_reducible first | apply ad | apply ae | apply ab | apply ag | apply aj | refine ai ?_ _ | exact ah _) | (intro _) | exact af | (dsimp only))
def pg (c : Cont) (label : Int) (now : Int) : Option Bool :=
 bif c.Label == label then
 bif c.Notice != 0 then
  some (decide ((w64 (now - c.Notice)) ≥ 3))
 else
  some false
 else
 some false
theorem CC (c : Cont) (label : Int) (now : Int) : Lo (pg c label now) (mO c label now):=by
 unfold pg mO
 repeat' (first | (with_reducible first | apply ad | apply ae | apply ab | apply ag | apply aj | refine ai ?_ _ | exact ah _) | (intro _) | exact af | (dsimp only))
def kQ (s : State) (label : Int) (x1 : Cont) (_t : Unit) : Option Unit :=
 (f_ s.Conts (fun a' => mc a'.1 x1)).bind fun i =>
 (
 bif decide (i < 0) then
  some true
 else
  (inb i s.Conts.length).bind fun i1 =>
  (s.Conts[i1]?).bind fun x2 =>
  (pg x2 label s.Now).bind fun x3 =>
  some (! x3)).bind fun q =>
 bif q then
 some ()
 else
 none
theorem yQ (s : State) (label : Int) (x1 : Cont) (_t : Unit) : Lo (kQ s label x1 _t) (n_ s label x1 _t):=by
 unfold kQ n_
 repeat' (first | (with_reducible first | refine jE _ _ _ ?_ | exact Ab _ _ | exact CC _ _ _ | apply ad | apply ae | apply ab | apply ag | apply aj | refine ai ?_ _ | exact ah _) | (intro _) | exact af | (dsimp only))
def oX (s : State) (label : Int) : Option State :=
 (cp s.Conts).bind fun x =>
 (rgB (kQ s label) x ()).bind fun _ =>
 some s
theorem B_ (s : State) (label : Int) : Lo (oX s label) (ni s label):=by
 unfold oX ni
 repeat' (first | (with_reducible first | exact et _ | exact yQ _ _ _ _ | refine I3 (fun _ _ => ?_) _ _ | apply ad | apply ae | apply ab | apply ag | apply aj | refine ai ?_ _ | exact ah _) | (intro _) | exact af | (dsimp only))
def kV (l : List Ask) (label : Int) (t : Vec × Int) : Option ((Vec × Int) ⊕ Vec) :=
 bif decide (t.2 < (l.length : Int)) then
 (
  (idx l t.2).bind fun x =>
  (
  bif x.Label == label then
   (cQ 0 1125899906842624 [x.Size.Mem,x.Size.Cores]).bind fun x1 =>
   bif x1 then
   (cQ 0 50 [x.Count]).bind fun x2 =>
   some x2
   else
   some false
  else
   some false).bind fun q =>
  bif q then
  some (⟨w64 (t.1.Mem + (w64 (x.Size.Mem * x.Count))),w64 (t.1.Cores + (w64 (x.Size.Cores * x.Count)))⟩ : Vec)
  else
  some t.1).bind fun out =>
 some (.inl (out,w64 (t.2 + 1)))
 else
 some (.inr t.1)
theorem zx (l : List Ask) (label : Int) (t : Vec × Int) : Lo (kV l label t) (nB l label t):=by
 unfold kV nB
 repeat' (first | (with_reducible first | exact Ap _ _ _ | apply ad | apply ae | apply ab | apply ag | apply aj | refine ai ?_ _ | exact ah _) | (intro _) | exact af | (dsimp only))
def pd (l : List Ask) (label : Int) : Option Vec :=
 (itr 4096 (kV l label) ((⟨0,0⟩ : Vec),0)).bind fun out1 =>
 some out1
theorem Ci (l : List Ask) (label : Int) : Lo (pd l label) (nq l label):=by
 unfold pd nq
 repeat' (first | (with_reducible first | exact zx _ _ _ | apply ad | apply ae | apply ab | apply ag | apply aj | refine ai ?_ _ | exact ah _) | (intro _) | exact af | (dsimp only))
def eR (v : View) (t : Vec × Int) : Option ((Vec × Int) ⊕ Vec) :=
 bif decide (t.2 < (v.s.Apps.length : Int)) then
 (
  (idx v.s.Apps t.2).bind fun x =>
  (
  (gj x).bind fun x1 =>
  bif x1 then
   (ir v x).bind fun x2 =>
   some x2
  else
   some false).bind fun q =>
  bif q then
  (pd x.Asks v.label).bind fun x3 =>
  (cA t.1 x3).bind fun x4 =>
  some x4.1
  else
  some t.1).bind fun out =>
 some (.inl (out,w64 (t.2 + 1)))
 else
 some (.inr t.1)
theorem uv (v : View) (t : Vec × Int) : Lo (eR v t) (h_ v t):=by
 unfold eR h_
 repeat' (first | (with_reducible first | exact jT _ | exact rQ _ _ | exact Ci _ _ | exact cS _ _ | apply ad | apply ae | apply ab | apply ag | apply aj | refine ai ?_ _ | exact ah _) | (intro _) | exact af | (dsimp only))
def iN (v : View) : Option Vec :=
 (itr 4096 (eR v) ((⟨0,0⟩ : Vec),0)).bind fun out1 =>
 some out1
theorem wj (v : View) : Lo (iN v) (fx v):=by
 unfold iN fx
 repeat' (first | (with_reducible first | exact uv _ _ | apply ad | apply ae | apply ab | apply ag | apply aj | refine ai ?_ _ | exact ah _) | (intro _) | exact af | (dsimp only))
def mS (s : State) (path : List UInt8) (label : Int) : Option Vec :=
 (iN (⟨⟨⟨s.Conf.Labels,s.Conf.Queues⟩,s.Nodes,s.Apps,s.Conts,s.Slots,s.Plans,s.Now,s.Epoch,s.Seq⟩,path,label,(-1)⟩ : View)).bind fun x =>
 some x
theorem Bn (s : State) (path : List UInt8) (label : Int) : Lo (mS s path label) (iW s path label):=by
 unfold mS iW
 repeat' (first | (with_reducible first | exact wj _ | apply ad | apply ae | apply ab | apply ag | apply aj | refine ai ?_ _ | exact ah _) | (intro _) | exact af | (dsimp only))
def qt (s : State) (label : Int) (kids : List (List UInt8)) (t : Rows3_ListInt × Int) : Option ((Rows3_ListInt × Int) ⊕ Rows3_ListInt):=none
theorem x_ (s : State) (label : Int) (kids : List (List UInt8)) (t : Rows3_ListInt × Int) : Lo (qt s label kids t) (uf s label kids t):=af
def nE (self : State → (List UInt8) → Int → Int → Int → Option (List Share)) (s : State) (path : List UInt8) (label : Int) (mem : Int) (deep : Int) : Option (List Share) :=
 (ja s.Conf path).bind fun kids =>
 (
 bif (kids.length : Int) == 0 then
  some true
 else
  some (decide (deep > 4))).bind fun q =>
 bif q then
 some [(⟨path,mem⟩ : Share)]
 else
 (mkl 8 (kids.length : Int) (kids.length : Int) 0).bind fun l =>
 (mkl 8 (kids.length : Int) (kids.length : Int) 0).bind fun l1 =>
 (mkl 8 (kids.length : Int) (kids.length : Int) 0).bind fun l2 =>
 (itr 4096 (qt s label kids) ((⟨l,l1,l2⟩ : Rows3_ListInt),0)).bind fun rows =>
 none
theorem AV (self self_' : State → (List UInt8) → Int → Int → Int → Option (List Share)) (h_self : ∀ (a0 : State) (a1 : (List UInt8)) (a2 : Int) (a3 : Int) (a4 : Int),Lo (self a0 a1 a2 a3 a4) (self_' a0 a1 a2 a3 a4)) (s : State) (path : List UInt8) (label : Int) (mem : Int) (deep : Int) : Lo (nE self s path label mem deep) (rO self_' s path label mem deep):=by
 unfold nE rO
 repeat' (first | (with_reducible first | exact nQ _ _ | exact x_ _ _ _ _ | refine h_self _ _ _ _ _ | apply ad | apply ae | apply ab | apply ag | apply aj | refine ai ?_ _ | exact ah _) | (intro _) | exact af | (dsimp only))
def jw : Nat → State → (List UInt8) → Int → Int → Int → Option (List Share)
 | 0 => fun _ _ _ _ _ => none
 | n + 1 => nE (jw n)
theorem sM : ∀ (n : Nat),∀ (a0 : State) (a1 : List UInt8) (a2 : Int) (a3 : Int) (a4 : Int),Lo (jw n a0 a1 a2 a3 a4) (iU n a0 a1 a2 a3 a4)
 | 0 => fun _ _ _ _ _ => af
 | n + 1 => fun a0 a1 a2 a3 a4 => AV (jw n) (iU n) (sM n) a0 a1 a2 a3 a4
def rr (a0 : State) (a1 : List UInt8) (a2 : Int) (a3 : Int) (a4 : Int) : Option (List Share):=jw 64 a0 a1 a2 a3 a4
theorem DC (a0 : State) (a1 : List UInt8) (a2 : Int) (a3 : Int) (a4 : Int) : Lo (rr a0 a1 a2 a3 a4) (p7 a0 a1 a2 a3 a4):=by
 unfold rr p7
 repeat' (first | (with_reducible first | refine sM _ _ _ _ _ _ | apply ad | apply ae | apply ab | apply ag | apply aj | refine ai ?_ _ | exact ah _) | (intro _) | exact af | (dsimp only))
def kx (s : State) (label : Int) : Option (List Share) :=
 (dt s label).bind fun x =>
 (rr s ([114,111,111,116] : List UInt8) label x.Mem 1).bind fun x1 =>
 some x1
theorem va (s : State) (label : Int) : Lo (kx s label) (j6 s label):=by
 unfold kx j6
 repeat' (first | (with_reducible first | exact gH _ _ | exact DC _ _ _ _ _ | apply ad | apply ae | apply ab | apply ag | apply aj | refine ai ?_ _ | exact ah _) | (intro _) | exact af | (dsimp only))
def kL (s : State) (label : Int) (t1 : Looker × Int) : Option ((Looker × Int) ⊕ Looker) :=
 bif decide (t1.2 < (s.Conts.length : Int)) then
 (
  (idx s.Conts t1.2).bind fun x4 =>
  bif x4.Label != label then
  some t1.1
  else
  (fS s x4.App).bind fun x5 =>
  bif x4.Notice != 0 then
   none
  else
   some (⟨⟨⟨t1.1.s.Conf.Labels,t1.1.s.Conf.Queues⟩,t1.1.s.Nodes,t1.1.s.Apps,t1.1.s.Conts,t1.1.s.Slots,t1.1.s.Plans,t1.1.s.Now,t1.1.s.Epoch,t1.1.s.Seq⟩,t1.1.label,t1.1.over,mput (fun x6 => x4.Id == x6.k) t1.1.leaf (⟨x4.Id,x5.1.Queue⟩ : Ent4_IntListUInt8),t1.1.noticed,t1.1.gone⟩ : Looker)).bind fun k1 =>
 some (.inl (k1,w64 (t1.2 + 1)))
 else
 some (.inr t1.1)
theorem yG (s : State) (label : Int) (t1 : Looker × Int) : Lo (kL s label t1) (nx s label t1):=by
 unfold kL nx
 repeat' (first | (with_reducible first | exact j9 _ _ | apply ad | apply ae | apply ab | apply ag | apply aj | refine ai ?_ _ | exact ah _) | (intro _) | exact af | (dsimp only))
def kN (s : State) (label : Int) (x : List Share) (t : Looker × Int) : Option ((Looker × Int) ⊕ Looker) :=
 bif decide (t.2 < (x.length : Int)) then
 (inb t.2 x.length).bind fun i =>
 (x[i]?).bind fun x1 =>
 (cZ s x1.Path label).bind fun x2 =>
 some (.inl ((⟨⟨⟨t.1.s.Conf.Labels,t.1.s.Conf.Queues⟩,t.1.s.Nodes,t.1.s.Apps,t.1.s.Conts,t.1.s.Slots,t.1.s.Plans,t.1.s.Now,t.1.s.Epoch,t.1.s.Seq⟩,t.1.label,mput (fun x3 => x1.Path == x3.k) t.1.over (⟨x1.Path,w64 (x2.Mem - x1.Mem)⟩ : Ent0_ListUInt8Int),t.1.leaf,t.1.noticed,t.1.gone⟩ : Looker),w64 (t.2 + 1)))
 else
 some (.inr t.1)
theorem zD (s : State) (label : Int) (x : List Share) (t : Looker × Int) : Lo (kN s label x t) (nZ s label x t):=by
 unfold kN nZ
 repeat' (first | (with_reducible first | exact fh _ _ _ | apply ad | apply ae | apply ab | apply ag | apply aj | refine ai ?_ _ | exact ah _) | (intro _) | exact af | (dsimp only))
def oE (s : State) (label : Int) : Option Looker :=
 (kx s label).bind fun x =>
 (itr 4096 (kN s label x) ((⟨⟨⟨s.Conf.Labels,s.Conf.Queues⟩,s.Nodes,s.Apps,s.Conts,s.Slots,s.Plans,s.Now,s.Epoch,s.Seq⟩,label,[],[],[],0⟩ : Looker),0)).bind fun k =>
 (itr 4096 (kL s label) (k,0)).bind fun k2 =>
 some k2
theorem BD (s : State) (label : Int) : Lo (oE s label) (mB s label):=by
 unfold oE mB
 repeat' (first | (with_reducible first | exact va _ _ | exact zD _ _ _ _ | exact yG _ _ _ | apply ad | apply ae | apply ab | apply ag | apply aj | refine ai ?_ _ | exact ah _) | (intro _) | exact af | (dsimp only))
def dG (k : Looker) (path : List UInt8) (x : Vec) (x1 : Vec) (x2 : App) (t1 : Int) : Option (Int ⊕ (Int ⊕ Unit)) :=
 bif decide (t1 < (x2.Asks.length : Int)) then
 (idx x2.Asks t1).bind fun x4 =>
 (
  bif x4.Label == k.label then
  some (decide ((w64 (x.Mem + x4.Size.Mem)) ≤ x1.Mem))
  else
  some false).bind fun q1 =>
 bif q1 then
  (mS k.s path k.label).bind fun x5 =>
  some (.inr (.inl (imin x5.Mem (w64 (x1.Mem - x.Mem)))))
 else
  some (.inl (w64 (t1 + 1)))
 else
 some (.inr (.inr ()))
theorem rg (k : Looker) (path : List UInt8) (x : Vec) (x1 : Vec) (x2 : App) (t1 : Int) : Lo (dG k path x x1 x2 t1) (eM k path x x1 x2 t1):=by
 unfold dG eM
 repeat' (first | (with_reducible first | exact Bn _ _ _ | apply ad | apply ae | apply ab | apply ag | apply aj | refine ai ?_ _ | exact ah _) | (intro _) | exact af | (dsimp only))
def dJ (k : Looker) (path : List UInt8) (x : Vec) (x1 : Vec) (t : Int) : Option (Int ⊕ (Int ⊕ Unit)) :=
 bif decide (t < (k.s.Apps.length : Int)) then
 (
  (idx k.s.Apps t).bind fun x2 =>
  (
  (gj x2).bind fun x3 =>
  bif ! x3 then
   some true
  else
   some (! (x2.Queue == path))).bind fun q =>
  bif q then
  some (.inl ())
  else
  (itr 4096 (dG k path x x1 x2) 0).bind fun q0 =>
  match q0 with
  | .inl q2 =>
   some (.inr q2)
  | .inr _ =>
   some (.inl ()) : Option (Unit ⊕ Int)).bind fun q0 =>
 match q0 with
 | .inl _ =>
  some (.inl (w64 (t + 1)))
 | .inr q3 =>
  some (.inr (.inl q3))
 else
 some (.inr (.inr ()))
theorem qQ (k : Looker) (path : List UInt8) (x : Vec) (x1 : Vec) (t : Int) : Lo (dJ k path x x1 t) (ff k path x x1 t):=by
 unfold dJ ff
 repeat' (first | (with_reducible first | exact jT _ | exact rg _ _ _ _ _ _ | apply ad | apply ae | apply ab | apply ag | apply aj | refine ai ?_ _ | exact ah _) | (intro _) | exact af | (dsimp only))
def fZ (k : Looker) (path : List UInt8) : Option (Int × Looker) :=
 (cZ k.s path k.label).bind fun x =>
 (fk k.s path k.label).bind fun x1 =>
 (itr 4096 (dJ k path x x1) 0).bind fun q0 =>
 match q0 with
 | .inl q4 =>
 some (q4,k)
 | .inr _ =>
 some (0,k)
theorem uG (k : Looker) (path : List UInt8) : Lo (fZ k path) (dU k path):=by
 unfold fZ dU
 repeat' (first | (with_reducible first | exact fh _ _ _ | exact kh _ _ _ | exact qQ _ _ _ _ _ | apply ad | apply ae | apply ab | apply ag | apply aj | refine ai ?_ _ | exact ah _) | (intro _) | exact af | (dsimp only))
def ep (x : List Share) (t : Looker × Int × Int) : Option ((Looker × Int × Int) ⊕ ((Looker × Int))) :=
 bif decide (t.2.2 < (x.length : Int)) then
 (inb t.2.2 x.length).bind fun i =>
 (x[i]?).bind fun x1 =>
 (fZ t.1 x1.Path).bind fun x2 =>
 let sum:=w64 (t.2.1 + x2.1)
 some (.inl (x2.2,sum,w64 (t.2.2 + 1)))
 else
 some (.inr (t.1,t.2.1))
theorem sw (x : List Share) (t : Looker × Int × Int) : Lo (ep x t) (fY x t):=by
 unfold ep fY
 repeat' (first | (with_reducible first | exact uG _ _ | apply ad | apply ae | apply ab | apply ag | apply aj | refine ai ?_ _ | exact ah _) | (intro _) | exact af | (dsimp only))
def gI (k : Looker) : Option (Int × Looker) :=
 (kx k.s k.label).bind fun x =>
 (itr 4096 (ep x) (k,0,0)).bind fun q =>
 (dt q.1.s q.1.label).bind fun x3 =>
 (cZ q.1.s ([114,111,111,116] : List UInt8) q.1.label).bind fun x4 =>
 some (w64 (q.2 - (imax (w64 (x3.Mem - x4.Mem)) 0)),q.1)
theorem vw (k : Looker) : Lo (gI k) (eH k):=by
 unfold gI eH
 repeat' (first | (with_reducible first | exact va _ _ | exact sw _ _ | exact gH _ _ | exact fh _ _ _ | apply ad | apply ae | apply ab | apply ag | apply aj | refine ai ?_ _ | exact ah _) | (intro _) | exact af | (dsimp only))
def kG (need : Int × Looker) (out : List Int) : Option (List Int ⊕ List Int) :=
 bif decide (need.2.gone < need.1) then
 none
 else
 some (.inr out)
theorem zi (need : Int × Looker) (out : List Int) : Lo (kG need out) (nj need out):=by
 unfold kG nj
 repeat' (first | (with_reducible first | apply ad | apply ae | apply ab | apply ag | apply aj | refine ai ?_ _ | exact ah _) | (intro _) | exact af | (dsimp only))
def oJ (s : State) (label : Int) : Option (List Int) :=
 (oE s label).bind fun k =>
 (gI k).bind fun need =>
 (itr 4096 (kG need) []).bind fun out1 =>
 some out1
theorem BT (s : State) (label : Int) : Lo (oJ s label) (mJ s label):=by
 unfold oJ mJ
 repeat' (first | (with_reducible first | exact BD _ _ | exact vw _ | exact zi _ _ | apply ad | apply ae | apply ab | apply ag | apply aj | refine ai ?_ _ | exact ah _) | (intro _) | exact af | (dsimp only))
def rT (_a0 : Cont) (_a1 : Int) : Option Bool:=none
theorem yD (_a0 : Cont) (_a1 : Int) : Lo (rT _a0 _a1) (mF _a0 _a1):=af
def kM (x : Cont) (p : Cont) : Option Bool :=
 some (x.Id == p.Id)
theorem zp (x : Cont) (p : Cont) : Lo (kM x p) (jv x p):=by
 unfold kM jv
 repeat' (first | (with_reducible first | apply ad | apply ae | apply ab | apply ag | apply aj | refine ai ?_ _ | exact ah _) | (intro _) | exact af | (dsimp only))
def cO (data : List Int) (a : Int) (j : Int) : Option (Int ⊕ Unit):=none
theorem jt (data : List Int) (a : Int) (j : Int) : Lo (cO data a j) (di data a j):=af
def bv (data : List Int) (a : Int) (b : Int) (i : Int) : Option (Int ⊕ Unit) :=
 bif decide (i < b) then
 (itr 4096 (cO data a) i).bind fun _ =>
 some (.inl (w64 (i + 1)))
 else
 some (.inr ())
theorem jq (data : List Int) (a : Int) (b : Int) (i : Int) : Lo (bv data a b i) (bE data a b i):=by
 unfold bv bE
 repeat' (first | (with_reducible first | exact jt _ _ _ | apply ad | apply ae | apply ab | apply ag | apply aj | refine ai ?_ _ | exact ah _) | (intro _) | exact af | (dsimp only))
def bJ (data : List Int) (a : Int) (b : Int) : Option Unit :=
 (itr 4096 (bv data a b) (w64 (a + 1))).bind fun _ =>
 some ()
theorem kj (data : List Int) (a : Int) (b : Int) : Lo (bJ data a b) (bc data a b):=by
 unfold bJ bc
 repeat' (first | (with_reducible first | exact jq _ _ _ _ | apply ad | apply ae | apply ab | apply ag | apply aj | refine ai ?_ _ | exact ah _) | (intro _) | exact af | (dsimp only))
def bO (data : List Int) (a : Int) (b : Int) (limit : Int) (_t : Unit) : Option (Unit ⊕ Unit) :=
 bif decide ((w64 (b - a)) ≤ 12) then
 (bJ data a b).bind fun _ =>
 some (.inr ())
 else
 bif limit == 0 then
  none
 else
  none
theorem kT (data : List Int) (a : Int) (b : Int) (limit : Int) (_t : Unit) : Lo (bO data a b limit _t) (b7 data a b limit _t):=by
 unfold bO b7
 repeat' (first | (with_reducible first | exact kj _ _ _ | apply ad | apply ae | apply ab | apply ag | apply aj | refine ai ?_ _ | exact ah _) | (intro _) | exact af | (dsimp only))
def cw (self : (List Int) → Int → Int → Int → Option Unit) (data : List Int) (a : Int) (b : Int) (limit : Int) : Option Unit :=
 (itr 4096 (bO data a b limit) ()).bind fun _ =>
 some ()
theorem mA (self self_' : (List Int) → Int → Int → Int → Option Unit) (h_self : ∀ (a0 : (List Int)) (a1 : Int) (a2 : Int) (a3 : Int),Lo (self a0 a1 a2 a3) (self_' a0 a1 a2 a3)) (data : List Int) (a : Int) (b : Int) (limit : Int) : Lo (cw self data a b limit) (cM self_' data a b limit):=by
 unfold cw cM
 repeat' (first | (with_reducible first | exact kT _ _ _ _ _ | refine h_self _ _ _ _ | apply ad | apply ae | apply ab | apply ag | apply aj | refine ai ?_ _ | exact ah _) | (intro _) | exact af | (dsimp only))
def br : Nat → (List Int) → Int → Int → Int → Option Unit
 | 0 => fun _ _ _ _ => none
 | n + 1 => cw (br n)
theorem eI : ∀ (n : Nat),∀ (a0 : List Int) (a1 : Int) (a2 : Int) (a3 : Int),Lo (br n a0 a1 a2 a3) (a7 n a0 a1 a2 a3)
 | 0 => fun _ _ _ _ => af
 | n + 1 => fun a0 a1 a2 a3 => mA (br n) (a7 n) (eI n) a0 a1 a2 a3
def cN (a0 : List Int) (a1 : Int) (a2 : Int) (a3 : Int) : Option Unit:=br 64 a0 a1 a2 a3
theorem ot (a0 : List Int) (a1 : Int) (a2 : Int) (a3 : Int) : Lo (cN a0 a1 a2 a3) (bS a0 a1 a2 a3):=by
 unfold cN bS
 repeat' (first | (with_reducible first | refine eI _ _ _ _ _ | apply ad | apply ae | apply ab | apply ag | apply aj | refine ai ?_ _ | exact ah _) | (intro _) | exact af | (dsimp only))
def tj (x : Int) : Option Int :=
 (
 bif decide (x ≥ 4294967296) then
  some (shrK .u64 x 32,32)
 else
  some (x,0)).bind fun q =>
 (
 bif decide (q.1 ≥ 65536) then
  some (shrK .u64 q.1 16,w64 (q.2 + 16))
 else
  some (q.1,q.2)).bind fun q1 =>
 (
 bif decide (q1.1 ≥ 256) then
  some (shrK .u64 q1.1 8,w64 (q1.2 + 8))
 else
  some (q1.1,q1.2)).bind fun q2 =>
 (idx ([0,1,2,2,3,3,3,3,4,4,4,4,4,4,4,4,5,5,5,5,5,5,5,5,5,5,5,5,5,5,5,5,6,6,6,6,6,6,6,6,6,6,6,6,6,6,6,6,6,6,6,6,6,6,6,6,6,6,6,6,6,6,6,6,7,7,7,7,7,7,7,7,7,7,7,7,7,7,7,7,7,7,7,7,7,7,7,7,7,7,7,7,7,7,7,7,7,7,7,7,7,7,7,7,7,7,7,7,7,7,7,7,7,7,7,7,7,7,7,7,7,7,7,7,7,7,7,7,8,8,8,8,8,8,8,8,8,8,8,8,8,8,8,8,8,8,8,8,8,8,8,8,8,8,8,8,8,8,8,8,8,8,8,8,8,8,8,8,8,8,8,8,8,8,8,8,8,8,8,8,8,8,8,8,8,8,8,8,8,8,8,8,8,8,8,8,8,8,8,8,8,8,8,8,8,8,8,8,8,8,8,8,8,8,8,8,8,8,8,8,8,8,8,8,8,8,8,8,8,8,8,8,8,8,8,8,8,8,8,8,8,8,8,8,8,8,8,8,8,8,8,8,8,8,8,8] : List UInt8) (IntKind.u8.wrap q2.1)).bind fun ch =>
 let n:=w64 (q2.2 + (w64 (ch.toNat : Int)))
 some n
theorem En (x : Int) : Lo (tj x) (sv x):=by
 unfold tj sv
 repeat' (first | (with_reducible first | apply ad | apply ae | apply ab | apply ag | apply aj | refine ai ?_ _ | exact ah _) | (intro _) | exact af | (dsimp only))
def xo (x : Int) : Option Int :=
 (tj x).bind fun x1 =>
 some x1
theorem GB (x : Int) : Lo (xo x) (xc x):=by
 unfold xo xc
 repeat' (first | (with_reducible first | exact En _ | apply ad | apply ae | apply ab | apply ag | apply aj | refine ai ?_ _ | exact ah _) | (intro _) | exact af | (dsimp only))
def ca (x : List Int) : Option Unit :=
 (xo (IntKind.u64.wrap (x.length : Int))).bind fun x1 =>
 (cN x 0 (x.length : Int) x1).bind fun _ =>
 some ()
theorem jC (x : List Int) : Lo (ca x) (bQ x):=by
 unfold ca bQ
 repeat' (first | (with_reducible first | exact GB _ | exact ot _ _ _ _ | apply ad | apply ae | apply ab | apply ag | apply aj | refine ai ?_ _ | exact ah _) | (intro _) | exact af | (dsimp only))
def j7 (s : State) (t3 : State) (t4 : List Int × Int) : Option ((List Int × Int) ⊕ List Int) :=
 bif decide (t4.2 < (s.Conts.length : Int)) then
 (
  (idx s.Conts t4.2).bind fun x5 =>
  (kw t3.Conts (fun a' => kM a'.1 x5)).bind fun x6 =>
  bif ! x6 then
  (app 8 t4.1 [x5.Id]).bind fun l =>
  some l
  else
  some t4.1).bind fun gone =>
 some (.inl (gone,w64 (t4.2 + 1)))
 else
 some (.inr t4.1)
theorem xZ (s : State) (t3 : State) (t4 : List Int × Int) : Lo (j7 s t3 t4) (mg s t3 t4):=by
 unfold j7 mg
 repeat' (first | (with_reducible first | refine u5 _ _ _ ?_ | exact zp _ _ | apply ad | apply ae | apply ab | apply ag | apply aj | refine ai ?_ _ | exact ah _) | (intro _) | exact af | (dsimp only))
def jF (x2 : List Int) (t1 : State × Int) : Option ((State × Int) ⊕ State) :=
 bif decide (t1.2 < (x2.length : Int)) then
 (inb t1.2 x2.length).bind fun i =>
 (x2[i]?).bind fun x3 =>
 (f_ t1.1.Conts (fun a' => rT a'.1 x3)).bind fun i1 =>
 (inb i1 t1.1.Conts.length).bind fun i2 =>
 (t1.1.Conts[i2]?).bind fun x4 =>
 some (.inl ((⟨⟨t1.1.Conf.Labels,t1.1.Conf.Queues⟩,t1.1.Nodes,t1.1.Apps,List.set t1.1.Conts i2 (⟨x4.Id,x4.App,x4.Node,⟨x4.Size.Mem,x4.Size.Cores⟩,x4.Prio,x4.Label,x4.Master,imax t1.1.Now 1⟩ : Cont),t1.1.Slots,t1.1.Plans,t1.1.Now,t1.1.Epoch,t1.1.Seq⟩ : State),w64 (t1.2 + 1)))
 else
 some (.inr t1.1)
theorem yd (x2 : List Int) (t1 : State × Int) : Lo (jF x2 t1) (lN x2 t1):=by
 unfold jF lN
 repeat' (first | (with_reducible first | refine jE _ _ _ ?_ | exact yD _ _ | apply ad | apply ae | apply ab | apply ag | apply aj | refine ai ?_ _ | exact ah _) | (intro _) | exact af | (dsimp only))
def jR (s : State) (t : State × Int) : Option ((State × Int) ⊕ State) :=
 bif decide (t.2 < (s.Conf.Labels.length : Int)) then
 (oX t.1 t.2).bind fun x1 =>
 (oJ x1 t.2).bind fun x2 =>
 (itr 4096 (jF x2) (x1,0)).bind fun t2 =>
 some (.inl (t2,w64 (t.2 + 1)))
 else
 some (.inr t.1)
theorem xY (s : State) (t : State × Int) : Lo (jR s t) (lR s t):=by
 unfold jR lR
 repeat' (first | (with_reducible first | exact B_ _ _ | exact BT _ _ | exact yd _ _ | apply ad | apply ae | apply ab | apply ag | apply aj | refine ai ?_ _ | exact ah _) | (intro _) | exact af | (dsimp only))
def nk (s : State) : Option (State × List Int) :=
 (bP s []).bind fun x =>
 (itr 4096 (jR s) (x,0)).bind fun t3 =>
 (itr 4096 (j7 s t3) ([],0)).bind fun gone1 =>
 (ca gone1).bind fun _ =>
 some (t3,gone1)
theorem Bp (s : State) : Lo (nk s) (lK s):=by
 unfold nk lK
 repeat' (first | (with_reducible first | exact gO _ _ | exact xY _ _ | exact xZ _ _ _ | exact jC _ | apply ad | apply ae | apply ab | apply ag | apply aj | refine ai ?_ _ | exact ah _) | (intro _) | exact af | (dsimp only))
def gf (t : Step) (was : List Cont) (x5 : State × List Int) (t3 : Output × Int) : Option ((Output × Int) ⊕ Output) :=
 bif decide (t3.2 < (was.length : Int)) then
 (
  (inb t3.2 was.length).bind fun i2 =>
  (was[i2]?).bind fun x6 =>
  (cg (⟨⟨⟨x5.1.Conf.Labels,x5.1.Conf.Queues⟩,x5.1.Nodes,x5.1.Apps,x5.1.Conts,x5.1.Slots,x5.1.Plans,x5.1.Now,x5.1.Epoch,x5.1.Seq⟩,⟨t.x.Kind,t.x.Id,t.x.Beat,t.x.N,t.x.Text,⟨t.x.Node.Id,t.x.Node.Label,t.x.Node.Rack,⟨t.x.Node.Cap.Mem,t.x.Node.Cap.Cores⟩,t.x.Node.Seen,t.x.Node.Beat,t.x.Node.Up⟩,⟨t.x.App.Id,t.x.App.State,t.x.App.Queue,t.x.App.User,t.x.App.Prio,⟨t.x.App.Master.Mem,t.x.App.Master.Cores⟩,t.x.App.Asks,t.x.App.Seen,t.x.App.Beat,t.x.App.Grants,t.x.App.Kills,t.x.App.Told,t.x.App.Lost⟩,t.x.Asks,t.x.Ids,⟨t.x.Plan.Id,t.x.Plan.Label,t.x.Plan.From,t.x.Plan.Until,⟨t.x.Plan.Need.Mem,t.x.Plan.Need.Cores⟩⟩⟩⟩ : Step) [x6.Id]).bind fun x7 =>
  bif (x7.length : Int) == 0 then
  (app 8 t3.1.Gone [x6.Id]).bind fun l =>
  some (⟨t3.1.Err,t3.1.Conts,t3.1.Ids,l,t3.1.N⟩ : Output)
  else
  some t3.1).bind fun out =>
 some (.inl (out,w64 (t3.2 + 1)))
 else
 some (.inr t3.1)
theorem uM (t : Step) (was : List Cont) (x5 : State × List Int) (t3 : Output × Int) : Lo (gf t was x5 t3) (iy t was x5 t3):=by
 unfold gf iy
 repeat' (first | (with_reducible first | exact mj _ _ | apply ad | apply ae | apply ab | apply ag | apply aj | refine ai ?_ _ | exact ah _) | (intro _) | exact af | (dsimp only))
def fT (x2 : List Int) (t2 : Int) : Option (Int ⊕ Unit) :=
 bif decide (t2 < (x2.length : Int)) then
 (inb t2 x2.length).bind fun i1 =>
 (x2[i1]?).bind fun x3 =>
 none
 else
 some (.inr ())
theorem uJ (x2 : List Int) (t2 : Int) : Lo (fT x2 t2) (iM x2 t2):=by
 unfold fT iM
 repeat' (first | (with_reducible first | apply ad | apply ae | apply ab | apply ag | apply aj | refine ai ?_ _ | exact ah _) | (intro _) | exact af | (dsimp only))
def gh (x : List Int) (t1 : Int) : Option (Int ⊕ Unit) :=
 bif decide (t1 < (x.length : Int)) then
 (inb t1 x.length).bind fun i =>
 (x[i]?).bind fun x1 =>
 none
 else
 some (.inr ())
theorem uD (x : List Int) (t1 : Int) : Lo (gh x t1) (iH x t1):=by
 unfold gh iH
 repeat' (first | (with_reducible first | apply ad | apply ae | apply ab | apply ag | apply aj | refine ai ?_ _ | exact ah _) | (intro _) | exact af | (dsimp only))
def jh (t : Step) : Option (Output × Step) :=
 (
 bif decide (t.x.N < 1) then
  some true
 else
  some (decide (t.x.N > 100))).bind fun q =>
 bif q then
 none
 else
 bif decide (t.s.Now > (w64 (1000000000 - t.x.N))) then
  none
 else
  (cp t.s.Conts).bind fun was =>
  (pe (⟨⟨t.s.Conf.Labels,t.s.Conf.Queues⟩,t.s.Nodes,t.s.Apps,t.s.Conts,t.s.Slots,t.s.Plans,w64 (t.s.Now + t.x.N),t.s.Epoch,t.s.Seq⟩ : State)).bind fun x =>
  (itr 4096 (gh x) 0).bind fun _ =>
  (qZ (⟨⟨t.s.Conf.Labels,t.s.Conf.Queues⟩,t.s.Nodes,t.s.Apps,t.s.Conts,t.s.Slots,t.s.Plans,w64 (t.s.Now + t.x.N),t.s.Epoch,t.s.Seq⟩ : State)).bind fun x2 =>
  (itr 4096 (fT x2) 0).bind fun _ =>
  (oh t.s.Plans (fun a' => gE a'.1 (w64 (t.s.Now + t.x.N)))).bind fun x4 =>
  (nk (⟨⟨t.s.Conf.Labels,t.s.Conf.Queues⟩,t.s.Nodes,t.s.Apps,t.s.Conts,t.s.Slots,x4,w64 (t.s.Now + t.x.N),t.s.Epoch,t.s.Seq⟩ : State)).bind fun x5 =>
  (itr 4096 (gf t was x5) ((⟨0,[],[],[],0⟩ : Output),0)).bind fun out1 =>
  some (out1,(⟨⟨⟨x5.1.Conf.Labels,x5.1.Conf.Queues⟩,x5.1.Nodes,x5.1.Apps,x5.1.Conts,x5.1.Slots,x5.1.Plans,x5.1.Now,x5.1.Epoch,x5.1.Seq⟩,⟨t.x.Kind,t.x.Id,t.x.Beat,t.x.N,t.x.Text,⟨t.x.Node.Id,t.x.Node.Label,t.x.Node.Rack,⟨t.x.Node.Cap.Mem,t.x.Node.Cap.Cores⟩,t.x.Node.Seen,t.x.Node.Beat,t.x.Node.Up⟩,⟨t.x.App.Id,t.x.App.State,t.x.App.Queue,t.x.App.User,t.x.App.Prio,⟨t.x.App.Master.Mem,t.x.App.Master.Cores⟩,t.x.App.Asks,t.x.App.Seen,t.x.App.Beat,t.x.App.Grants,t.x.App.Kills,t.x.App.Told,t.x.App.Lost⟩,t.x.Asks,t.x.Ids,⟨t.x.Plan.Id,t.x.Plan.Label,t.x.Plan.From,t.x.Plan.Until,⟨t.x.Plan.Need.Mem,t.x.Plan.Need.Cores⟩⟩⟩⟩ : Step))
theorem xJ (t : Step) : Lo (jh t) (gx t):=by
 unfold jh gx
 repeat' (first | (with_reducible first | exact et _ | exact BP _ | exact uD _ _ | exact Dh _ | exact uJ _ _ | refine Bh _ _ _ ?_ | exact vP _ _ | exact Bp _ | exact uM _ _ _ _ | apply ad | apply ae | apply ab | apply ag | apply aj | refine ai ?_ _ | exact ah _) | (intro _) | exact af | (dsimp only))
def cD (n : Int) (most : Int) : Option Bool :=
 bif decide (n ≥ 0) then
 some (decide (n ≤ most))
 else
 some false
theorem wS (n : Int) (most : Int) : Lo (cD n most) (cP n most):=by
 unfold cD cP
 repeat' (first | (with_reducible first | apply ad | apply ae | apply ab | apply ag | apply aj | refine ai ?_ _ | exact ah _) | (intro _) | exact af | (dsimp only))
def nD (s : List Plan) (f : (TupT fam [.st 9] → Option Bool)) : Option Bool :=
 (jD s f).bind fun x =>
 some (decide (x ≥ 0))
theorem A_ (s : List Plan) (f f_' : (TupT fam [.st 9] → Option Bool)) (h_f : ∀ a,Lo (f a) (f_' a)) : Lo (nD s f) (lD s f_'):=by
 unfold nD lD
 repeat' (first | (with_reducible first | refine uo _ _ _ ?_ | exact h_f _ | apply ad | apply ae | apply ab | apply ag | apply aj | refine ai ?_ _ | exact ah _) | (intro _) | exact af | (dsimp only))
def yA (_a0 : Plan) (_a1 : Plan) : Option Bool:=none
theorem Er (_a0 : Plan) (_a1 : Plan) : Lo (yA _a0 _a1) (xK _a0 _a1):=af
def tL (l : List Plan) (label : Int) (t : Int) (t1 : Vec × Int) : Option ((Vec × Int) ⊕ Vec) :=
 bif decide (t1.2 < (l.length : Int)) then
 (
  (idx l t1.2).bind fun x =>
  (
  bif x.Label == label then
   bif decide (x.From ≤ t) then
   some (decide (x.Until > t))
   else
   some false
  else
   some false).bind fun q =>
  bif q then
  (cA t1.1 x.Need).bind fun x1 =>
  some x1.1
  else
  some t1.1).bind fun out =>
 some (.inl (out,w64 (t1.2 + 1)))
 else
 some (.inr t1.1)
theorem EE (l : List Plan) (label : Int) (t : Int) (t1 : Vec × Int) : Lo (tL l label t t1) (xG l label t t1):=by
 unfold tL xG
 repeat' (first | (with_reducible first | exact cS _ _ | apply ad | apply ae | apply ab | apply ag | apply aj | refine ai ?_ _ | exact ah _) | (intro _) | exact af | (dsimp only))
def zC (l : List Plan) (label : Int) (t : Int) : Option Vec :=
 (itr 4096 (tL l label t) ((⟨0,0⟩ : Vec),0)).bind fun out1 =>
 some out1
theorem HK (l : List Plan) (label : Int) (t : Int) : Lo (zC l label t) (zH l label t):=by
 unfold zC zH
 repeat' (first | (with_reducible first | exact EE _ _ _ _ | apply ad | apply ae | apply ab | apply ag | apply aj | refine ai ?_ _ | exact ah _) | (intro _) | exact af | (dsimp only))
def qJ (k : Int) (p : List Plan) (p1 : Plan) (p2 : Vec) : Option Bool :=
 (zC p p1.Label k).bind fun x =>
 (cA x p1.Need).bind fun x1 =>
 bif x1.2 != 0 then
 some true
 else
 (b8 x1.1 p2).bind fun x2 =>
 some (! x2)
theorem C_ (k : Int) (p : List Plan) (p1 : Plan) (p2 : Vec) : Lo (qJ k p p1 p2) (p9 k p p1 p2):=by
 unfold qJ p9
 repeat' (first | (with_reducible first | exact HK _ _ _ | exact cS _ _ | exact en _ _ | apply ad | apply ae | apply ab | apply ag | apply aj | refine ai ?_ _ | exact ah _) | (intro _) | exact af | (dsimp only))
def oI (l : List Plan) (t : Int) (long : Int) (t1 : List Int × Int) : Option ((List Int × Int) ⊕ List Int) :=
 bif decide (t1.2 < (l.length : Int)) then
 (
  (idx l t1.2).bind fun x =>
  (
  bif decide (x.From > t) then
   some (decide (x.From < (w64 (t + long))))
  else
   some false).bind fun q =>
  bif q then
  (app 8 t1.1 [x.From]).bind fun l1 =>
  some l1
  else
  some t1.1).bind fun times =>
 some (.inl (times,w64 (t1.2 + 1)))
 else
 some (.inr t1.1)
theorem BW (l : List Plan) (t : Int) (long : Int) (t1 : List Int × Int) : Lo (oI l t long t1) (tc l t long t1):=by
 unfold oI tc
 repeat' (first | (with_reducible first | apply ad | apply ae | apply ab | apply ag | apply aj | refine ai ?_ _ | exact ah _) | (intro _) | exact af | (dsimp only))
def vF (l : List Plan) (total : Vec) (p : Plan) (t : Int) (long : Int) : Option Bool :=
 (itr 4096 (oI l t long) ([t],0)).bind fun times1 =>
 (be times1 (fun a' => qJ a'.1 l p total)).bind fun x1 =>
 some (! x1)
theorem F9 (l : List Plan) (total : Vec) (p : Plan) (t : Int) (long : Int) : Lo (vF l total p t long) (uQ l total p t long):=by
 unfold vF uQ
 repeat' (first | (with_reducible first | exact BW _ _ _ _ | refine dZ _ _ _ ?_ | exact C_ _ _ _ _ | apply ad | apply ae | apply ab | apply ag | apply aj | refine ai ?_ _ | exact ah _) | (intro _) | exact af | (dsimp only))
def nW (l : List Plan) (total : Vec) (p : Plan) (long : Int) (times1 : List Int) (t1 : Int) : Option (Int ⊕ ((Int × Int) ⊕ Unit)) :=
 bif decide (t1 < (times1.length : Int)) then
 (inb t1 times1.length).bind fun i1 =>
 (times1[i1]?).bind fun x6 =>
 (
  bif decide (x6 ≤ (w64 (p.Until - long))) then
  (vF l total p x6 long).bind fun x7 =>
  some x7
  else
  some false).bind fun q1 =>
 bif q1 then
  some (.inr (.inl (x6,0)))
 else
  some (.inl (w64 (t1 + 1)))
 else
 some (.inr (.inr ()))
theorem Bu (l : List Plan) (total : Vec) (p : Plan) (long : Int) (times1 : List Int) (t1 : Int) : Lo (nW l total p long times1 t1) (qN l total p long times1 t1):=by
 unfold nW qN
 repeat' (first | (with_reducible first | exact F9 _ _ _ _ _ | apply ad | apply ae | apply ab | apply ag | apply aj | refine ai ?_ _ | exact ah _) | (intro _) | exact af | (dsimp only))
def om (l : List Plan) (p : Plan) (t : List Int × Int) : Option ((List Int × Int) ⊕ List Int) :=
 bif decide (t.2 < (l.length : Int)) then
 (
  (idx l t.2).bind fun x5 =>
  bif decide (x5.Until > p.From) then
  (app 8 t.1 [x5.Until]).bind fun l2 =>
  some l2
  else
  some t.1).bind fun times =>
 some (.inl (times,w64 (t.2 + 1)))
 else
 some (.inr t.1)
theorem A1 (l : List Plan) (p : Plan) (t : List Int × Int) : Lo (om l p t) (rD l p t):=by
 unfold om rD
 repeat' (first | (with_reducible first | apply ad | apply ae | apply ab | apply ag | apply aj | refine ai ?_ _ | exact ah _) | (intro _) | exact af | (dsimp only))
def tE (l : List Plan) (total : Vec) (p : Plan) (long : Int) : Option (Int × Int) :=
 (
 bif decide (long < 1) then
  some true
 else
  bif decide (long > 1000) then
  some true
  else
  (cD p.From 1000000).bind fun x =>
  bif ! x then
   some true
  else
   (cD p.Until 1000000).bind fun x1 =>
   bif ! x1 then
   some true
   else
   (cD p.Need.Mem 1073741824).bind fun x2 =>
   bif ! x2 then
    some true
   else
    (cD p.Need.Cores 1073741824).bind fun x3 =>
    some (! x3)).bind fun q =>
 bif q then
 some (0,1)
 else
 (mkl 8 1 (w64 ((l.length : Int) + 1)) 0).bind fun l1 =>
 (inb 0 l1.length).bind fun i =>
 (l1[i]?).bind fun x4 =>
 (itr 4096 (om l p) (List.set l1 i p.From,0)).bind fun times1 =>
 (ca times1).bind fun _ =>
 (itr 4096 (nW l total p long times1) 0).bind fun q0 =>
 match q0 with
 | .inl q2 =>
  some (q2.1,q2.2)
 | .inr _ =>
  some (0,16)
theorem Es (l : List Plan) (total : Vec) (p : Plan) (long : Int) : Lo (tE l total p long) (r8 l total p long):=by
 unfold tE r8
 repeat' (first | (with_reducible first | exact wS _ _ | exact A1 _ _ _ | exact jC _ | exact Bu _ _ _ _ _ _ | apply ad | apply ae | apply ab | apply ag | apply aj | refine ai ?_ _ | exact ah _) | (intro _) | exact af | (dsimp only))
def rf (p : Plan) (x : State) (k : Int) : Option (Int ⊕ Int) :=
 (
 bif decide (k < (x.Plans.length : Int)) then
  (inb k x.Plans.length).bind fun i =>
  (x.Plans[i]?).bind fun x1 =>
  some (decide (x1.Id < p.Id))
 else
  some false).bind fun q =>
 bif q then
 some (.inl (w64 (k + 1)))
 else
 some (.inr k)
theorem Dg (p : Plan) (x : State) (k : Int) : Lo (rf p x k) (vO p x k):=by
 unfold rf vO
 repeat' (first | (with_reducible first | apply ad | apply ae | apply ab | apply ag | apply aj | refine ai ?_ _ | exact ah _) | (intro _) | exact af | (dsimp only))
def w_ (s : State) (p : Plan) (long : Int) : Option (State × Int × Int) :=
 (bP s []).bind fun x =>
 (itr 4096 (rf p x) 0).bind fun k1 =>
 (
 (cD p.Id 999).bind fun x2 =>
 bif ! x2 then
  some true
 else
  (cD p.Label (w64 ((x.Conf.Labels.length : Int) - 1))).bind fun x3 =>
  bif ! x3 then
  some true
  else
  some ((p.Need.Mem == 0) && (p.Need.Cores == 0))).bind fun q1 =>
 bif q1 then
 some (x,0,1)
 else
 (nD x.Plans (fun a' => yA a'.1 p)).bind fun x4 =>
 bif x4 then
  some (x,0,7)
 else
  bif decide ((x.Plans.length : Int) ≥ 12) then
  some (x,0,4)
  else
  bif decide (p.From < x.Now) then
   some (x,0,15)
  else
   (dt x p.Label).bind fun x5 =>
   (tE x.Plans x5 p long).bind fun x6 =>
   bif x6.2 != 0 then
   some (x,0,x6.2)
   else
   (mkl 48 (w64 ((x.Plans.length : Int) + 1)) (w64 ((x.Plans.length : Int) + 1)) (⟨0,0,0,0,⟨0,0⟩⟩ : Plan)).bind fun l =>
   (inS 0 k1 x.Plans.length).bind fun p1 =>
   (inb k1 (cpy l 0 l.length (sub x.Plans p1.1 p1.2)).length).bind fun i1 =>
   ((cpy l 0 l.length (sub x.Plans p1.1 p1.2))[i1]?).bind fun x7 =>
   (inS (w64 (k1 + 1)) ((List.set (cpy l 0 l.length (sub x.Plans p1.1 p1.2)) i1 (⟨p.Id,p.Label,x6.1,w64 (x6.1 + long),⟨p.Need.Mem,p.Need.Cores⟩⟩ : Plan)).length : Int) (List.set (cpy l 0 l.length (sub x.Plans p1.1 p1.2)) i1 (⟨p.Id,p.Label,x6.1,w64 (x6.1 + long),⟨p.Need.Mem,p.Need.Cores⟩⟩ : Plan)).length).bind fun p2 =>
   (inS k1 (x.Plans.length : Int) x.Plans.length).bind fun p3 =>
   some ((⟨⟨x.Conf.Labels,x.Conf.Queues⟩,x.Nodes,x.Apps,x.Conts,x.Slots,cpy (List.set (cpy l 0 l.length (sub x.Plans p1.1 p1.2)) i1 (⟨p.Id,p.Label,x6.1,w64 (x6.1 + long),⟨p.Need.Mem,p.Need.Cores⟩⟩ : Plan)) p2.1 p2.2 (sub x.Plans p3.1 p3.2),x.Now,x.Epoch,x.Seq⟩ : State),x6.1,0)
theorem Gz (s : State) (p : Plan) (long : Int) : Lo (w_ s p long) (xg s p long):=by
 unfold w_ xg
 repeat' (first | (with_reducible first | exact gO _ _ | exact Dg _ _ _ | exact wS _ _ | refine A_ _ _ _ ?_ | exact Er _ _ | exact gH _ _ | exact Es _ _ _ _ | apply ad | apply ae | apply ab | apply ag | apply aj | refine ai ?_ _ | exact ah _) | (intro _) | exact af | (dsimp only))
def eW (t : Step) : Option (Output × Step) :=
 (w_ t.s t.x.Plan t.x.N).bind fun x =>
 bif x.2.2 != 0 then
 none
 else
 some ((⟨0,[],[],[],x.2.1⟩ : Output),(⟨⟨⟨x.1.Conf.Labels,x.1.Conf.Queues⟩,x.1.Nodes,x.1.Apps,x.1.Conts,x.1.Slots,x.1.Plans,x.1.Now,x.1.Epoch,x.1.Seq⟩,⟨t.x.Kind,t.x.Id,t.x.Beat,t.x.N,t.x.Text,⟨t.x.Node.Id,t.x.Node.Label,t.x.Node.Rack,⟨t.x.Node.Cap.Mem,t.x.Node.Cap.Cores⟩,t.x.Node.Seen,t.x.Node.Beat,t.x.Node.Up⟩,⟨t.x.App.Id,t.x.App.State,t.x.App.Queue,t.x.App.User,t.x.App.Prio,⟨t.x.App.Master.Mem,t.x.App.Master.Cores⟩,t.x.App.Asks,t.x.App.Seen,t.x.App.Beat,t.x.App.Grants,t.x.App.Kills,t.x.App.Told,t.x.App.Lost⟩,t.x.Asks,t.x.Ids,⟨t.x.Plan.Id,t.x.Plan.Label,t.x.Plan.From,t.x.Plan.Until,⟨t.x.Plan.Need.Mem,t.x.Plan.Need.Cores⟩⟩⟩⟩ : Step))
theorem sY (t : Step) : Lo (eW t) (dl t):=by
 unfold eW dl
 repeat' (first | (with_reducible first | exact Gz _ _ _ | apply ad | apply ae | apply ab | apply ag | apply aj | refine ai ?_ _ | exact ah _) | (intro _) | exact af | (dsimp only))
def kO (t : Step) : Option (Output × Step) :=
 bif t.x.Kind == 1 then
 none
 else
 bif t.x.Kind == 2 then
  (lM t.s t.x.Node).bind fun x =>
  (dP t x.1 x.2).bind fun x1 =>
  some (x1.1,x1.2)
 else
  bif t.x.Kind == 3 then
  (jp t).bind fun x2 =>
  some (x2.1,x2.2)
  else
  bif t.x.Kind == 4 then
   (rj t.s t.x.App).bind fun x3 =>
   (dP t x3.1 x3.2).bind fun x4 =>
   some (x4.1,x4.2)
  else
   bif t.x.Kind == 5 then
   (gV t).bind fun x5 =>
   some (x5.1,x5.2)
   else
   bif t.x.Kind == 6 then
    none
   else
    bif t.x.Kind == 7 then
    none
    else
    bif t.x.Kind == 8 then
     (jh t).bind fun x6 =>
     some (x6.1,x6.2)
    else
     bif t.x.Kind == 9 then
     (eW t).bind fun x7 =>
     some (x7.1,x7.2)
     else
     bif t.x.Kind == 10 then
      none
     else
      bif t.x.Kind == 11 then
      none
      else
      none
theorem zw (t : Step) : Lo (kO t) (jz t):=by
 unfold kO jz
 repeat' (first | (with_reducible first | exact Ak _ _ | exact wT _ _ _ | exact xj _ | exact De _ _ | exact vJ _ | exact xJ _ | exact sY _ | apply ad | apply ae | apply ab | apply ag | apply aj | refine ai ?_ _ | exact ah _) | (intro _) | exact af | (dsimp only))
def ko (s : State) (x : Input) : Option (State × Output) :=
 (bP s []).bind fun x1 =>
 (kO (⟨⟨⟨x1.Conf.Labels,x1.Conf.Queues⟩,x1.Nodes,x1.Apps,x1.Conts,x1.Slots,x1.Plans,x1.Now,x1.Epoch,x1.Seq⟩,⟨x.Kind,x.Id,x.Beat,x.N,x.Text,⟨x.Node.Id,x.Node.Label,x.Node.Rack,⟨x.Node.Cap.Mem,x.Node.Cap.Cores⟩,x.Node.Seen,x.Node.Beat,x.Node.Up⟩,⟨x.App.Id,x.App.State,x.App.Queue,x.App.User,x.App.Prio,⟨x.App.Master.Mem,x.App.Master.Cores⟩,x.App.Asks,x.App.Seen,x.App.Beat,x.App.Grants,x.App.Kills,x.App.Told,x.App.Lost⟩,x.Asks,x.Ids,⟨x.Plan.Id,x.Plan.Label,x.Plan.From,x.Plan.Until,⟨x.Plan.Need.Mem,x.Plan.Need.Cores⟩⟩⟩⟩ : Step)).bind fun x2 =>
 bif x2.1.Err != 0 then
 (bP s []).bind fun x3 =>
 some (x3,x2.1)
 else
 (bP x2.2.s []).bind fun x4 =>
 some (x4,x2.1)
theorem vd (s : State) (x : Input) : Lo (ko s x) (jP s x):=by
 unfold ko jP
 repeat' (first | (with_reducible first | exact gO _ _ | exact zw _ | apply ad | apply ae | apply ab | apply ag | apply aj | refine ai ?_ _ | exact ah _) | (intro _) | exact af | (dsimp only))
def fQ (t : State × Int) : Option ((State × Int) ⊕ (Bool ⊕ State)) :=
 bif decide (t.2 < ([(⟨2,0,0,0,[],⟨1,0,0,⟨1,1⟩,0,0,false⟩,⟨0,0,[],0,0,⟨0,0⟩,[],0,0,[],[],[],[]⟩,[],[],⟨0,0,0,0,⟨0,0⟩⟩⟩ : Input),(⟨4,0,0,0,[],⟨0,0,0,⟨0,0⟩,0,0,false⟩,⟨2,0,([114,111,111,116] : List UInt8),0,0,⟨1,1⟩,[],0,0,[],[],[],[]⟩,[],[],⟨0,0,0,0,⟨0,0⟩⟩⟩ : Input),(⟨3,1,1,0,[],⟨0,0,0,⟨0,0⟩,0,0,false⟩,⟨0,0,[],0,0,⟨0,0⟩,[],0,0,[],[],[],[]⟩,[],[],⟨0,0,0,0,⟨0,0⟩⟩⟩ : Input)].length : Int)) then
 (inb t.2 [(⟨2,0,0,0,[],⟨1,0,0,⟨1,1⟩,0,0,false⟩,⟨0,0,[],0,0,⟨0,0⟩,[],0,0,[],[],[],[]⟩,[],[],⟨0,0,0,0,⟨0,0⟩⟩⟩ : Input),(⟨4,0,0,0,[],⟨0,0,0,⟨0,0⟩,0,0,false⟩,⟨2,0,([114,111,111,116] : List UInt8),0,0,⟨1,1⟩,[],0,0,[],[],[],[]⟩,[],[],⟨0,0,0,0,⟨0,0⟩⟩⟩ : Input),(⟨3,1,1,0,[],⟨0,0,0,⟨0,0⟩,0,0,false⟩,⟨0,0,[],0,0,⟨0,0⟩,[],0,0,[],[],[],[]⟩,[],[],⟨0,0,0,0,⟨0,0⟩⟩⟩ : Input)].length).bind fun i =>
 ([(⟨2,0,0,0,[],⟨1,0,0,⟨1,1⟩,0,0,false⟩,⟨0,0,[],0,0,⟨0,0⟩,[],0,0,[],[],[],[]⟩,[],[],⟨0,0,0,0,⟨0,0⟩⟩⟩ : Input),(⟨4,0,0,0,[],⟨0,0,0,⟨0,0⟩,0,0,false⟩,⟨2,0,([114,111,111,116] : List UInt8),0,0,⟨1,1⟩,[],0,0,[],[],[],[]⟩,[],[],⟨0,0,0,0,⟨0,0⟩⟩⟩ : Input),(⟨3,1,1,0,[],⟨0,0,0,⟨0,0⟩,0,0,false⟩,⟨0,0,[],0,0,⟨0,0⟩,[],0,0,[],[],[],[]⟩,[],[],⟨0,0,0,0,⟨0,0⟩⟩⟩ : Input)][i]?).bind fun x1 =>
 (ko t.1 x1).bind fun x2 =>
 bif x2.2.Err != 0 then
  some (.inr (.inl false))
 else
  some (.inl (x2.1,w64 (t.2 + 1)))
 else
 some (.inr (.inr (t.1)))
theorem uF (t : State × Int) : Lo (fQ t) (iK t):=by
 unfold fQ iK
 repeat' (first | (with_reducible first | exact vd _ _ | apply ad | apply ae | apply ab | apply ag | apply aj | refine ai ?_ _ | exact ah _) | (intro _) | exact af | (dsimp only))
def jk : Option Bool :=
 (lI).bind fun x =>
 (itr 4096 fQ (x,0)).bind fun q0 =>
 match q0 with
 | .inl q =>
 some q
 | .inr s =>
 bif (s.Conts.length : Int) == 1 then
  (inb 0 s.Conts.length).bind fun i1 =>
  (s.Conts[i1]?).bind fun x3 =>
  bif x3.Master then
  (oq s).bind fun x4 =>
  some x4
  else
  some false
 else
  some false
theorem xw : Lo (jk) (gw):=by
 unfold jk gw
 repeat' (first | (with_reducible first | exact wN  | exact uF _ | exact Bd _ | apply ad | apply ae | apply ab | apply ag | apply aj | refine ai ?_ _ | exact ah _) | (intro _) | exact af | (dsimp only))
def cv (at_ : Int) (n : Int) : Option Int :=
 (nz n).bind fun _ =>
 (
 bif decide ((Int.tmod at_ n) < 0) then
  let k:=w64 ((Int.tmod at_ n) + n)
  some k
 else
  some (Int.tmod at_ n)).bind fun k1 =>
 some k1
theorem v_ (at_ : Int) (n : Int) : Lo (cv at_ n) (av at_ n):=by
 unfold cv av
 repeat' (first | (with_reducible first | apply ad | apply ae | apply ab | apply ag | apply aj | refine ai ?_ _ | exact ah _) | (intro _) | exact af | (dsimp only))
def iE (l : List Input) (t : State × State × Int) : Option ((State × State × Int) ⊕ ((State × Bool) ⊕ (State × State))) :=
 bif decide (t.2.2 < (l.length : Int)) then
 (idx l t.2.2).bind fun x =>
 (ko t.1 x).bind fun x1 =>
 bif x1.2.Err != 0 then
  some (.inr (.inl (t.1,false)))
 else
  some (.inl (x1.1,t.2.1,w64 (t.2.2 + 1)))
 else
 some (.inr (.inr (t.1,t.2.1)))
theorem wa (l : List Input) (t : State × State × Int) : Lo (iE l t) (jS l t):=by
 unfold iE jS
 repeat' (first | (with_reducible first | exact vd _ _ | apply ad | apply ae | apply ab | apply ag | apply aj | refine ai ?_ _ | exact ah _) | (intro _) | exact af | (dsimp only))
def cB (s : State) (l : List Input) : Option (State × Bool) :=
 (itr 4096 (iE l) (s,(⟨⟨[],[]⟩,[],[],[],[],[],0,0,0⟩ : State),0)).bind fun q0 =>
 match q0 with
 | .inl q =>
 some (q.1,q.2)
 | .inr q1 =>
 some (q1.1,true)
theorem jU (s : State) (l : List Input) : Lo (cB s l) (cy s l):=by
 unfold cB cy
 repeat' (first | (with_reducible first | exact wa _ _ | apply ad | apply ae | apply ab | apply ag | apply aj | refine ai ?_ _ | exact ah _) | (intro _) | exact af | (dsimp only))
def fE : Option Vec :=
 some (⟨1,1⟩ : Vec)
theorem ou : Lo (fE) (em):=by
 unfold fE em
 repeat' (first | (with_reducible first | apply ad | apply ae | apply ab | apply ag | apply aj | refine ai ?_ _ | exact ah _) | (intro _) | exact af | (dsimp only))
def je (n : Int) : Option (List Ask) :=
 (fE).bind fun x =>
 some [(⟨1,0,⟨x.Mem,x.Cores⟩,n,(-1),(-1),0⟩ : Ask)]
theorem xn (n : Int) : Lo (je n) (gr n):=by
 unfold je gr
 repeat' (first | (with_reducible first | exact ou  | apply ad | apply ae | apply ab | apply ag | apply aj | refine ai ?_ _ | exact ah _) | (intro _) | exact af | (dsimp only))
def eX (s : State) (id_ : Int) (t : App × Int) : Option ((App × Int) ⊕ ((App × Bool) ⊕ App)) :=
 bif decide (t.2 < (s.Apps.length : Int)) then
 (idx s.Apps t.2).bind fun x =>
 bif x.Id == id_ then
  (idx s.Apps t.2).bind fun x1 =>
  some (.inr (.inl (x1,true)))
 else
  some (.inl (t.1,w64 (t.2 + 1)))
 else
 some (.inr (.inr (t.1)))
theorem tT (s : State) (id_ : Int) (t : App × Int) : Lo (eX s id_ t) (gL s id_ t):=by
 unfold eX gL
 repeat' (first | (with_reducible first | apply ad | apply ae | apply ab | apply ag | apply aj | refine ai ?_ _ | exact ah _) | (intro _) | exact af | (dsimp only))
def iB (s : State) (id_ : Int) : Option (App × Bool) :=
 (itr 4096 (eX s id_) ((⟨0,0,[],0,0,⟨0,0⟩,[],0,0,[],[],[],[]⟩ : App),0)).bind fun q0 =>
 match q0 with
 | .inl q =>
 some (q.1,q.2)
 | .inr q1 =>
 some ((⟨0,0,[],0,0,⟨0,0⟩,[],0,0,[],[],[],[]⟩ : App),false)
theorem wI (s : State) (id_ : Int) : Lo (iB s id_) (fP s id_):=by
 unfold iB fP
 repeat' (first | (with_reducible first | exact tT _ _ _ | apply ad | apply ae | apply ab | apply ag | apply aj | refine ai ?_ _ | exact ah _) | (intro _) | exact af | (dsimp only))
def js (a : Vec) (b : Vec) : Option Vec :=
 some (⟨w64 (a.Mem + b.Mem),w64 (a.Cores + b.Cores)⟩ : Vec)
theorem xD (a : Vec) (b : Vec) : Lo (js a b) (gu a b):=by
 unfold js gu
 repeat' (first | (with_reducible first | apply ad | apply ae | apply ab | apply ag | apply aj | refine ai ?_ _ | exact ah _) | (intro _) | exact af | (dsimp only))
def eY (path : List UInt8) (k1 : Int) : Option (Int ⊕ Int) :=
 (
 bif decide (k1 ≥ 0) then
  (idx path k1).bind fun ch =>
  some ((ch.toNat : Int) != 46)
 else
  some false).bind fun q =>
 bif q then
 some (.inl (w64 (k1 - 1)))
 else
 some (.inr k1)
theorem uA (path : List UInt8) (k1 : Int) : Lo (eY path k1) (gy path k1):=by
 unfold eY gy
 repeat' (first | (with_reducible first | apply ad | apply ae | apply ab | apply ag | apply aj | refine ai ?_ _ | exact ah _) | (intro _) | exact af | (dsimp only))
def iD (path : List UInt8) : Option (List UInt8) :=
 let k:=w64 ((path.length : Int) - 1)
 (itr 4096 (eY path) k).bind fun k2 =>
 bif decide (k2 < 0) then
 some ([] : List UInt8)
 else
 (slc path 0 k2).bind fun s =>
 some s
theorem wD (path : List UInt8) : Lo (iD path) (fJ path):=by
 unfold iD fJ
 repeat' (first | (with_reducible first | exact uA _ _ | apply ad | apply ae | apply ab | apply ag | apply aj | refine ai ?_ _ | exact ah _) | (intro _) | exact af | (dsimp only))
def iG (t : List UInt8 × List (List UInt8)) : Option ((List UInt8 × List (List UInt8)) ⊕ List (List UInt8)) :=
 bif ! (t.1 == ([] : List UInt8)) then
 (app 16 t.2 [t.1]).bind fun l =>
 (iD t.1).bind fun path1 =>
 some (.inl (path1,l))
 else
 some (.inr t.2)
theorem wQ (t : List UInt8 × List (List UInt8)) : Lo (iG t) (jV t):=by
 unfold iG jV
 repeat' (first | (with_reducible first | exact wD _ | apply ad | apply ae | apply ab | apply ag | apply aj | refine ai ?_ _ | exact ah _) | (intro _) | exact af | (dsimp only))
def kS (path : List UInt8) : Option (List (List UInt8)) :=
 (itr 4096 iG (path,[])).bind fun l1 =>
 some l1
theorem yI (path : List UInt8) : Lo (kS path) (jB path):=by
 unfold kS jB
 repeat' (first | (with_reducible first | exact wQ _ | apply ad | apply ae | apply ab | apply ag | apply aj | refine ai ?_ _ | exact ah _) | (intro _) | exact af | (dsimp only))
def er (path : List UInt8) (up : List (List UInt8)) (i : Int) : Option (Int ⊕ (Bool ⊕ Unit)) :=
 bif decide (i < (up.length : Int)) then
 (inb i up.length).bind fun i1 =>
 (up[i1]?).bind fun x =>
 bif x == path then
  some (.inr (.inl true))
 else
  some (.inl (w64 (i + 1)))
 else
 some (.inr (.inr ()))
theorem sd (path : List UInt8) (up : List (List UInt8)) (i : Int) : Lo (er path up i) (fV path up i):=by
 unfold er fV
 repeat' (first | (with_reducible first | apply ad | apply ae | apply ab | apply ag | apply aj | refine ai ?_ _ | exact ah _) | (intro _) | exact af | (dsimp only))
def gS (leaf : List UInt8) (path : List UInt8) : Option Bool :=
 (kS leaf).bind fun up =>
 (itr 4096 (er path up) 0).bind fun q0 =>
 match q0 with
 | .inl q =>
 some q
 | .inr _ =>
 some false
theorem vl (leaf : List UInt8) (path : List UInt8) : Lo (gS leaf path) (eD leaf path):=by
 unfold gS eD
 repeat' (first | (with_reducible first | exact yI _ | exact sd _ _ _ | apply ad | apply ae | apply ab | apply ag | apply aj | refine ai ?_ _ | exact ah _) | (intro _) | exact af | (dsimp only))
def eK (s : State) (path : List UInt8) (label : Int) (all : Bool) (user : Int) (t : Vec × Int) : Option ((Vec × Int) ⊕ Vec) :=
 bif decide (t.2 < (s.Conts.length : Int)) then
 (
  (idx s.Conts t.2).bind fun x =>
  (iB s x.App).bind fun x1 =>
  (
  bif x1.2 then
   (idx s.Conts t.2).bind fun x2 =>
   bif x2.Label == label then
   (gS x1.1.Queue path).bind fun x3 =>
   bif x3 then
    bif all then
    some true
    else
    some (x1.1.User == user)
   else
    some false
   else
   some false
  else
   some false).bind fun q =>
  bif q then
  (idx s.Conts t.2).bind fun x4 =>
  (js t.1 x4.Size).bind fun x5 =>
  some x5
  else
  some t.1).bind fun v =>
 some (.inl (v,w64 (t.2 + 1)))
 else
 some (.inr t.1)
theorem tO (s : State) (path : List UInt8) (label : Int) (all : Bool) (user : Int) (t : Vec × Int) : Lo (eK s path label all user t) (gT s path label all user t):=by
 unfold eK gT
 repeat' (first | (with_reducible first | exact wI _ _ | exact vl _ _ | exact xD _ _ | apply ad | apply ae | apply ab | apply ag | apply aj | refine ai ?_ _ | exact ah _) | (intro _) | exact af | (dsimp only))
def iq (s : State) (path : List UInt8) (label : Int) (all : Bool) (user : Int) : Option Vec :=
 (itr 4096 (eK s path label all user) ((⟨0,0⟩ : Vec),0)).bind fun v1 =>
 some v1
theorem wu (s : State) (path : List UInt8) (label : Int) (all : Bool) (user : Int) : Lo (iq s path label all user) (fw s path label all user):=by
 unfold iq fw
 repeat' (first | (with_reducible first | exact tO _ _ _ _ _ _ | apply ad | apply ae | apply ab | apply ag | apply aj | refine ai ?_ _ | exact ah _) | (intro _) | exact af | (dsimp only))
def dY (s : State) (path : List UInt8) (label : Int) : Option Vec :=
 (iq s path label true 0).bind fun x =>
 some x
theorem wG (s : State) (path : List UInt8) (label : Int) : Lo (dY s path label) (c_ s path label):=by
 unfold dY c_
 repeat' (first | (with_reducible first | exact wu _ _ _ _ _ | apply ad | apply ae | apply ab | apply ag | apply aj | refine ai ?_ _ | exact ah _) | (intro _) | exact af | (dsimp only))
def dO (q : State × Int) (t1 : State × Int) : Option ((State × Int) ⊕ State) :=
 bif decide (t1.2 < 8) then
 (cB t1.1 [(⟨3,1,w64 (q.2 + t1.2),0,[],⟨0,0,0,⟨0,0⟩,0,0,false⟩,⟨0,0,[],0,0,⟨0,0⟩,[],0,0,[],[],[],[]⟩,[],[],⟨0,0,0,0,⟨0,0⟩⟩⟩ : Input)]).bind fun x11 =>
 some (.inl (x11.1,w64 (t1.2 + 1)))
 else
 some (.inr t1.1)
theorem qS (q : State × Int) (t1 : State × Int) : Lo (dO q t1) (eZ q t1):=by
 unfold dO eZ
 repeat' (first | (with_reducible first | exact jU _ _ | apply ad | apply ae | apply ab | apply ag | apply aj | refine ai ?_ _ | exact ah _) | (intro _) | exact af | (dsimp only))
def dD (t : State × Int) : Option ((State × Int) ⊕ ((State × Int))) :=
 bif decide (t.2 < 9) then
 (cB t.1 [(⟨3,1,t.2,0,[],⟨0,0,0,⟨0,0⟩,0,0,false⟩,⟨0,0,[],0,0,⟨0,0⟩,[],0,0,[],[],[],[]⟩,[],[],⟨0,0,0,0,⟨0,0⟩⟩⟩ : Input)]).bind fun x8 =>
 some (.inl (x8.1,w64 (t.2 + 1)))
 else
 some (.inr (t.1,t.2))
theorem rM (t : State × Int) : Lo (dD t) (e_ t):=by
 unfold dD e_
 repeat' (first | (with_reducible first | exact jU _ _ | apply ad | apply ae | apply ab | apply ag | apply aj | refine ai ?_ _ | exact ah _) | (intro _) | exact af | (dsimp only))
def am (need : Int) (units : Int) (long : Int) : Option Bool :=
 (jk).bind fun x =>
 bif ! x then
 some false
 else
 (cv units 10).bind fun x1 =>
 (cv need (w64 ((w64 (3 + x1)) - 2))).bind fun x2 =>
 (cv long 8).bind fun x3 =>
 (lI).bind fun x4 =>
 (fE).bind fun x5 =>
 (je 40).bind fun x6 =>
 (cB x4 [(⟨2,0,0,0,[],⟨1,0,0,⟨w64 (3 + x1),w64 (3 + x1)⟩,0,0,false⟩,⟨0,0,[],0,0,⟨0,0⟩,[],0,0,[],[],[],[]⟩,[],[],⟨0,0,0,0,⟨0,0⟩⟩⟩ : Input),(⟨9,0,0,w64 (1 + x3),[],⟨0,0,0,⟨0,0⟩,0,0,false⟩,⟨0,0,[],0,0,⟨0,0⟩,[],0,0,[],[],[],[]⟩,[],[],⟨1,0,0,100,⟨w64 (1 + x2),w64 (1 + x2)⟩⟩⟩ : Input),(⟨4,0,0,0,[],⟨0,0,0,⟨0,0⟩,0,0,false⟩,⟨1,0,([114,111,111,116] : List UInt8),0,0,⟨x5.Mem,x5.Cores⟩,[],0,0,[],[],[],[]⟩,[],[],⟨0,0,0,0,⟨0,0⟩⟩⟩ : Input),(⟨3,1,1,0,[],⟨0,0,0,⟨0,0⟩,0,0,false⟩,⟨0,0,[],0,0,⟨0,0⟩,[],0,0,[],[],[],[]⟩,[],[],⟨0,0,0,0,⟨0,0⟩⟩⟩ : Input),(⟨5,1,1,0,[],⟨0,0,0,⟨0,0⟩,0,0,false⟩,⟨0,0,[],0,0,⟨0,0⟩,[],0,0,[],[],[],[]⟩,x6,[],⟨0,0,0,0,⟨0,0⟩⟩⟩ : Input)]).bind fun x7 =>
 bif ! x7.2 then
  some false
 else
  (itr 4096 dD (x7.1,2)).bind fun q =>
  (dY q.1 ([114,111,111,116] : List UInt8) 0).bind fun x9 =>
  bif x9.Mem != (w64 ((w64 (3 + x1)) - (w64 (1 + x2)))) then
  some false
  else
  (cB q.1 [(⟨8,0,0,w64 (1 + x3),[],⟨0,0,0,⟨0,0⟩,0,0,false⟩,⟨0,0,[],0,0,⟨0,0⟩,[],0,0,[],[],[],[]⟩,[],[],⟨0,0,0,0,⟨0,0⟩⟩⟩ : Input)]).bind fun x10 =>
  (itr 4096 (dO q) (x10.1,0)).bind fun s =>
  bif x10.2 then
   (dY s ([114,111,111,116] : List UInt8) 0).bind fun x12 =>
   bif x12.Mem == (w64 (3 + x1)) then
   some ((s.Plans.length : Int) == 0)
   else
   some false
  else
   some false
theorem aG (need : Int) (units : Int) (long : Int) : Lo (am need units long) (ap need units long):=by
 unfold am ap
 repeat' (first | (with_reducible first | exact xw  | exact v_ _ _ | exact wN  | exact ou  | exact xn _ | exact jU _ _ | exact rM _ | exact wG _ _ _ | exact qS _ _ | apply ad | apply ae | apply ab | apply ag | apply aj | refine ai ?_ _ | exact ah _) | (intro _) | exact af | (dsimp only))
end Go.Fx.D
