/-
  The same functions with a bound on the rounds of their loops;that they give what the others give (printed by a program). Conditions: none.
-/
import Derived.Test.YtkagmokhbmbjdaaGreatDoorD
import Derived.Test.YtkagmokhbmbjdaaGreatDoorFxD
namespace Go.Fx.D
open Go Go.Fx
set_option linter.unusedVariables false
set_option linter.unusedSimpArgs false
set_option maxRecDepth 100000
def pQ(l:List (List UInt8)):Option Int:=
 (itr 4096 (ur l) ([],0)).bind λq0=>
 match q0 with
 | .inl q1=>
 some q1
 | .inr was=>
 bif decide ((was.length:Int)<(l.length:Int))then
  some 7
 else
  some 0
theorem Bv(l:List (List UInt8)):Lo (pQ l) (oN l):=by
 unfold pQ oN
 repeat' (first | (with_reducible first | apply aC | apply aA | apply az | apply af | apply ah | refine ai ?_ _ | exact ag _) | (intro _) | exact ae | (dsimp only))
def cO(s:List UInt8)(c:Int):Option Int:=
 let i:=w64 ((s.length:Int) - 1)
 (itr 4096 (eX s c) i).bind λq0=>
 match q0 with
 | .inl q=>
 some q
 | .inr _=>
 some (-1)
theorem mY(s:List UInt8)(c:Int):Lo (cO s c) (bR s c):=by
 unfold cO bR
 repeat' (first | (with_reducible first | apply aC | apply aA | apply az | apply af | apply ah | refine ai ?_ _ | exact ag _) | (intro _) | exact ae | (dsimp only))
def iL(s:List UInt8)(substr:List UInt8):Option Int:=
 bif(substr.length:Int) == 0 then
 some (s.length:Int)
 else
 bif(substr.length:Int) == 1 then
  (idx substr 0).bind λch=>
  (cO s (ch.toNat:Int)).bind λx=>
  some x
 else
  bif(substr.length:Int) == (s.length:Int)then
  bif substr == s then
   some 0
  else
   some (-1)
  else
  bif decide ((substr.length:Int)>(s.length:Int))then
   some (-1)
  else
   none
theorem uO(s:List UInt8)(substr:List UInt8):Lo (iL s substr) (fO s substr):=by
 unfold iL fO
 repeat' (first | (with_reducible first | exact mY _ _ | apply af | apply ah | refine ai ?_ _ | exact ag _) | (intro _) | exact ae | (dsimp only))
def jb(path:List UInt8):Option (List UInt8×Bool):=
 (iL path ([46]:List UInt8)).bind λi=>
 bif decide (i<0)then
 some (([]:List UInt8),false)
 else
 (slc path 0 i).bind λs=>
 some (s,true)
theorem pT(path:List UInt8):Lo (jb path) (jN path):=by
 unfold jb jN
 repeat' (first | (with_reducible first | exact uO _ _ | apply af | apply ah | refine ai ?_ _ | exact ag _) | (intro _) | exact ae | (dsimp only))
def ji(s:List UInt8)(sep:List UInt8)(sepSave:Int)(n:Int):Option (List (List UInt8)):=
 bif n == 0 then
 some []
 else
 bif sep == ([]:List UInt8)then
  none
 else
  (
  bif decide (n<0)then
   (pW s sep).bind λx=>
   some (w64 (x+1))
  else
   some n).bind λn1=>
  let n2:=imin n1 (w64 ((s.length:Int)+1))
  (mkl 16 n2 n2 []).bind λl=>
  (itr 4096 (nj sep sepSave n2) (s,l,0)).bind λq=>
  (inb q.2.2 q.2.1.length).bind λi1=>
  (q.2.1[i1]?).bind λx2=>
  (inS 0 (w64 (q.2.2+1)) (List.set q.2.1 i1 q.1).length).bind λp=>
  some (List.take p.2 (List.set q.2.1 i1 q.1))
theorem vV(s:List UInt8)(sep:List UInt8)(sepSave:Int)(n:Int):Lo (ji s sep sepSave n) (gR s sep sepSave n):=by
 unfold ji gR
 repeat' (first | (with_reducible first | apply af | apply ah | refine ai ?_ _ | exact ag _) | (intro _) | exact ae | (dsimp only))
def fw(s:List UInt8)(sep:List UInt8):Option (List (List UInt8)):=
 (ji s sep 0 (-1)).bind λx=>
 some x
theorem kT(s:List UInt8)(sep:List UInt8):Lo (fw s sep) (eT s sep):=by
 unfold fw eT
 repeat' (first | (with_reducible first | exact vV _ _ _ _ | apply af | apply ah | refine ai ?_ _ | exact ag _) | (intro _) | exact ae | (dsimp only))
def bn(s:List (List UInt8))(f:(TupT fam [.str]→Option Bool))(t:Int):Option (Int ⊕ (Int ⊕ Unit)):=
 bif decide (t<(s.length:Int))then
 (idx s t).bind λx=>
 (f (x,())).bind λr=>
 bif r then
  some (.inr (.inl t))
 else
  some (.inl (w64 (t+1)))
 else
 some (.inr (.inr ()))
theorem ia(s:List (List UInt8))(f f_':(TupT fam [.str]→Option Bool))(h_f:∀a,Lo (f a) (f_' a))(t:Int):Lo (bn s f t) (bG s f_' t):=by
 unfold bn bG
 repeat' (first | (with_reducible first | exact h_f _ | apply af | apply ah | refine ai ?_ _ | exact ag _) | (intro _) | exact ae | (dsimp only))
def aX(s:List (List UInt8))(f:(TupT fam [.str]→Option Bool)):Option Int:=
 (itr 4096 (bn s f) 0).bind λq0=>
 match q0 with
 | .inl q=>
 some q
 | .inr _=>
 some (-1)
theorem dh(s:List (List UInt8))(f f_':(TupT fam [.str]→Option Bool))(h_f:∀a,Lo (f a) (f_' a)):Lo (aX s f) (aS s f_'):=by
 unfold aX aS
 repeat' (first | (with_reducible first | refine ia _ _ _ ?_ _ | exact h_f _ | apply aC | apply aA | apply az | apply af | apply ah | refine ai ?_ _ | exact ag _) | (intro _) | exact ae | (dsimp only))
def bk(s:List (List UInt8))(f:(TupT fam [.str]→Option Bool)):Option Bool:=
 (aX s f).bind λx=>
 some (decide (x≥0))
theorem ij(s:List (List UInt8))(f f_':(TupT fam [.str]→Option Bool))(h_f:∀a,Lo (f a) (f_' a)):Lo (bk s f) (aW s f_'):=by
 unfold bk aW
 repeat' (first | (with_reducible first | refine dh _ _ _ ?_ | exact h_f _ | apply af | apply ah | refine ai ?_ _ | exact ag _) | (intro _) | exact ae | (dsimp only))
def pL(s:List UInt8):Option Bool:=
 (fw s ([46]:List UInt8)).bind λl=>
 (inb 0 l.length).bind λi=>
 (l[i]?).bind λx=>
 bif x == ([114,111,111,116]:List UInt8)then
 bif decide ((l.length:Int)≤4)then
  (bk l (λa'=>qa a'.1)).bind λx1=>
  some (! x1)
 else
  some false
 else
 some false
theorem BB(s:List UInt8):Lo (pL s) (oT s):=by
 unfold pL oT
 repeat' (first | (with_reducible first | exact kT _ _ | refine ij _ _ _ ?_ | apply af | apply ah | refine ai ?_ _ | exact ag _) | (intro _) | exact ae | (dsimp only))
def qe(s:List Cap)(f:(TupT fam [.st 1]→Option Bool))(t:Int):Option (Int ⊕ (Int ⊕ Unit)):=
 bif decide (t<(s.length:Int))then
 (idx s t).bind λx=>
 (f (x,())).bind λr=>
 bif r then
  some (.inr (.inl t))
 else
  some (.inl (w64 (t+1)))
 else
 some (.inr (.inr ()))
theorem A6(s:List Cap)(f f_':(TupT fam [.st 1]→Option Bool))(h_f:∀a,Lo (f a) (f_' a))(t:Int):Lo (qe s f t) (tw s f_' t):=by
 unfold qe tw
 repeat' (first | (with_reducible first | exact h_f _ | apply af | apply ah | refine ai ?_ _ | exact ag _) | (intro _) | exact ae | (dsimp only))
def vd(s:List Cap)(f:(TupT fam [.st 1]→Option Bool)):Option Int:=
 (itr 4096 (qe s f) 0).bind λq0=>
 match q0 with
 | .inl q=>
 some q
 | .inr _=>
 some (-1)
theorem Ey(s:List Cap)(f f_':(TupT fam [.st 1]→Option Bool))(h_f:∀a,Lo (f a) (f_' a)):Lo (vd s f) (uW s f_'):=by
 unfold vd uW
 repeat' (first | (with_reducible first | refine A6 _ _ _ ?_ _ | exact h_f _ | apply aC | apply aA | apply az | apply af | apply ah | refine ai ?_ _ | exact ag _) | (intro _) | exact ae | (dsimp only))
def nH(s:List Cap)(f:(TupT fam [.st 1]→Option Bool)):Option Bool:=
 (vd s f).bind λx=>
 some (decide (x≥0))
theorem zZ(s:List Cap)(f f_':(TupT fam [.st 1]→Option Bool))(h_f:∀a,Lo (f a) (f_' a)):Lo (nH s f) (mQ s f_'):=by
 unfold nH mQ
 repeat' (first | (with_reducible first | refine Ey _ _ _ ?_ | exact h_f _ | apply af | apply ah | refine ai ?_ _ | exact ag _) | (intro _) | exact ae | (dsimp only))
def tE(l:List Cap):Option Bool:=
 (nH l (λa'=>tN a'.1)).bind λx=>
 some (! x)
theorem Di(l:List Cap):Lo (tE l) (sW l):=by
 unfold tE sW
 repeat' (first | (with_reducible first | refine zZ _ _ _ ?_ | apply af | apply ah | refine ai ?_ _ | exact ag _) | (intro _) | exact ae | (dsimp only))
def kV(c:Conf)(t:List Ent0_ListUInt8Int×List UInt8×Int):Option ((List Ent0_ListUInt8Int×List UInt8×Int) ⊕ (Int ⊕ Unit)):=
 bif decide (t.2.2<(c.Queues.length:Int))then
 (idx c.Queues t.2.2).bind λx=>
 (jb x.Path).bind λx1=>
 (pL x.Path).bind λx2=>
 bif ! x2 then
  some (.inr (.inl 12))
 else
  (
  bif decide (t.2.2>0)then
   some (strLe x.Path t.2.1)
  else
   some false).bind λq=>
  bif q then
  some (.inr (.inl 7))
  else
  (
   bif x1.2 then
   let e:=mget (λx3=>x1.1 == x3.k) t.1 (⟨x1.1,0⟩:Ent0_ListUInt8Int)
   some (e.v == 0)
   else
   some false).bind λq1=>
  bif q1 then
   some (.inr (.inl 12))
  else
   (
   bif decide (x.User<1)then
    some true
   else
    bif decide (x.User>1000000)then
    some true
    else
    bif(x.Caps.length:Int) != (c.Labels.length:Int)then
     some true
    else
     (tE x.Caps).bind λx4=>
     some (! x4)).bind λq2=>
   bif q2 then
   some (.inr (.inl 1))
   else
   let e1:=mget (λx5=>x.Path == x5.k) t.1 (⟨x.Path,0⟩:Ent0_ListUInt8Int)
   some (.inl (mput (λx6=>x.Path == x6.k) t.1 (⟨x.Path,w64 (e1.v+1)⟩:Ent0_ListUInt8Int),x.Path,w64 (t.2.2+1)))
 else
 some (.inr (.inr ()))
theorem yr(c:Conf)(t:List Ent0_ListUInt8Int×List UInt8×Int):Lo (kV c t) (nF c t):=by
 unfold kV nF
 repeat' (first | (with_reducible first | exact pT _ | exact BB _ | exact Di _ | apply af | apply ah | refine ai ?_ _ | exact ag _) | (intro _) | exact ae | (dsimp only))
def qi(c:Conf):Option Int:=
 (itr 4096 (kV c) ([],([]:List UInt8),0)).bind λq0=>
 match q0 with
 | .inl q3=>
 some q3
 | .inr _=>
 some 0
theorem BG(c:Conf):Lo (qi c) (oH c):=by
 unfold qi oH
 repeat' (first | (with_reducible first | exact yr _ _ | apply aC | apply aA | apply az | apply af | apply ah | refine ai ?_ _ | exact ag _) | (intro _) | exact ae | (dsimp only))
def nV(c:Conf)(path:List UInt8)(t:List (List UInt8)×Int):Option ((List (List UInt8)×Int) ⊕ List (List UInt8)):=
 bif decide (t.2<(c.Queues.length:Int))then
 (
  (idx c.Queues t.2).bind λx=>
  (jb x.Path).bind λx1=>
  (
  bif x1.2 then
   some (x1.1 == path)
  else
   some false).bind λq=>
  bif q then
  (app 16 t.1 [x.Path]).bind λl=>
  some l
  else
  some t.1).bind λout=>
 some (.inl (out,w64 (t.2+1)))
 else
 some (.inr t.1)
theorem Aw(c:Conf)(path:List UInt8)(t:List (List UInt8)×Int):Lo (nV c path t) (rG c path t):=by
 unfold nV rG
 repeat' (first | (with_reducible first | exact pT _ | apply af | apply ah | refine ai ?_ _ | exact ag _) | (intro _) | exact ae | (dsimp only))
def iq(c:Conf)(path:List UInt8):Option (List (List UInt8)):=
 (itr 4096 (nV c path) ([],0)).bind λout1=>
 some out1
theorem mT(c:Conf)(path:List UInt8):Lo (iq c path) (jk c path):=by
 unfold iq jk
 repeat' (first | (with_reducible first | exact Aw _ _ _ | apply af | apply ah | refine ai ?_ _ | exact ag _) | (intro _) | exact ae | (dsimp only))
def lZ(s:List Queue)(f:(TupT fam [.st 2]→Option Bool))(t:Int):Option (Int ⊕ (Int ⊕ Unit)):=
 bif decide (t<(s.length:Int))then
 (idx s t).bind λx=>
 (f (x,())).bind λr=>
 bif r then
  some (.inr (.inl t))
 else
  some (.inl (w64 (t+1)))
 else
 some (.inr (.inr ()))
theorem zu(s:List Queue)(f f_':(TupT fam [.st 2]→Option Bool))(h_f:∀a,Lo (f a) (f_' a))(t:Int):Lo (lZ s f t) (pR s f_' t):=by
 unfold lZ pR
 repeat' (first | (with_reducible first | exact h_f _ | apply af | apply ah | refine ai ?_ _ | exact ag _) | (intro _) | exact ae | (dsimp only))
def rB(s:List Queue)(f:(TupT fam [.st 2]→Option Bool)):Option Int:=
 (itr 4096 (lZ s f) 0).bind λq0=>
 match q0 with
 | .inl q=>
 some q
 | .inr _=>
 some (-1)
theorem Cv(s:List Queue)(f f_':(TupT fam [.st 2]→Option Bool))(h_f:∀a,Lo (f a) (f_' a)):Lo (rB s f) (qR s f_'):=by
 unfold rB qR
 repeat' (first | (with_reducible first | refine zu _ _ _ ?_ _ | exact h_f _ | apply aC | apply aA | apply az | apply af | apply ah | refine ai ?_ _ | exact ag _) | (intro _) | exact ae | (dsimp only))
def fL(c:Conf)(path:List UInt8):Option (Queue×Bool):=
 (rB c.Queues (λa'=>tj a'.1 path)).bind λi=>
 bif decide (i<0)then
 some ((⟨[],[],0⟩:Queue),false)
 else
 (idx c.Queues i).bind λx=>
 (gf x.Caps).bind λx1=>
 some ((⟨x.Path,x1,x.User⟩:Queue),true)
theorem jd(c:Conf)(path:List UInt8):Lo (fL c path) (gE c path):=by
 unfold fL gE
 repeat' (first | (with_reducible first | refine Cv _ _ _ ?_ | apply af | apply ah | refine ai ?_ _ | exact ag _) | (intro _) | exact ae | (dsimp only))
def ou(c:Conf)(kids:List (List UInt8))(t2:Int)(t3:Int×Int):Option ((Int×Int) ⊕ Int):=
 bif decide (t3.2<(kids.length:Int))then
 (inb t3.2 kids.length).bind λi=>
 (kids[i]?).bind λx3=>
 (fL c x3).bind λx4=>
 (inb t2 x4.1.Caps.length).bind λi1=>
 (x4.1.Caps[i1]?).bind λx5=>
 let sum:=w64 (t3.1+x5.Least)
 some (.inl (sum,w64 (t3.2+1)))
 else
 some (.inr t3.1)
theorem AJ(c:Conf)(kids:List (List UInt8))(t2:Int)(t3:Int×Int):Lo (ou c kids t2 t3) (rJ c kids t2 t3):=by
 unfold ou rJ
 repeat' (first | (with_reducible first | exact jd _ _ | apply af | apply ah | refine ai ?_ _ | exact ag _) | (intro _) | exact ae | (dsimp only))
def nX(c:Conf)(kids:List (List UInt8))(t2:Int):Option (Int ⊕ (Int ⊕ Unit)):=
 bif decide (t2<(c.Labels.length:Int))then
 (itr 4096 (ou c kids t2) (0,0)).bind λsum1=>
 (
  bif decide ((kids.length:Int)>0)then
  some (sum1 != 10000)
  else
  some false).bind λq2=>
 bif q2 then
  some (.inr (.inl 13))
 else
  some (.inl (w64 (t2+1)))
 else
 some (.inr (.inr ()))
theorem zQ(c:Conf)(kids:List (List UInt8))(t2:Int):Lo (nX c kids t2) (r7 c kids t2):=by
 unfold nX r7
 repeat' (first | (with_reducible first | exact AJ _ _ _ _ | apply af | apply ah | refine ai ?_ _ | exact ag _) | (intro _) | exact ae | (dsimp only))
def nR(c:Conf)(t1:Int):Option (Int ⊕ (Int ⊕ Unit)):=
 bif decide (t1<(c.Queues.length:Int))then
 (idx c.Queues t1).bind λx2=>
 (iq c x2.Path).bind λkids=>
 (itr 4096 (nX c kids) 0).bind λq0=>
 match q0 with
 | .inl q3=>
  some (.inr (.inl q3))
 | .inr _=>
  some (.inl (w64 (t1+1)))
 else
 some (.inr (.inr ()))
theorem AB(c:Conf)(t1:Int):Lo (nR c t1) (rH c t1):=by
 unfold nR rH
 repeat' (first | (with_reducible first | exact mT _ _ | exact zQ _ _ _ | apply aC | apply aA | apply az | apply af | apply ah | refine ai ?_ _ | exact ag _) | (intro _) | exact ae | (dsimp only))
def to(c:Conf):Option Int:=
 (idx c.Queues 0).bind λx=>
 (itr 4096 (xF x) 0).bind λq0=>
 match q0 with
 | .inl q1=>
 some q1
 | .inr _=>
 (itr 4096 (nR c) 0).bind λq0=>
 match q0 with
 | .inl q4=>
  some q4
 | .inr _=>
  some 0
theorem DA(c:Conf):Lo (to c) (sN c):=by
 unfold to sN
 repeat' (first | (with_reducible first | exact AB _ _ | apply aC | apply aA | apply az | apply af | apply ah | refine ai ?_ _ | exact ag _) | (intro _) | exact ae | (dsimp only))
def lO(c:Conf):Option Int:=
 (
 bif(c.Labels.length:Int) == 0 then
  some true
 else
  bif decide ((c.Labels.length:Int)>3)then
  some true
  else
  some (decide ((c.Queues.length:Int)>16))).bind λq=>
 bif q then
 some 4
 else
 (pQ c.Labels).bind λe=>
 bif e != 0 then
  some e
 else
  (
  bif(c.Queues.length:Int) == 0 then
   some true
  else
   (idx c.Queues 0).bind λx=>
   some (! (x.Path == ([114,111,111,116]:List UInt8)))).bind λq1=>
  bif q1 then
  some 12
  else
  (qi c).bind λe1=>
  bif e1 != 0 then
   some e1
  else
   (to c).bind λx1=>
   some x1
theorem vz(c:Conf):Lo (lO c) (ml c):=by
 unfold lO ml
 repeat' (first | (with_reducible first | exact Bv _ | exact BG _ | exact DA _ | apply af | apply ah | refine ai ?_ _ | exact ag _) | (intro _) | exact ae | (dsimp only))
def pY(s:List Vec)(f:(TupT fam [.st 0]→Option Bool))(t:Int):Option (Int ⊕ (Int ⊕ Unit)):=
 bif decide (t<(s.length:Int))then
 (idx s t).bind λx=>
 (f (x,())).bind λr=>
 bif r then
  some (.inr (.inl t))
 else
  some (.inl (w64 (t+1)))
 else
 some (.inr (.inr ()))
theorem Bh(s:List Vec)(f f_':(TupT fam [.st 0]→Option Bool))(h_f:∀a,Lo (f a) (f_' a))(t:Int):Lo (pY s f t) (tz s f_' t):=by
 unfold pY tz
 repeat' (first | (with_reducible first | exact h_f _ | apply af | apply ah | refine ai ?_ _ | exact ag _) | (intro _) | exact ae | (dsimp only))
def uS(s:List Vec)(f:(TupT fam [.st 0]→Option Bool)):Option Int:=
 (itr 4096 (pY s f) 0).bind λq0=>
 match q0 with
 | .inl q=>
 some q
 | .inr _=>
 some (-1)
theorem Ei(s:List Vec)(f f_':(TupT fam [.st 0]→Option Bool))(h_f:∀a,Lo (f a) (f_' a)):Lo (uS s f) (va s f_'):=by
 unfold uS va
 repeat' (first | (with_reducible first | refine Bh _ _ _ ?_ _ | exact h_f _ | apply aC | apply aA | apply az | apply af | apply ah | refine ai ?_ _ | exact ag _) | (intro _) | exact ae | (dsimp only))
def pN(s:List Vec)(f:(TupT fam [.st 0]→Option Bool)):Option Bool:=
 (uS s f).bind λx=>
 some (decide (x≥0))
theorem A9(s:List Vec)(f f_':(TupT fam [.st 0]→Option Bool))(h_f:∀a,Lo (f a) (f_' a)):Lo (pN s f) (oW s f_'):=by
 unfold pN oW
 repeat' (first | (with_reducible first | refine Ei _ _ _ ?_ | exact h_f _ | apply af | apply ah | refine ai ?_ _ | exact ag _) | (intro _) | exact ae | (dsimp only))
def eQ(k:Look)(t3:List Vec×Int):Option ((List Vec×Int) ⊕ List Vec):=
 bif decide (t3.2<(k.s.Apps.length:Int))then
 (idx k.s.Apps t3.2).bind λx3=>
 (app 16 t3.1 [x3.Master]).bind λl6=>
 (itr 4096 (lG x3) (l6,0)).bind λl8=>
 some (.inl (l8,w64 (t3.2+1)))
 else
 some (.inr t3.1)
theorem q_(k:Look)(t3:List Vec×Int):Lo (eQ k t3) (gv k t3):=by
 unfold eQ gv
 repeat' (first | (with_reducible first | apply af | apply ah | refine ai ?_ _ | exact ag _) | (intro _) | exact ae | (dsimp only))
def g9(k:Look):Option Bool:=
 (itr 4096 (lC k) ([],0)).bind λl1=>
 (itr 4096 (ll k) (l1,0)).bind λl3=>
 (itr 4096 (lp k) (l3,0)).bind λl5=>
 (itr 4096 (eQ k) (l5,0)).bind λl9=>
 (pN l9 (λa'=>gW a'.1)).bind λx5=>
 some (! x5)
theorem ue(k:Look):Lo (g9 k) (fp k):=by
 unfold g9 fp
 repeat' (first | (with_reducible first | exact q_ _ _ | refine A9 _ _ _ ?_ | apply af | apply ah | refine ai ?_ _ | exact ag _) | (intro _) | exact ae | (dsimp only))
def iV(n:Int)(id_:(TupT fam [.int .i64]→Option Int))(i:Int):Option (Int ⊕ (Bool ⊕ Unit)):=
 bif decide (i<n)then
 (id_ (w64 (i - 1),())).bind λr=>
 (id_ (i,())).bind λr1=>
 bif decide (r≥r1)then
  some (.inr (.inl false))
 else
  some (.inl (w64 (i+1)))
 else
 some (.inr (.inr ()))
theorem vN(n:Int)(id_ id__':(TupT fam [.int .i64]→Option Int))(h_id_:∀a,Lo (id_ a) (id__' a))(i:Int):Lo (iV n id_ i) (lh n id__' i):=by
 unfold iV lh
 repeat' (first | (with_reducible first | exact h_id_ _ | apply af | apply ah | refine ai ?_ _ | exact ag _) | (intro _) | exact ae | (dsimp only))
def cv(n:Int)(most:Int)(id_:(TupT fam [.int .i64]→Option Int)):Option Bool:=
 (itr 4096 (iV n id_) 1).bind λq0=>
 match q0 with
 | .inl q=>
 some q
 | .inr _=>
 some (decide (n≤most))
theorem zn(n:Int)(most:Int)(id_ id__':(TupT fam [.int .i64]→Option Int))(h_id_:∀a,Lo (id_ a) (id__' a)):Lo (cv n most id_) (cI n most id__'):=by
 unfold cv cI
 repeat' (first | (with_reducible first | refine vN _ _ _ ?_ _ | exact h_id_ _ | apply aC | apply aA | apply az | apply af | apply ah | refine ai ?_ _ | exact ag _) | (intro _) | exact ae | (dsimp only))
def gn(k:Look):Option Bool:=
 (cv (k.s.Nodes.length:Int) 12 (λa'=>gD a'.1 k.s)).bind λx=>
 bif x then
 (cv (k.s.Apps.length:Int) 16 (λa'=>gC a'.1 k.s)).bind λx1=>
 bif x1 then
  (cv (k.s.Conts.length:Int) 200 (λa'=>gr a'.1 k.s)).bind λx2=>
  bif x2 then
  (cv (k.s.Slots.length:Int) 12 (λa'=>gh a'.1 k.s)).bind λx3=>
  bif x3 then
   (cv (k.s.Plans.length:Int) 12 (λa'=>gq a'.1 k.s)).bind λx4=>
   some x4
  else
   some false
  else
  some false
 else
  some false
 else
 some false
theorem tF(k:Look):Lo (gn k) (eA k):=by
 unfold gn eA
 repeat' (first | (with_reducible first | refine zn _ _ _ _ ?_ | apply af | apply ah | refine ai ?_ _ | exact ag _) | (intro _) | exact ae | (dsimp only))
def n8(s:List Cont)(f:(TupT fam [.st 7]→Option Bool))(t:Int):Option (Int ⊕ (Int ⊕ Unit)):=
 bif decide (t<(s.length:Int))then
 (idx s t).bind λx=>
 (f (x,())).bind λr=>
 bif r then
  some (.inr (.inl t))
 else
  some (.inl (w64 (t+1)))
 else
 some (.inr (.inr ()))
theorem A0(s:List Cont)(f f_':(TupT fam [.st 7]→Option Bool))(h_f:∀a,Lo (f a) (f_' a))(t:Int):Lo (n8 s f t) (sv s f_' t):=by
 unfold n8 sv
 repeat' (first | (with_reducible first | exact h_f _ | apply af | apply ah | refine ai ?_ _ | exact ag _) | (intro _) | exact ae | (dsimp only))
def fE(s:List Cont)(f:(TupT fam [.st 7]→Option Bool)):Option Int:=
 (itr 4096 (n8 s f) 0).bind λq0=>
 match q0 with
 | .inl q=>
 some q
 | .inr _=>
 some (-1)
theorem jl(s:List Cont)(f f_':(TupT fam [.st 7]→Option Bool))(h_f:∀a,Lo (f a) (f_' a)):Lo (fE s f) (gG s f_'):=by
 unfold fE gG
 repeat' (first | (with_reducible first | refine A0 _ _ _ ?_ _ | exact h_f _ | apply aC | apply aA | apply az | apply af | apply ah | refine ai ?_ _ | exact ag _) | (intro _) | exact ae | (dsimp only))
def jK(s:List Cont)(f:(TupT fam [.st 7]→Option Bool)):Option Bool:=
 (fE s f).bind λx=>
 some (decide (x≥0))
theorem sO(s:List Cont)(f f_':(TupT fam [.st 7]→Option Bool))(h_f:∀a,Lo (f a) (f_' a)):Lo (jK s f) (iZ s f_'):=by
 unfold jK iZ
 repeat' (first | (with_reducible first | refine jl _ _ _ ?_ | exact h_f _ | apply af | apply ah | refine ai ?_ _ | exact ag _) | (intro _) | exact ae | (dsimp only))
def nS(l:List Cont)(holds:(TupT fam [.st 7]→Option Bool)):Option Bool:=(jK l (λx=>(holds x).bind λr=>some (!r))).bind λr=>some (!r)
theorem z6(l:List Cont)(holds holds_':(TupT fam [.st 7]→Option Bool))(h_holds:∀a,Lo (holds a) (holds_' a)):Lo (nS l holds) (nf l holds_'):=by
 unfold nS nf
 repeat' (first | (with_reducible first | refine sO _ _ _ ?_ | exact h_holds _ | apply af | apply ah | refine ai ?_ _ | exact ag _) | (intro _) | exact ae | (dsimp only))
def pC(s:List App)(f:(TupT fam [.st 6]→Option Bool))(t:Int):Option (Int ⊕ (Int ⊕ Unit)):=
 bif decide (t<(s.length:Int))then
 (idx s t).bind λx=>
 (f (x,())).bind λr=>
 bif r then
  some (.inr (.inl t))
 else
  some (.inl (w64 (t+1)))
 else
 some (.inr (.inr ()))
theorem Bg(s:List App)(f f_':(TupT fam [.st 6]→Option Bool))(h_f:∀a,Lo (f a) (f_' a))(t:Int):Lo (pC s f t) (tC s f_' t):=by
 unfold pC tC
 repeat' (first | (with_reducible first | exact h_f _ | apply af | apply ah | refine ai ?_ _ | exact ag _) | (intro _) | exact ae | (dsimp only))
def mN(s:List App)(f:(TupT fam [.st 6]→Option Bool)):Option Int:=
 (itr 4096 (pC s f) 0).bind λq0=>
 match q0 with
 | .inl q=>
 some q
 | .inr _=>
 some (-1)
theorem tL(s:List App)(f f_':(TupT fam [.st 6]→Option Bool))(h_f:∀a,Lo (f a) (f_' a)):Lo (mN s f) (oj s f_'):=by
 unfold mN oj
 repeat' (first | (with_reducible first | refine Bg _ _ _ ?_ _ | exact h_f _ | apply aC | apply aA | apply az | apply af | apply ah | refine ai ?_ _ | exact ag _) | (intro _) | exact ae | (dsimp only))
def ls(s:State)(id_:Int):Option Int:=
 (mN s.Apps (λa'=>wI a'.1 id_)).bind λx=>
 some x
theorem qE(s:State)(id_:Int):Lo (ls s id_) (nJ s id_):=by
 unfold ls nJ
 repeat' (first | (with_reducible first | refine tL _ _ _ ?_ | apply af | apply ah | refine ai ?_ _ | exact ag _) | (intro _) | exact ae | (dsimp only))
def d8(s:State)(id_:Int):Option (App×Bool):=
 (ls s id_).bind λi=>
 bif decide (i<0)then
 some ((⟨0,0,[],0,0,⟨0,0⟩,[],0,0,[],[],[],[]⟩:App),false)
 else
 (idx s.Apps i).bind λx=>
 (kP x).bind λx1=>
 some (x1,true)
theorem gj(s:State)(id_:Int):Lo (d8 s id_) (eY s id_):=by
 unfold d8 eY
 repeat' (first | (with_reducible first | exact qE _ _ | apply af | apply ah | refine ai ?_ _ | exact ag _) | (intro _) | exact ae | (dsimp only))
def oz(s:List Node)(f:(TupT fam [.st 4]→Option Bool))(t:Int):Option (Int ⊕ (Int ⊕ Unit)):=
 bif decide (t<(s.length:Int))then
 (idx s t).bind λx=>
 (f (x,())).bind λr=>
 bif r then
  some (.inr (.inl t))
 else
  some (.inl (w64 (t+1)))
 else
 some (.inr (.inr ()))
theorem AD(s:List Node)(f f_':(TupT fam [.st 4]→Option Bool))(h_f:∀a,Lo (f a) (f_' a))(t:Int):Lo (oz s f t) (r8 s f_' t):=by
 unfold oz r8
 repeat' (first | (with_reducible first | exact h_f _ | apply af | apply ah | refine ai ?_ _ | exact ag _) | (intro _) | exact ae | (dsimp only))
def oG(s:List Node)(f:(TupT fam [.st 4]→Option Bool)):Option Int:=
 (itr 4096 (oz s f) 0).bind λq0=>
 match q0 with
 | .inl q=>
 some q
 | .inr _=>
 some (-1)
theorem xG(s:List Node)(f f_':(TupT fam [.st 4]→Option Bool))(h_f:∀a,Lo (f a) (f_' a)):Lo (oG s f) (pd s f_'):=by
 unfold oG pd
 repeat' (first | (with_reducible first | refine AD _ _ _ ?_ _ | exact h_f _ | apply aC | apply aA | apply az | apply af | apply ah | refine ai ?_ _ | exact ag _) | (intro _) | exact ae | (dsimp only))
def mn(s:State)(id_:Int):Option Int:=
 (oG s.Nodes (λa'=>rN id_ a'.1)).bind λx=>
 some x
theorem tB(s:State)(id_:Int):Lo (mn s id_) (ol s id_):=by
 unfold mn ol
 repeat' (first | (with_reducible first | refine xG _ _ _ ?_ | apply af | apply ah | refine ai ?_ _ | exact ag _) | (intro _) | exact ae | (dsimp only))
def go(s:State)(id_:Int):Option (Node×Bool):=
 (mn s id_).bind λi=>
 bif decide (i<0)then
 some ((⟨0,0,0,⟨0,0⟩,0,0,false⟩:Node),false)
 else
 (idx s.Nodes i).bind λx=>
 some (x,true)
theorem kE(s:State)(id_:Int):Lo (go s id_) (gV s id_):=by
 unfold go gV
 repeat' (first | (with_reducible first | exact tB _ _ | apply af | apply ah | refine ai ?_ _ | exact ag _) | (intro _) | exact ae | (dsimp only))
def iC(k:Look)(c:Cont):Option Bool:=
 (d8 k.s c.App).bind λx=>
 (go k.s c.Node).bind λx1=>
 bif x.2 then
 (cK x.1).bind λx2=>
 bif x2 then
  bif x1.2 then
  bif x1.1.Up then
   bif x1.1.Label == c.Label then
   bif decide (c.Notice≥0)then
    some (decide (c.Notice≤(imax k.s.Now 1)))
   else
    some false
   else
   some false
  else
   some false
  else
  some false
 else
  some false
 else
 some false
theorem uK(k:Look)(c:Cont):Lo (iC k c) (fM k c):=by
 unfold iC fM
 repeat' (first | (with_reducible first | exact gj _ _ | exact kE _ _ | apply af | apply ah | refine ai ?_ _ | exact ag _) | (intro _) | exact ae | (dsimp only))
def nP(s:List Node)(f:(TupT fam [.st 4]→Option Bool)):Option Bool:=
 (oG s f).bind λx=>
 some (decide (x≥0))
theorem AK(s:List Node)(f f_':(TupT fam [.st 4]→Option Bool))(h_f:∀a,Lo (f a) (f_' a)):Lo (nP s f) (lL s f_'):=by
 unfold nP lL
 repeat' (first | (with_reducible first | refine xG _ _ _ ?_ | exact h_f _ | apply af | apply ah | refine ai ?_ _ | exact ag _) | (intro _) | exact ae | (dsimp only))
def nT(l:List Node)(holds:(TupT fam [.st 4]→Option Bool)):Option Bool:=(nP l (λx=>(holds x).bind λr=>some (!r))).bind λr=>some (!r)
theorem AA(l:List Node)(holds holds_':(TupT fam [.st 4]→Option Bool))(h_holds:∀a,Lo (holds a) (holds_' a)):Lo (nT l holds) (mP l holds_'):=by
 unfold nT mP
 repeat' (first | (with_reducible first | refine AK _ _ _ ?_ | exact h_holds _ | apply af | apply ah | refine ai ?_ _ | exact ag _) | (intro _) | exact ae | (dsimp only))
def iJ(k:Look)(n:Node):Option Bool:=
 (itr 4096 (mU k n) ((⟨0,0⟩:Vec),0)).bind λq0=>
 match q0 with
 | .inl q1=>
 some q1
 | .inr sum1=>
 (ca sum1 n.Cap).bind λx2=>
 some x2
theorem u9(k:Look)(n:Node):Lo (iJ k n) (fP k n):=by
 unfold iJ fP
 repeat' (first | (with_reducible first | apply aC | apply aA | apply az | apply af | apply ah | refine ai ?_ _ | exact ag _) | (intro _) | exact ae | (dsimp only))
def qd(s:List App)(f:(TupT fam [.st 6]→Option Bool)):Option Bool:=
 (mN s f).bind λx=>
 some (decide (x≥0))
theorem BK(s:List App)(f f_':(TupT fam [.st 6]→Option Bool))(h_f:∀a,Lo (f a) (f_' a)):Lo (qd s f) (oS s f_'):=by
 unfold qd oS
 repeat' (first | (with_reducible first | refine tL _ _ _ ?_ | exact h_f _ | apply af | apply ah | refine ai ?_ _ | exact ag _) | (intro _) | exact ae | (dsimp only))
def qb(l:List App)(holds:(TupT fam [.st 6]→Option Bool)):Option Bool:=(qd l (λx=>(holds x).bind λr=>some (!r))).bind λr=>some (!r)
theorem BF(l:List App)(holds holds_':(TupT fam [.st 6]→Option Bool))(h_holds:∀a,Lo (holds a) (holds_' a)):Lo (qb l holds) (oV l holds_'):=by
 unfold qb oV
 repeat' (first | (with_reducible first | refine BK _ _ _ ?_ | exact h_holds _ | apply af | apply ah | refine ai ?_ _ | exact ag _) | (intro _) | exact ae | (dsimp only))
def kA(c:Conf)(path:List UInt8):Option Bool:=
 (fL c path).bind λx=>
 bif x.2 then
 (iq c path).bind λx1=>
 some ((x1.length:Int) == 0)
 else
 some false
theorem rq(c:Conf)(path:List UInt8):Lo (kA c path) (lz c path):=by
 unfold kA lz
 repeat' (first | (with_reducible first | exact jd _ _ | exact mT _ _ | apply af | apply ah | refine ai ?_ _ | exact ag _) | (intro _) | exact ae | (dsimp only))
def jy(k:Look)(a:App):Option Bool:=
 (itr 4096 (nq k a) (0,0,0)).bind λq2=>
 (
 bif a.State == 1 then
  bif decide (q2.2>0)then
  some (.inr false)
  else
  some (.inl ())
 else
  bif a.State == 2 then
  bif q2.1 != 1 then
   some (.inr false)
  else
   some (.inl ())
  else
  some (.inr true):Option (Unit ⊕ Bool)).bind λq0=>
 match q0 with
 | .inl _=>
 (kA k.s.Conf a.Queue).bind λx1=>
 some x1
 | .inr q3=>
 some q3
theorem v_(k:Look)(a:App):Lo (jy k a) (gI k a):=by
 unfold jy gI
 repeat' (first | (with_reducible first | exact rq _ _ | apply aC | apply aA | apply az | apply af | apply ah | refine ai ?_ _ | exact ag _) | (intro _) | exact ae | (dsimp only))
def n_(s:List Slot)(f:(TupT fam [.st 8]→Option Bool))(t:Int):Option (Int ⊕ (Int ⊕ Unit)):=
 bif decide (t<(s.length:Int))then
 (idx s t).bind λx=>
 (f (x,())).bind λr=>
 bif r then
  some (.inr (.inl t))
 else
  some (.inl (w64 (t+1)))
 else
 some (.inr (.inr ()))
theorem AT(s:List Slot)(f f_':(TupT fam [.st 8]→Option Bool))(h_f:∀a,Lo (f a) (f_' a))(t:Int):Lo (n_ s f t) (rC s f_' t):=by
 unfold n_ rC
 repeat' (first | (with_reducible first | exact h_f _ | apply af | apply ah | refine ai ?_ _ | exact ag _) | (intro _) | exact ae | (dsimp only))
def oF(s:List Slot)(f:(TupT fam [.st 8]→Option Bool)):Option Int:=
 (itr 4096 (n_ s f) 0).bind λq0=>
 match q0 with
 | .inl q=>
 some q
 | .inr _=>
 some (-1)
theorem wy(s:List Slot)(f f_':(TupT fam [.st 8]→Option Bool))(h_f:∀a,Lo (f a) (f_' a)):Lo (oF s f) (pz s f_'):=by
 unfold oF pz
 repeat' (first | (with_reducible first | refine AT _ _ _ ?_ _ | exact h_f _ | apply aC | apply aA | apply az | apply af | apply ah | refine ai ?_ _ | exact ag _) | (intro _) | exact ae | (dsimp only))
def nY(s:List Slot)(f:(TupT fam [.st 8]→Option Bool)):Option Bool:=
 (oF s f).bind λx=>
 some (decide (x≥0))
theorem A1(s:List Slot)(f f_':(TupT fam [.st 8]→Option Bool))(h_f:∀a,Lo (f a) (f_' a)):Lo (nY s f) (mh s f_'):=by
 unfold nY mh
 repeat' (first | (with_reducible first | refine wy _ _ _ ?_ | exact h_f _ | apply af | apply ah | refine ai ?_ _ | exact ag _) | (intro _) | exact ae | (dsimp only))
def nK(l:List Slot)(holds:(TupT fam [.st 8]→Option Bool)):Option Bool:=(nY l (λx=>(holds x).bind λr=>some (!r))).bind λr=>some (!r)
theorem Ad(l:List Slot)(holds holds_':(TupT fam [.st 8]→Option Bool))(h_holds:∀a,Lo (holds a) (holds_' a)):Lo (nK l holds) (m0 l holds_'):=by
 unfold nK m0
 repeat' (first | (with_reducible first | refine A1 _ _ _ ?_ | exact h_holds _ | apply af | apply ah | refine ai ?_ _ | exact ag _) | (intro _) | exact ae | (dsimp only))
def iT(s:State):Option Bool:=
 (lO s.Conf).bind λx=>
 bif x == 0 then
 (g9 (⟨⟨⟨s.Conf.Labels,s.Conf.Queues⟩,s.Nodes,s.Apps,s.Conts,s.Slots,s.Plans,s.Now,s.Epoch,s.Seq⟩⟩:Look)).bind λx1=>
 bif x1 then
  (gn (⟨⟨⟨s.Conf.Labels,s.Conf.Queues⟩,s.Nodes,s.Apps,s.Conts,s.Slots,s.Plans,s.Now,s.Epoch,s.Seq⟩⟩:Look)).bind λx2=>
  bif x2 then
  (nS s.Conts (λa'=>iC (⟨⟨⟨s.Conf.Labels,s.Conf.Queues⟩,s.Nodes,s.Apps,s.Conts,s.Slots,s.Plans,s.Now,s.Epoch,s.Seq⟩⟩:Look) a'.1)).bind λx3=>
  bif x3 then
   (nT s.Nodes (λa'=>iJ (⟨⟨⟨s.Conf.Labels,s.Conf.Queues⟩,s.Nodes,s.Apps,s.Conts,s.Slots,s.Plans,s.Now,s.Epoch,s.Seq⟩⟩:Look) a'.1)).bind λx4=>
   bif x4 then
   (qb s.Apps (λa'=>jy (⟨⟨⟨s.Conf.Labels,s.Conf.Queues⟩,s.Nodes,s.Apps,s.Conts,s.Slots,s.Plans,s.Now,s.Epoch,s.Seq⟩⟩:Look) a'.1)).bind λx5=>
   bif x5 then
    (nK s.Slots (λa'=>jT (⟨⟨⟨s.Conf.Labels,s.Conf.Queues⟩,s.Nodes,s.Apps,s.Conts,s.Slots,s.Plans,s.Now,s.Epoch,s.Seq⟩⟩:Look) a'.1)).bind λx6=>
    some x6
   else
    some false
   else
   some false
  else
   some false
  else
  some false
 else
  some false
 else
 some false
theorem sq(s:State):Lo (iT s) (h_ s):=by
 unfold iT h_
 repeat' (first | (with_reducible first | exact vz _ | exact ue _ | exact tF _ | refine z6 _ _ _ ?_ | exact uK _ _ | refine AA _ _ _ ?_ | exact u9 _ _ | refine BF _ _ _ ?_ | exact v_ _ _ | refine Ad _ _ _ ?_ | apply af | apply ah | refine ai ?_ _ | exact ag _) | (intro _) | exact ae | (dsimp only))
def qu(s:State):Option State:=
 (aJ s.Conf.Labels).bind λx=>
 (dD s.Conf.Queues).bind λx1=>
 (itr 4096 (yY x1) (x1,0,0)).bind λq=>
 bif Nat.ble q.1.length q.2.1 then
 (dz s.Nodes).bind λx5=>
 (bf s.Conts).bind λx6=>
 (dF s.Slots).bind λx7=>
 (je s.Plans).bind λx8=>
 (et s.Apps).bind λx9=>
 (itr 4096 (yE x9) (x9,0,0)).bind λq1=>
 bif Nat.ble q1.1.length q1.2.1 then
  some (⟨⟨x,q.1⟩,x5,q1.1,x6,x7,x8,s.Now,s.Epoch,s.Seq⟩:State)
 else
  none
 else
 none
theorem Ep(s:State):Lo (qu s) (rM s):=by
 unfold qu rM
 repeat' (first | (with_reducible first | apply af | apply ah | refine ai ?_ _ | exact ag _) | (intro _) | exact ae | (dsimp only))
def mK(s:State):Option State:=
 (aJ s.Conf.Labels).bind λx=>
 (dD s.Conf.Queues).bind λx1=>
 (itr 4096 (vH x1) (x1,0)).bind λq=>
 (dz s.Nodes).bind λx5=>
 (bf s.Conts).bind λx6=>
 (dF s.Slots).bind λx7=>
 (je s.Plans).bind λx8=>
 (et s.Apps).bind λx9=>
 (itr 4096 (vt x9) (x9,0)).bind λq1=>
 some (⟨⟨x,q⟩,x5,q1,x6,x7,x8,s.Now,s.Epoch,s.Seq⟩:State)
theorem vA(s:State):Lo (mK s) (mR s):=by
 unfold mK mR
 repeat' (first | (with_reducible first | apply af | apply ah | refine ai ?_ _ | exact ag _) | (intro _) | exact ae | (dsimp only))
def dX(s:List Int)(v:Int):Option Int:=
 (itr 4096 (ie s v) 0).bind λq0=>
 match q0 with
 | .inl q=>
 some q
 | .inr _=>
 some (-1)
theorem qj(s:List Int)(v:Int):Lo (dX s v) (cP s v):=by
 unfold dX cP
 repeat' (first | (with_reducible first | apply aC | apply aA | apply az | apply af | apply ah | refine ai ?_ _ | exact ag _) | (intro _) | exact ae | (dsimp only))
def n7(ids:List Int)(t:State×Int):Option ((State×Int) ⊕ State):=
 bif decide (t.2<(ids.length:Int))then
 (
  (idx ids t.2).bind λx1=>
  (fE t.1.Conts (λa'=>tJ a'.1 x1)).bind λk=>
  bif decide (k<0)then
  some t.1
  else
  (inb k t.1.Conts.length).bind λi=>
  (t.1.Conts[i]?).bind λx2=>
  (ls t.1 x2.App).bind λi1=>
  (
   bif decide (i1≥0)then
   some x2.Master
   else
   some false).bind λq=>
  bif q then
   none
  else
   (jp t.1.Conts k (w64 (k+1))).bind λx3=>
   bif decide (i1<0)then
   some (⟨⟨t.1.Conf.Labels,t.1.Conf.Queues⟩,t.1.Nodes,t.1.Apps,x3,t.1.Slots,t.1.Plans,t.1.Now,t.1.Epoch,t.1.Seq⟩:State)
   else
   (inb i1 t.1.Apps.length).bind λi2=>
   (t.1.Apps[i2]?).bind λx4=>
   (dX x4.Grants x1).bind λj=>
   bif decide (j≥0)then
    none
   else
    (app 8 x4.Kills [x1]).bind λl=>
    (inb i1 t.1.Apps.length).bind λi3=>
    bif Nat.beq i3 i2 then
    (t.1.Apps[i3]?).bind λx5=>
    some (⟨⟨t.1.Conf.Labels,t.1.Conf.Queues⟩,t.1.Nodes,List.set t.1.Apps i3 (⟨x4.Id,x4.State,x4.Queue,x4.User,x4.Prio,⟨x4.Master.Mem,x4.Master.Cores⟩,x4.Asks,x4.Seen,x4.Beat,x4.Grants,l,x4.Told,x4.Lost⟩:App),x3,t.1.Slots,t.1.Plans,t.1.Now,t.1.Epoch,t.1.Seq⟩:State)
    else
    none).bind λs1=>
 some (.inl (s1,w64 (t.2+1)))
 else
 some (.inr t.1)
theorem Al(ids:List Int)(t:State×Int):Lo (n7 ids t) (rP ids t):=by
 unfold n7 rP
 repeat' (first | (with_reducible first | refine jl _ _ _ ?_ | exact qE _ _ | exact qj _ _ | apply af | apply ah | refine ai ?_ _ | exact ag _) | (intro _) | exact ae | (dsimp only))
def bY(s:State)(ids:List Int):Option State:=
 (qu s).bind λx=>
 (itr 4096 (n7 ids) (x,0)).bind λs2=>
 (qu s2).bind λx6=>
 some x6
theorem gy(s:State)(ids:List Int):Lo (bY s ids) (cL s ids):=by
 unfold bY cL
 repeat' (first | (with_reducible first | exact Ep _ | exact Al _ _ | apply af | apply ah | refine ai ?_ _ | exact ag _) | (intro _) | exact ae | (dsimp only))
def iw(r:Reader)(w:List (List UInt8)):Option (Int×Reader):=
 bif decide ((r.c.Queues.length:Int)≥16)then
 some (4,r)
 else
 bif(w.length:Int) != (w64 (3+(r.c.Labels.length:Int)))then
  some (6,r)
 else
  (idx w 2).bind λx=>
  (kC x).bind λx1=>
  (idx w 1).bind λx2=>
  (slc w 3 (w.length:Int)).bind λl=>
  (itr 4096 (mb l) (x1.2,(⟨x2,[],x1.1⟩:Queue),0)).bind λq=>
  bif ! q.1 then
  some (6,r)
  else
  (app 48 r.c.Queues [q.2]).bind λl2=>
  some (0,(⟨⟨r.c.Labels,l2⟩,r.seen⟩:Reader))
theorem uY(r:Reader)(w:List (List UInt8)):Lo (iw r w) (fU r w):=by
 unfold iw fU
 repeat' (first | (with_reducible first | apply af | apply ah | refine ai ?_ _ | exact ag _) | (intro _) | exact ae | (dsimp only))
def jn(r:Reader)(w:List (List UInt8)):Option (Int×Reader):=
 bif(w.length:Int) == 0 then
 some (0,r)
 else
 (
  bif ! r.seen then
  (idx w 0).bind λx=>
  some (x == ([108,97,98,101,108,115]:List UInt8))
  else
  some false).bind λq=>
 bif q then
  bif decide ((w.length:Int)>3)then
  some (4,(⟨⟨r.c.Labels,r.c.Queues⟩,true⟩:Reader))
  else
  (mkl 16 (w.length:Int) (w.length:Int) []).bind λl=>
  (inS 1 (l.length:Int) l.length).bind λp=>
  (slc w 1 (w.length:Int)).bind λl1=>
  some (0,(⟨⟨cpy l p.1 p.2 l1,r.c.Queues⟩,true⟩:Reader))
 else
  (
  bif ! r.seen then
   some true
  else
   (idx w 0).bind λx1=>
   some (! (x1 == ([113,117,101,117,101]:List UInt8)))).bind λq1=>
  bif q1 then
  some (6,r)
  else
  (iw r w).bind λx2=>
  some (x2.1,x2.2)
theorem vT(r:Reader)(w:List (List UInt8)):Lo (jn r w) (gU r w):=by
 unfold jn gU
 repeat' (first | (with_reducible first | exact uY _ _ | apply af | apply ah | refine ai ?_ _ | exact ag _) | (intro _) | exact ae | (dsimp only))
def bg(del:(TupT fam [.str]→Option Bool))(t:List (List UInt8)×Int×Int):Option ((List (List UInt8)×Int×Int) ⊕ ((List (List UInt8)×Int))):=
 bif decide (t.2.2<(t.1.length:Int))then
 (
  (inb t.2.2 t.1.length).bind λi1=>
  (t.1[i1]?).bind λx=>
  (del (x,())).bind λr=>
  bif ! r then
  (inb t.2.1 t.1.length).bind λi2=>
  (t.1[i2]?).bind λx1=>
  some (List.set t.1 i2 x,w64 (t.2.1+1))
  else
  some (t.1,t.2.1)).bind λq=>
 some (.inl (q.1,q.2,w64 (t.2.2+1)))
 else
 some (.inr (t.1,t.2.1))
theorem gL(del del_':(TupT fam [.str]→Option Bool))(h_del:∀a,Lo (del a) (del_' a))(t:List (List UInt8)×Int×Int):Lo (bg del t) (bB del_' t):=by
 unfold bg bB
 repeat' (first | (with_reducible first | exact h_del _ | apply af | apply ah | refine ai ?_ _ | exact ag _) | (intro _) | exact ae | (dsimp only))
def bI(s:List (List UInt8))(del:(TupT fam [.str]→Option Bool)):Option (List (List UInt8)):=
 (aX s del).bind λi=>
 bif i == (-1)then
 some s
 else
 (itr 4096 (bg del) (s,i,w64 (i+1))).bind λq1=>
 (inS q1.2 (q1.1.length:Int) q1.1.length).bind λp=>
 (inS 0 q1.2 (cpy q1.1 p.1 p.2 (List.replicate p.2 [])).length).bind λp1=>
 some (List.take p1.2 (cpy q1.1 p.1 p.2 (List.replicate p.2 [])))
theorem iU(s:List (List UInt8))(del del_':(TupT fam [.str]→Option Bool))(h_del:∀a,Lo (del a) (del_' a)):Lo (bI s del) (aZ s del_'):=by
 unfold bI aZ
 repeat' (first | (with_reducible first | refine dh _ _ _ ?_ | refine gL _ _ ?_ _ | exact h_del _ | apply af | apply ah | refine ai ?_ _ | exact ag _) | (intro _) | exact ae | (dsimp only))
def sj(line:List UInt8):Option (List (List UInt8)):=
 (fw line ([32]:List UInt8)).bind λx=>
 (bI x (λa'=>rY a'.1)).bind λx1=>
 some x1
theorem CE(line:List UInt8):Lo (sj line) (qS line):=by
 unfold sj qS
 repeat' (first | (with_reducible first | exact kT _ _ | refine iU _ _ _ ?_ | apply af | apply ah | refine ai ?_ _ | exact ag _) | (intro _) | exact ae | (dsimp only))
def iB(a:Int)(cmp:(TupT fam [.st 2,.st 2]→Option Int))(t1:List Queue×Int):Option ((List Queue×Int) ⊕ List Queue):=
 (
 bif decide (t1.2>a)then
  (inb t1.2 t1.1.length).bind λi=>
  (t1.1[i]?).bind λx=>
  (inb (w64 (t1.2 - 1)) t1.1.length).bind λi1=>
  (t1.1[i1]?).bind λx1=>
  (cmp (x,x1,())).bind λr=>
  some (decide (r<0))
 else
  some false).bind λq=>
 bif q then
 (inb (w64 (t1.2 - 1)) t1.1.length).bind λi2=>
 (t1.1[i2]?).bind λx2=>
 (inb t1.2 t1.1.length).bind λi3=>
 (t1.1[i3]?).bind λx3=>
 (inb t1.2 t1.1.length).bind λi4=>
 (t1.1[i4]?).bind λx4=>
 (inb (w64 (t1.2 - 1)) (List.set t1.1 i4 x2).length).bind λi5=>
 ((List.set t1.1 i4 x2)[i5]?).bind λx5=>
 some (.inl (List.set (List.set t1.1 i4 x2) i5 x3,w64 (t1.2 - 1)))
 else
 some (.inr t1.1)
theorem uX(a:Int)(cmp cmp_':(TupT fam [.st 2,.st 2]→Option Int))(h_cmp:∀a,Lo (cmp a) (cmp_' a))(t1:List Queue×Int):Lo (iB a cmp t1) (kh a cmp_' t1):=by
 unfold iB kh
 repeat' (first | (with_reducible first | exact h_cmp _ | apply af | apply ah | refine ai ?_ _ | exact ag _) | (intro _) | exact ae | (dsimp only))
def iG(a:Int)(b:Int)(cmp:(TupT fam [.st 2,.st 2]→Option Int))(t:List Queue×Int):Option ((List Queue×Int) ⊕ List Queue):=
 bif decide (t.2<b)then
 (itr 4096 (iB a cmp) (t.1,t.2)).bind λdata1=>
 some (.inl (data1,w64 (t.2+1)))
 else
 some (.inr t.1)
theorem vg(a:Int)(b:Int)(cmp cmp_':(TupT fam [.st 2,.st 2]→Option Int))(h_cmp:∀a,Lo (cmp a) (cmp_' a))(t:List Queue×Int):Lo (iG a b cmp t) (jZ a b cmp_' t):=by
 unfold iG jZ
 repeat' (first | (with_reducible first | refine uX _ _ _ ?_ _ | exact h_cmp _ | apply af | apply ah | refine ai ?_ _ | exact ag _) | (intro _) | exact ae | (dsimp only))
def gP(data:List Queue)(a:Int)(b:Int)(cmp:(TupT fam [.st 2,.st 2]→Option Int)):Option (List Queue):=
 (itr 4096 (iG a b cmp) (data,w64 (a+1))).bind λdata2=>
 some data2
theorem qr(data:List Queue)(a:Int)(b:Int)(cmp cmp_':(TupT fam [.st 2,.st 2]→Option Int))(h_cmp:∀a,Lo (cmp a) (cmp_' a)):Lo (gP data a b cmp) (gm data a b cmp_'):=by
 unfold gP gm
 repeat' (first | (with_reducible first | refine vg _ _ _ _ ?_ _ | exact h_cmp _ | apply af | apply ah | refine ai ?_ _ | exact ag _) | (intro _) | exact ae | (dsimp only))
def su(a0:List Queue)(a1:Int)(a2:Int)(a3:Int)(a4:(TupT fam [.st 2,.st 2]→Option Int)):Option (List Queue):=none
theorem yq(a0:List Queue)(a1:Int)(a2:Int)(a3:Int)(a4 a4_':(TupT fam [.st 2,.st 2]→Option Int))(h_a4:∀a,Lo (a4 a) (a4_' a)):Lo (su a0 a1 a2 a3 a4) (jJ a0 a1 a2 a3 a4_'):=ae
def np(n:Int)(cmp:(TupT fam [.st 2,.st 2]→Option Int))(t1:List Queue×Int)(t2:List Queue×Int×Int):Option ((List Queue×Int×Int) ⊕ ((List Queue×Int))):=none
theorem ve(n:Int)(cmp cmp_':(TupT fam [.st 2,.st 2]→Option Int))(h_cmp:∀a,Lo (cmp a) (cmp_' a))(t1:List Queue×Int)(t2:List Queue×Int×Int):Lo (np n cmp t1 t2) (qo n cmp_' t1 t2):=ae
def iK(n:Int)(cmp:(TupT fam [.st 2,.st 2]→Option Int))(t1:List Queue×Int):Option ((List Queue×Int) ⊕ List Queue):=
 bif decide (t1.2<n)then
 (itr 4096 (np n cmp t1) (t1.1,0,w64 (2*t1.2))).bind λq1=>
 (
  let m:=w64 (q1.2+t1.2)
  bif decide (m<n)then
  (su q1.1 q1.2 m n cmp).bind λx3=>
  some x3
  else
  some q1.1).bind λdata1=>
 some (.inl (data1,w64 (t1.2*2)))
 else
 some (.inr t1.1)
theorem uQ(n:Int)(cmp cmp_':(TupT fam [.st 2,.st 2]→Option Int))(h_cmp:∀a,Lo (cmp a) (cmp_' a))(t1:List Queue×Int):Lo (iK n cmp t1) (jV n cmp_' t1):=by
 unfold iK jV
 repeat' (first | (with_reducible first | refine ve _ _ _ ?_ _ _ | refine yq _ _ _ _ _ _ ?_ | exact h_cmp _ | apply af | apply ah | refine ai ?_ _ | exact ag _) | (intro _) | exact ae | (dsimp only))
def iu(n:Int)(cmp:(TupT fam [.st 2,.st 2]→Option Int))(t:List Queue×Int×Int):Option ((List Queue×Int×Int) ⊕ ((List Queue×Int))):=
 bif decide (t.2.2≤n)then
 (gP t.1 t.2.1 t.2.2 cmp).bind λx=>
 some (.inl (x,t.2.2,w64 (t.2.2+20)))
 else
 some (.inr (t.1,t.2.1))
theorem uR(n:Int)(cmp cmp_':(TupT fam [.st 2,.st 2]→Option Int))(h_cmp:∀a,Lo (cmp a) (cmp_' a))(t:List Queue×Int×Int):Lo (iu n cmp t) (kb n cmp_' t):=by
 unfold iu kb
 repeat' (first | (with_reducible first | refine qr _ _ _ _ _ ?_ | exact h_cmp _ | apply af | apply ah | refine ai ?_ _ | exact ag _) | (intro _) | exact ae | (dsimp only))
def li(data:List Queue)(n:Int)(cmp:(TupT fam [.st 2,.st 2]→Option Int)):Option (List Queue):=
 (itr 4096 (iu n cmp) (data,0,20)).bind λq=>
 (gP q.1 q.2 n cmp).bind λx1=>
 (itr 4096 (iK n cmp) (x1,20)).bind λdata2=>
 some data2
theorem yu(data:List Queue)(n:Int)(cmp cmp_':(TupT fam [.st 2,.st 2]→Option Int))(h_cmp:∀a,Lo (cmp a) (cmp_' a)):Lo (li data n cmp) (jB data n cmp_'):=by
 unfold li jB
 repeat' (first | (with_reducible first | refine uR _ _ _ ?_ _ | refine qr _ _ _ _ _ ?_ | refine uQ _ _ _ ?_ _ | exact h_cmp _ | apply af | apply ah | refine ai ?_ _ | exact ag _) | (intro _) | exact ae | (dsimp only))
def kZ(x:List Queue)(cmp:(TupT fam [.st 2,.st 2]→Option Int)):Option (List Queue):=
 (li x (x.length:Int) cmp).bind λx1=>
 some x1
theorem yt(x:List Queue)(cmp cmp_':(TupT fam [.st 2,.st 2]→Option Int))(h_cmp:∀a,Lo (cmp a) (cmp_' a)):Lo (kZ x cmp) (jH x cmp_'):=by
 unfold kZ jH
 repeat' (first | (with_reducible first | refine yu _ _ _ _ ?_ | exact h_cmp _ | apply af | apply ah | refine ai ?_ _ | exact ag _) | (intro _) | exact ae | (dsimp only))
def mZ(x:List (List UInt8))(t:Conf×Reader×Int):Option ((Conf×Reader×Int) ⊕ ((Conf×Int) ⊕ (Conf×Reader))):=
 bif decide (t.2.2<(x.length:Int))then
 (inb t.2.2 x.length).bind λi=>
 (x[i]?).bind λx1=>
 (sj x1).bind λx2=>
 (jn t.2.1 x2).bind λe=>
 bif e.1 != 0 then
  some (.inr (.inl ((⟨[],[]⟩:Conf),e.1)))
 else
  some (.inl (t.1,e.2,w64 (t.2.2+1)))
 else
 some (.inr (.inr (t.1,t.2.1)))
theorem zL(x:List (List UInt8))(t:Conf×Reader×Int):Lo (mZ x t) (pD x t):=by
 unfold mZ pD
 repeat' (first | (with_reducible first | exact CE _ | exact vT _ _ | apply af | apply ah | refine ai ?_ _ | exact ag _) | (intro _) | exact ae | (dsimp only))
def r9(s:List UInt8):Option (Conf×Int):=
 bif decide ((s.length:Int)>2000)then
 some ((⟨[],[]⟩:Conf),5)
 else
 (fw s ([10]:List UInt8)).bind λx=>
 (itr 4096 (mZ x) ((⟨[],[]⟩:Conf),(⟨⟨[],[]⟩,false⟩:Reader),0)).bind λq0=>
 match q0 with
 | .inl q=>
  some (q.1,q.2)
 | .inr q1=>
  bif ! q1.2.seen then
  some ((⟨[],[]⟩:Conf),6)
  else
  (kZ q1.2.c.Queues (λa'=>rQ a'.1 a'.2.1)).bind λx3=>
  (itr 4096 (vv x3) (q1.1,0)).bind λq0=>
  match q0 with
  | .inl q3=>
   some (q3.1,q3.2)
  | .inr q4=>
   some ((⟨q1.2.c.Labels,x3⟩:Conf),0)
theorem CK(s:List UInt8):Lo (r9 s) (qQ s):=by
 unfold r9 qQ
 repeat' (first | (with_reducible first | exact kT _ _ | exact zL _ _ | refine yt _ _ _ ?_ | apply aC | apply aA | apply az | apply af | apply ah | refine ai ?_ _ | exact ag _) | (intro _) | exact ae | (dsimp only))
def ck(s1:List (List UInt8))(s2:List (List UInt8)):Option Bool:=
 bif(s1.length:Int) != (s2.length:Int)then
 some false
 else
 (itr 4096 (en s1 s2) 0).bind λq0=>
 match q0 with
 | .inl q=>
  some q
 | .inr _=>
  some true
theorem kQ(s1:List (List UInt8))(s2:List (List UInt8)):Lo (ck s1 s2) (bE s1 s2):=by
 unfold ck bE
 repeat' (first | (with_reducible first | apply aC | apply aA | apply az | apply af | apply ah | refine ai ?_ _ | exact ag _) | (intro _) | exact ae | (dsimp only))
def dn(t:Step)(x:Conf×Int)(t1:Int):Option (Int ⊕ Unit):=
 bif decide (t1<(t.s.Apps.length:Int))then
 (idx t.s.Apps t1).bind λx2=>
 (
  (cK x2).bind λx3=>
  bif x3 then
  (kA x.1 x2.Queue).bind λx4=>
  some (! x4)
  else
  some false).bind λq1=>
 bif q1 then
  none
 else
  some (.inl (w64 (t1+1)))
 else
 some (.inr ())
theorem nE(t:Step)(x:Conf×Int)(t1:Int):Lo (dn t x t1) (dN t x t1):=by
 unfold dn dN
 repeat' (first | (with_reducible first | exact rq _ _ | apply af | apply ah | refine ai ?_ _ | exact ag _) | (intro _) | exact ae | (dsimp only))
def eo(t:Step):Option (Output×Step):=
 (r9 t.x.Text).bind λx=>
 (
 bif x.2 == 0 then
  (lO x.1).bind λe=>
  some e
 else
  some x.2).bind λe1=>
 bif e1 != 0 then
 none
 else
 (
  bif decide ((t.s.Conf.Labels.length:Int)>(x.1.Labels.length:Int))then
  some true
  else
  (inS 0 (t.s.Conf.Labels.length:Int) x.1.Labels.length).bind λp=>
  (ck t.s.Conf.Labels (sub x.1.Labels p.1 p.2)).bind λx1=>
  some (! x1)).bind λq=>
 bif q then
  none
 else
  (itr 4096 (dn t x) 0).bind λ_=>
  some ((⟨0,[],[],[],0⟩:Output),(⟨⟨⟨x.1.Labels,x.1.Queues⟩,t.s.Nodes,t.s.Apps,t.s.Conts,t.s.Slots,t.s.Plans,t.s.Now,t.s.Epoch,t.s.Seq⟩,⟨t.x.Kind,t.x.Id,t.x.Beat,t.x.N,t.x.Text,⟨t.x.Node.Id,t.x.Node.Label,t.x.Node.Rack,⟨t.x.Node.Cap.Mem,t.x.Node.Cap.Cores⟩,t.x.Node.Seen,t.x.Node.Beat,t.x.Node.Up⟩,⟨t.x.App.Id,t.x.App.State,t.x.App.Queue,t.x.App.User,t.x.App.Prio,⟨t.x.App.Master.Mem,t.x.App.Master.Cores⟩,t.x.App.Asks,t.x.App.Seen,t.x.App.Beat,t.x.App.Grants,t.x.App.Kills,t.x.App.Told,t.x.App.Lost⟩,t.x.Asks,t.x.Ids,⟨t.x.Plan.Id,t.x.Plan.Label,t.x.Plan.From,t.x.Plan.Until,⟨t.x.Plan.Need.Mem,t.x.Plan.Need.Cores⟩⟩⟩⟩:Step))
theorem qK(t:Step):Lo (eo t) (cX t):=by
 unfold eo cX
 repeat' (first | (with_reducible first | exact CK _ | exact vz _ | exact kQ _ _ | exact nE _ _ _ | apply af | apply ah | refine ai ?_ _ | exact ag _) | (intro _) | exact ae | (dsimp only))
def oA(s:State):Option State:=
 (aJ s.Conf.Labels).bind λx=>
 (dD s.Conf.Queues).bind λx1=>
 (itr 4096 (wP x1) (x1,0)).bind λq=>
 (dz s.Nodes).bind λx5=>
 (bf s.Conts).bind λx6=>
 (dF s.Slots).bind λx7=>
 (je s.Plans).bind λx8=>
 (et s.Apps).bind λx9=>
 (itr 4096 (xh x9) (x9,0)).bind λq1=>
 some (⟨⟨x,q⟩,x5,q1,x6,x7,x8,s.Now,s.Epoch,s.Seq⟩:State)
theorem xx(s:State):Lo (oA s) (pj s):=by
 unfold oA pj
 repeat' (first | (with_reducible first | apply af | apply ah | refine ai ?_ _ | exact ag _) | (intro _) | exact ae | (dsimp only))
def kO(s:State)(n:Node):Option (State×Int):=
 (oA s).bind λx=>
 (mn x n.Id).bind λi=>
 (
 (bJ n.Id 999).bind λx1=>
 bif ! x1 then
  some true
 else
  (bJ n.Label (w64 ((x.Conf.Labels.length:Int) - 1))).bind λx2=>
  bif ! x2 then
  some true
  else
  (bJ n.Rack 99).bind λx3=>
  bif ! x3 then
   some true
  else
   (bJ n.Cap.Mem 1073741824).bind λx4=>
   bif ! x4 then
   some true
   else
   (bJ n.Cap.Cores 1073741824).bind λx5=>
   some (! x5)).bind λq=>
 bif q then
 some (x,1)
 else
 (
  bif decide (i≥0)then
  (inb i x.Nodes.length).bind λi1=>
  (x.Nodes[i1]?).bind λx6=>
  some x6.Up
  else
  some false).bind λq1=>
 bif q1 then
  some (x,7)
 else
  (
  bif decide (i<0)then
   some (decide ((x.Nodes.length:Int)≥12))
  else
   some false).bind λq2=>
  bif q2 then
  some (x,4)
  else
  bif decide (i≥0)then
   (inb i x.Nodes.length).bind λi2=>
   (x.Nodes[i2]?).bind λx7=>
   some ((⟨⟨x.Conf.Labels,x.Conf.Queues⟩,List.set x.Nodes i2 (⟨n.Id,n.Label,n.Rack,⟨n.Cap.Mem,n.Cap.Cores⟩,x.Now,0,true⟩:Node),x.Apps,x.Conts,x.Slots,x.Plans,x.Now,x.Epoch,x.Seq⟩:State),0)
  else
   (itr 4096 (qn n x) 0).bind λk1=>
   (pS x.Nodes k1 [(⟨n.Id,n.Label,n.Rack,⟨n.Cap.Mem,n.Cap.Cores⟩,x.Now,0,true⟩:Node)]).bind λx9=>
   some ((⟨⟨x.Conf.Labels,x.Conf.Queues⟩,x9,x.Apps,x.Conts,x.Slots,x.Plans,x.Now,x.Epoch,x.Seq⟩:State),0)
theorem yB(s:State)(n:Node):Lo (kO s n) (jO s n):=by
 unfold kO jO
 repeat' (first | (with_reducible first | exact xx _ | exact tB _ _ | apply af | apply ah | refine ai ?_ _ | exact ag _) | (intro _) | exact ae | (dsimp only))
def dJ(t:Step)(node:Int):Option (List Int):=
 (itr 4096 (pu t node) ([],0)).bind λout1=>
 some out1
theorem xt(t:Step)(node:Int):Lo (dJ t node) (du t node):=by
 unfold dJ du
 repeat' (first | (with_reducible first | apply af | apply ah | refine ai ?_ _ | exact ag _) | (intro _) | exact ae | (dsimp only))
def sw(s:State)(id_:Int)(beat:Int):Option (State×Int):=
 (oA s).bind λx=>
 (mn x id_).bind λi=>
 bif decide (i<0)then
 some (x,2)
 else
 (inb i x.Nodes.length).bind λi1=>
 (x.Nodes[i1]?).bind λx1=>
 bif ! x1.Up then
  some (x,18)
 else
  (
  bif decide (beat<0)then
   some true
  else
   (inb i x.Nodes.length).bind λi2=>
   (x.Nodes[i2]?).bind λx2=>
   some (decide (beat<x2.Beat))).bind λq=>
  bif q then
  some (x,15)
  else
  (inb i x.Nodes.length).bind λi3=>
  (x.Nodes[i3]?).bind λx3=>
  bif decide ((w64 (beat - x3.Beat))>1)then
   some (x,1)
  else
   (inb i x.Nodes.length).bind λi4=>
   (x.Nodes[i4]?).bind λx4=>
   (inb i (List.set x.Nodes i4 (⟨x4.Id,x4.Label,x4.Rack,⟨x4.Cap.Mem,x4.Cap.Cores⟩,x.Now,x4.Beat,x4.Up⟩:Node)).length).bind λi5=>
   ((List.set x.Nodes i4 (⟨x4.Id,x4.Label,x4.Rack,⟨x4.Cap.Mem,x4.Cap.Cores⟩,x.Now,x4.Beat,x4.Up⟩:Node))[i5]?).bind λx5=>
   some ((⟨⟨x.Conf.Labels,x.Conf.Queues⟩,List.set (List.set x.Nodes i4 (⟨x4.Id,x4.Label,x4.Rack,⟨x4.Cap.Mem,x4.Cap.Cores⟩,x.Now,x4.Beat,x4.Up⟩:Node)) i5 (⟨x5.Id,x5.Label,x5.Rack,⟨x5.Cap.Mem,x5.Cap.Cores⟩,x5.Seen,beat,x5.Up⟩:Node),x.Apps,x.Conts,x.Slots,x.Plans,x.Now,x.Epoch,x.Seq⟩:State),0)
theorem CI(s:State)(id_:Int)(beat:Int):Lo (sw s id_ beat) (qG s id_ beat):=by
 unfold sw qG
 repeat' (first | (with_reducible first | exact xx _ | exact tB _ _ | apply af | apply ah | refine ai ?_ _ | exact ag _) | (intro _) | exact ae | (dsimp only))
def b9(s:List Int)(f:(TupT fam [.int .i64]→Option Bool))(t:Int):Option (Int ⊕ (Int ⊕ Unit)):=
 bif decide (t<(s.length:Int))then
 (idx s t).bind λx=>
 (f (x,())).bind λr=>
 bif r then
  some (.inr (.inl t))
 else
  some (.inl (w64 (t+1)))
 else
 some (.inr (.inr ()))
theorem kx(s:List Int)(f f_':(TupT fam [.int .i64]→Option Bool))(h_f:∀a,Lo (f a) (f_' a))(t:Int):Lo (b9 s f t) (cu s f_' t):=by
 unfold b9 cu
 repeat' (first | (with_reducible first | exact h_f _ | apply af | apply ah | refine ai ?_ _ | exact ag _) | (intro _) | exact ae | (dsimp only))
def bF(s:List Int)(f:(TupT fam [.int .i64]→Option Bool)):Option Int:=
 (itr 4096 (b9 s f) 0).bind λq0=>
 match q0 with
 | .inl q=>
 some q
 | .inr _=>
 some (-1)
theorem fa(s:List Int)(f f_':(TupT fam [.int .i64]→Option Bool))(h_f:∀a,Lo (f a) (f_' a)):Lo (bF s f) (a_ s f_'):=by
 unfold bF a_
 repeat' (first | (with_reducible first | refine kx _ _ _ ?_ _ | exact h_f _ | apply aC | apply aA | apply az | apply af | apply ah | refine ai ?_ _ | exact ag _) | (intro _) | exact ae | (dsimp only))
def d7(del:(TupT fam [.int .i64]→Option Bool))(t:List Int×Int×Int):Option ((List Int×Int×Int) ⊕ ((List Int×Int))):=none
theorem jS(del del_':(TupT fam [.int .i64]→Option Bool))(h_del:∀a,Lo (del a) (del_' a))(t:List Int×Int×Int):Lo (d7 del t) (eG del_' t):=ae
def bv(s:List Int)(del:(TupT fam [.int .i64]→Option Bool)):Option (List Int):=
 (bF s del).bind λi=>
 bif i == (-1)then
 some s
 else
 (itr 4096 (d7 del) (s,i,w64 (i+1))).bind λq1=>
 (inS q1.2 (q1.1.length:Int) q1.1.length).bind λp=>
 (inS 0 q1.2 (cpy q1.1 p.1 p.2 (List.replicate p.2 0)).length).bind λp1=>
 some (List.take p1.2 (cpy q1.1 p.1 p.2 (List.replicate p.2 0)))
theorem eI(s:List Int)(del del_':(TupT fam [.int .i64]→Option Bool))(h_del:∀a,Lo (del a) (del_' a)):Lo (bv s del) (a9 s del_'):=by
 unfold bv a9
 repeat' (first | (with_reducible first | refine fa _ _ _ ?_ | refine jS _ _ ?_ _ | exact h_del _ | apply af | apply ah | refine ai ?_ _ | exact ag _) | (intro _) | exact ae | (dsimp only))
def ri(s:State)(id_:Int):Option Vec:=
 (itr 4096 (vu s id_) ((⟨0,0⟩:Vec),0)).bind λout1=>
 some out1
theorem Cy(s:State)(id_:Int):Lo (ri s id_) (qy s id_):=by
 unfold ri qy
 repeat' (first | (with_reducible first | apply af | apply ah | refine ai ?_ _ | exact ag _) | (intro _) | exact ae | (dsimp only))
def sn(s:State)(id_:Int):Option Vec:=
 (go s id_).bind λx=>
 (
 bif ! x.2 then
  some true
 else
  some (! x.1.Up)).bind λq=>
 bif q then
 some (⟨0,0⟩:Vec)
 else
 (ri s id_).bind λx1=>
 some (⟨imax (w64 (x.1.Cap.Mem - x1.Mem)) 0,imax (w64 (x.1.Cap.Cores - x1.Cores)) 0⟩:Vec)
theorem CM(s:State)(id_:Int):Lo (sn s id_) (qD s id_):=by
 unfold sn qD
 repeat' (first | (with_reducible first | exact kE _ _ | exact Cy _ _ | apply af | apply ah | refine ai ?_ _ | exact ag _) | (intro _) | exact ae | (dsimp only))
def jx(v:View)(c:Cont):Option (App×Bool):=
 (itr 4096 (nk v c) ((⟨0,0,[],0,0,⟨0,0⟩,[],0,0,[],[],[],[]⟩:App),0)).bind λq0=>
 match q0 with
 | .inl q=>
 some (q.1,q.2)
 | .inr q1=>
 some ((⟨0,0,[],0,0,⟨0,0⟩,[],0,0,[],[],[],[]⟩:App),false)
theorem wj(v:View)(c:Cont):Lo (jx v c) (gX v c):=by
 unfold jx gX
 repeat' (first | (with_reducible first | apply aC | apply aA | apply az | apply af | apply ah | refine ai ?_ _ | exact ag _) | (intro _) | exact ae | (dsimp only))
def gY(v:View)(t:Vec×Int):Option ((Vec×Int) ⊕ Vec):=
 bif decide (t.2<(v.s.Conts.length:Int))then
 (
  (idx v.s.Conts t.2).bind λx=>
  (jx v x).bind λx1=>
  (
  bif x1.2 then
   bif x.Label == v.label then
   (gA v x1.1).bind λx2=>
   some x2
   else
   some false
  else
   some false).bind λq=>
  bif q then
  (dC t.1 x.Size).bind λx3=>
  some x3.1
  else
  some t.1).bind λout=>
 some (.inl (out,w64 (t.2+1)))
 else
 some (.inr t.1)
theorem uC(v:View)(t:Vec×Int):Lo (gY v t) (iY v t):=by
 unfold gY iY
 repeat' (first | (with_reducible first | exact wj _ _ | apply af | apply ah | refine ai ?_ _ | exact ag _) | (intro _) | exact ae | (dsimp only))
def fS(v:View):Option Vec:=
 (itr 4096 (gY v) ((⟨0,0⟩:Vec),0)).bind λout1=>
 some out1
theorem po(v:View):Lo (fS v) (fk v):=by
 unfold fS fk
 repeat' (first | (with_reducible first | exact uC _ _ | apply af | apply ah | refine ai ?_ _ | exact ag _) | (intro _) | exact ae | (dsimp only))
def bU(s:State)(path:List UInt8)(label:Int):Option Vec:=
 (fS (⟨⟨⟨s.Conf.Labels,s.Conf.Queues⟩,s.Nodes,s.Apps,s.Conts,s.Slots,s.Plans,s.Now,s.Epoch,s.Seq⟩,path,label,(-1)⟩:View)).bind λx=>
 some x
theorem cJ(s:State)(path:List UInt8)(label:Int):Lo (bU s path label) (cm s path label):=by
 unfold bU cm
 repeat' (first | (with_reducible first | exact po _ | apply af | apply ah | refine ai ?_ _ | exact ag _) | (intro _) | exact ae | (dsimp only))
def oC(l:List Vec):Option Vec:=
 (itr 4096 (xy l) ((⟨0,0⟩:Vec),0)).bind λout=>
 some out
theorem xl(l:List Vec):Lo (oC l) (pv l):=by
 unfold oC pv
 repeat' (first | (with_reducible first | apply af | apply ah | refine ai ?_ _ | exact ag _) | (intro _) | exact ae | (dsimp only))
def eU(s:State)(label:Int):Option Vec:=
 (itr 4096 (uE s label) ([],0)).bind λl2=>
 (oC l2).bind λx1=>
 some x1
theorem jA(s:State)(label:Int):Lo (eU s label) (fK s label):=by
 unfold eU fK
 repeat' (first | (with_reducible first | exact xl _ | apply af | apply ah | refine ai ?_ _ | exact ag _) | (intro _) | exact ae | (dsimp only))
def ra(t:List UInt8×List (List UInt8)):Option ((List UInt8×List (List UInt8)) ⊕ List (List UInt8)):=
 bif ! (t.1 == ([]:List UInt8))then
 (app 16 t.2 [t.1]).bind λl=>
 (jb t.1).bind λx=>
 some (.inl (x.1,l))
 else
 some (.inr t.2)
theorem CB(t:List UInt8×List (List UInt8)):Lo (ra t) (vo t):=by
 unfold ra vo
 repeat' (first | (with_reducible first | exact pT _ | apply af | apply ah | refine ai ?_ _ | exact ag _) | (intro _) | exact ae | (dsimp only))
def th(path:List UInt8):Option (List (List UInt8)):=
 (itr 4096 ra (path,[])).bind λout=>
 some out
theorem Ao(path:List UInt8):Lo (th path) (ua path):=by
 unfold th ua
 repeat' (first | (with_reducible first | exact CB _ | apply af | apply ah | refine ai ?_ _ | exact ag _) | (intro _) | exact ae | (dsimp only))
def mM(s:State)(label:Int)(part:(TupT fam [.st 1]→Option Int))(up:List (List UInt8))(t:Vec×Vec×Int):Option ((Vec×Vec×Int) ⊕ (Vec ⊕ (Vec×Vec))):=
 bif decide (t.2.2≥0)then
 (inb t.2.2 up.length).bind λi1=>
 (up[i1]?).bind λx2=>
 (fL s.Conf x2).bind λx3=>
 (
  bif ! x3.2 then
  some true
  else
  bif decide (label<0)then
   some true
  else
   some (decide (label≥(x3.1.Caps.length:Int)))).bind λq=>
 bif q then
  some (.inr (.inl (⟨0,0⟩:Vec)))
 else
  (inb label x3.1.Caps.length).bind λi2=>
  (x3.1.Caps[i2]?).bind λx4=>
  (part (x4,())).bind λr=>
  (ng t.2.1 r).bind λx5=>
  some (.inl (t.1,x5.1,w64 (t.2.2 - 1)))
 else
 some (.inr (.inr (t.1,t.2.1)))
theorem zk(s:State)(label:Int)(part part_':(TupT fam [.st 1]→Option Int))(h_part:∀a,Lo (part a) (part_' a))(up:List (List UInt8))(t:Vec×Vec×Int):Lo (mM s label part up t) (pZ s label part_' up t):=by
 unfold mM pZ
 repeat' (first | (with_reducible first | exact jd _ _ | exact h_part _ | apply af | apply ah | refine ai ?_ _ | exact ag _) | (intro _) | exact ae | (dsimp only))
def lS(s:State)(path:List UInt8)(label:Int)(part:(TupT fam [.st 1]→Option Int)):Option Vec:=
 (th path).bind λup=>
 (fL s.Conf path).bind λx=>
 bif ! x.2 then
 some (⟨0,0⟩:Vec)
 else
 (eU s label).bind λx1=>
 let i:=w64 ((up.length:Int) - 2)
 (itr 4096 (mM s label part up) ((⟨0,0⟩:Vec),x1,i)).bind λq0=>
 match q0 with
 | .inl q1=>
  some q1
 | .inr q2=>
  some q2.2
theorem vE(s:State)(path:List UInt8)(label:Int)(part part_':(TupT fam [.st 1]→Option Int))(h_part:∀a,Lo (part a) (part_' a)):Lo (lS s path label part) (mC s path label part_'):=by
 unfold lS mC
 repeat' (first | (with_reducible first | exact Ao _ | exact jd _ _ | exact jA _ _ | refine zk _ _ _ _ ?_ _ _ | exact h_part _ | apply aC | apply aA | apply az | apply af | apply ah | refine ai ?_ _ | exact ag _) | (intro _) | exact ae | (dsimp only))
def dB(s:State)(path:List UInt8)(label:Int):Option Vec:=
 (lS s path label (λa'=>gH a'.1)).bind λx=>
 some x
theorem gw(s:State)(path:List UInt8)(label:Int):Lo (dB s path label) (d5 s path label):=by
 unfold dB d5
 repeat' (first | (with_reducible first | refine vE _ _ _ _ _ ?_ | apply af | apply ah | refine ai ?_ _ | exact ag _) | (intro _) | exact ae | (dsimp only))
def hP(t:Attempt)(a:App)(x:Ask):Option Bool:=
 (bU t.s a.Queue t.n.Label).bind λx1=>
 (dC x1 x.Size).bind λx2=>
 bif x2.2 == 0 then
 (dB t.s a.Queue t.n.Label).bind λx3=>
 (ca x2.1 x3).bind λx4=>
 some x4
 else
 some false
theorem uo(t:Attempt)(a:App)(x:Ask):Lo (hP t a x) (fd t a x):=by
 unfold hP fd
 repeat' (first | (with_reducible first | exact cJ _ _ _ | exact gw _ _ _ | apply af | apply ah | refine ai ?_ _ | exact ag _) | (intro _) | exact ae | (dsimp only))
def lg(s:State)(path:List UInt8)(label:Int)(user:Int):Option Vec:=
 bif user == (-1)then
 some (⟨0,0⟩:Vec)
 else
 (fS (⟨⟨⟨s.Conf.Labels,s.Conf.Queues⟩,s.Nodes,s.Apps,s.Conts,s.Slots,s.Plans,s.Now,s.Epoch,s.Seq⟩,path,label,user⟩:View)).bind λx=>
 some x
theorem yw(s:State)(path:List UInt8)(label:Int)(user:Int):Lo (lg s path label user) (jF s path label user):=by
 unfold lg jF
 repeat' (first | (with_reducible first | exact po _ | apply af | apply ah | refine ai ?_ _ | exact ag _) | (intro _) | exact ae | (dsimp only))
def rU(s:State)(path:List UInt8)(label:Int):Option Vec:=
 (fL s.Conf path).bind λx=>
 (dB s path label).bind λx1=>
 (ng x1 x.1.User).bind λx2=>
 some x2.1
theorem CC(s:State)(path:List UInt8)(label:Int):Lo (rU s path label) (qv s path label):=by
 unfold rU qv
 repeat' (first | (with_reducible first | exact jd _ _ | exact gw _ _ _ | apply af | apply ah | refine ai ?_ _ | exact ag _) | (intro _) | exact ae | (dsimp only))
def gc(t:Attempt)(a:App):Option Bool:=
 (lg t.s a.Queue t.n.Label a.User).bind λx=>
 (rU t.s a.Queue t.n.Label).bind λx1=>
 (ca x x1).bind λx2=>
 some x2
theorem tI(t:Attempt)(a:App):Lo (gc t a) (eB t a):=by
 unfold gc eB
 repeat' (first | (with_reducible first | exact yw _ _ _ _ | exact CC _ _ _ | apply af | apply ah | refine ai ?_ _ | exact ag _) | (intro _) | exact ae | (dsimp only))
def mu(s:State)(path:List UInt8)(label:Int):Option Vec:=
 (lS s path label (λa'=>iF a'.1)).bind λx=>
 some x
theorem vK(s:State)(path:List UInt8)(label:Int):Lo (mu s path label) (mO s path label):=by
 unfold mu mO
 repeat' (first | (with_reducible first | refine vE _ _ _ _ _ ?_ | apply af | apply ah | refine ai ?_ _ | exact ag _) | (intro _) | exact ae | (dsimp only))
def r_(s:State)(label:Int):Option Vec:=
 (itr 4096 (vF s label) ([],0)).bind λl2=>
 (oC l2).bind λx1=>
 some x1
theorem CD(s:State)(label:Int):Lo (r_ s label) (qM s label):=by
 unfold r_ qM
 repeat' (first | (with_reducible first | exact xl _ | apply af | apply ah | refine ai ?_ _ | exact ag _) | (intro _) | exact ae | (dsimp only))
def mA(s:State)(label:Int)(size:Vec)(x:List (List UInt8))(t:Int):Option (Int ⊕ (Bool ⊕ Unit)):=
 bif decide (t<(x.length:Int))then
 (inb t x.length).bind λi=>
 (x[i]?).bind λx1=>
 (bU s x1 label).bind λx2=>
 (dC x2 size).bind λx3=>
 (
  bif x3.2 != 0 then
  some true
  else
  (mu s x1 label).bind λx4=>
  (ca x3.1 x4).bind λx5=>
  some (! x5)).bind λq=>
 bif q then
  some (.inr (.inl false))
 else
  (eU s label).bind λx6=>
  (r_ s label).bind λx7=>
  (
  bif x1 == ([114,111,111,116]:List UInt8)then
   bif ! (((imax (w64 (x6.Mem - x7.Mem)) 0) == x6.Mem)&&((imax (w64 (x6.Cores - x7.Cores)) 0) == x6.Cores))then
   (ca x3.1 (⟨imax (w64 (x6.Mem - x7.Mem)) 0,imax (w64 (x6.Cores - x7.Cores)) 0⟩:Vec)).bind λx8=>
   some (! x8)
   else
   some false
  else
   some false).bind λq1=>
  bif q1 then
  some (.inr (.inl false))
  else
  some (.inl (w64 (t+1)))
 else
 some (.inr (.inr ()))
theorem zC(s:State)(label:Int)(size:Vec)(x:List (List UInt8))(t:Int):Lo (mA s label size x t) (qg s label size x t):=by
 unfold mA qg
 repeat' (first | (with_reducible first | exact cJ _ _ _ | exact vK _ _ _ | exact jA _ _ | exact CD _ _ | apply af | apply ah | refine ai ?_ _ | exact ag _) | (intro _) | exact ae | (dsimp only))
def rV(s:State)(path:List UInt8)(label:Int)(size:Vec):Option Bool:=
 (th path).bind λx=>
 (itr 4096 (mA s label size x) 0).bind λq0=>
 match q0 with
 | .inl q2=>
 some q2
 | .inr _=>
 some true
theorem CJ(s:State)(path:List UInt8)(label:Int)(size:Vec):Lo (rV s path label size) (qO s path label size):=by
 unfold rV qO
 repeat' (first | (with_reducible first | exact Ao _ | exact zC _ _ _ _ _ | apply aC | apply aA | apply az | apply af | apply ah | refine ai ?_ _ | exact ag _) | (intro _) | exact ae | (dsimp only))
def fZ(t:Attempt)(a:App)(x:Ask):Option Bool:=
 (rV t.s a.Queue t.n.Label x.Size).bind λx1=>
 some x1
theorem tG(t:Attempt)(a:App)(x:Ask):Lo (fZ t a x) (eD t a x):=by
 unfold fZ eD
 repeat' (first | (with_reducible first | exact CJ _ _ _ _ | apply af | apply ah | refine ai ?_ _ | exact ag _) | (intro _) | exact ae | (dsimp only))
def qC(s:State)(a:App):Option State:=
 (ls s a.Id).bind λi=>
 bif decide (i≥0)then
 (inb i s.Apps.length).bind λi1=>
 (s.Apps[i1]?).bind λx=>
 some (⟨⟨s.Conf.Labels,s.Conf.Queues⟩,s.Nodes,List.set s.Apps i1 a,s.Conts,s.Slots,s.Plans,s.Now,s.Epoch,s.Seq⟩:State)
 else
 (itr 4096 (yQ s a) 0).bind λk1=>
 (rh s.Apps k1 [a]).bind λx2=>
 some (⟨⟨s.Conf.Labels,s.Conf.Queues⟩,s.Nodes,x2,s.Conts,s.Slots,s.Plans,s.Now,s.Epoch,s.Seq⟩:State)
theorem yZ(s:State)(a:App):Lo (qC s a) (rK s a):=by
 unfold qC rK
 repeat' (first | (with_reducible first | exact qE _ _ | apply af | apply ah | refine ai ?_ _ | exact ag _) | (intro _) | exact ae | (dsimp only))
def qB(s:State)(a:App):Option State:=
 (mK s).bind λx=>
 (kP a).bind λx1=>
 (qC x x1).bind λx2=>
 some x2
theorem yJ(s:State)(a:App):Lo (qB s a) (rO s a):=by
 unfold qB rO
 repeat' (first | (with_reducible first | exact vA _ | exact yZ _ _ | apply af | apply ah | refine ai ?_ _ | exact ag _) | (intro _) | exact ae | (dsimp only))
def j6(s:List Ask)(f:(TupT fam [.st 5]→Option Bool))(t:Int):Option (Int ⊕ (Int ⊕ Unit)):=
 bif decide (t<(s.length:Int))then
 (idx s t).bind λx=>
 (f (x,())).bind λr=>
 bif r then
  some (.inr (.inl t))
 else
  some (.inl (w64 (t+1)))
 else
 some (.inr (.inr ()))
theorem xE(s:List Ask)(f f_':(TupT fam [.st 5]→Option Bool))(h_f:∀a,Lo (f a) (f_' a))(t:Int):Lo (j6 s f t) (lV s f_' t):=by
 unfold j6 lV
 repeat' (first | (with_reducible first | exact h_f _ | apply af | apply ah | refine ai ?_ _ | exact ag _) | (intro _) | exact ae | (dsimp only))
def jM(s:List Ask)(f:(TupT fam [.st 5]→Option Bool)):Option Int:=
 (itr 4096 (j6 s f) 0).bind λq0=>
 match q0 with
 | .inl q=>
 some q
 | .inr _=>
 some (-1)
theorem sI(s:List Ask)(f f_':(TupT fam [.st 5]→Option Bool))(h_f:∀a,Lo (f a) (f_' a)):Lo (jM s f) (jh s f_'):=by
 unfold jM jh
 repeat' (first | (with_reducible first | refine xE _ _ _ ?_ _ | exact h_f _ | apply aC | apply aA | apply az | apply af | apply ah | refine ai ?_ _ | exact ag _) | (intro _) | exact ae | (dsimp only))
def xm(l:List Ask)(prio:Int):Option Int:=
 (jM l (λa'=>wJ a'.1 prio)).bind λx=>
 some x
theorem FH(l:List Ask)(prio:Int):Lo (xm l prio) (x_ l prio):=by
 unfold xm x_
 repeat' (first | (with_reducible first | refine sI _ _ _ ?_ | apply af | apply ah | refine ai ?_ _ | exact ag _) | (intro _) | exact ae | (dsimp only))
def tH(l:List Ask)(prio:Int):Option (List Ask×Bool):=
 (se l).bind λout=>
 (xm out prio).bind λi=>
 bif decide (i<0)then
 some (out,false)
 else
 (inb i out.length).bind λi1=>
 (out[i1]?).bind λx=>
 (inb i (List.set out i1 (⟨x.Prio,x.Label,⟨x.Size.Mem,x.Size.Cores⟩,x.Count,x.Node,x.Rack,0⟩:Ask)).length).bind λi2=>
 ((List.set out i1 (⟨x.Prio,x.Label,⟨x.Size.Mem,x.Size.Cores⟩,x.Count,x.Node,x.Rack,0⟩:Ask))[i2]?).bind λx1=>
 (inb i (List.set out i1 (⟨x.Prio,x.Label,⟨x.Size.Mem,x.Size.Cores⟩,x.Count,x.Node,x.Rack,0⟩:Ask)).length).bind λi3=>
 ((List.set out i1 (⟨x.Prio,x.Label,⟨x.Size.Mem,x.Size.Cores⟩,x.Count,x.Node,x.Rack,0⟩:Ask))[i3]?).bind λx2=>
 (
  (inb i (List.set (List.set out i1 (⟨x.Prio,x.Label,⟨x.Size.Mem,x.Size.Cores⟩,x.Count,x.Node,x.Rack,0⟩:Ask)) i3 (⟨x2.Prio,x2.Label,⟨x2.Size.Mem,x2.Size.Cores⟩,w64 (x1.Count - 1),x2.Node,x2.Rack,x2.Missed⟩:Ask)).length).bind λi4=>
  ((List.set (List.set out i1 (⟨x.Prio,x.Label,⟨x.Size.Mem,x.Size.Cores⟩,x.Count,x.Node,x.Rack,0⟩:Ask)) i3 (⟨x2.Prio,x2.Label,⟨x2.Size.Mem,x2.Size.Cores⟩,w64 (x1.Count - 1),x2.Node,x2.Rack,x2.Missed⟩:Ask))[i4]?).bind λx3=>
  bif decide (x3.Count≤0)then
  (rW (List.set (List.set out i1 (⟨x.Prio,x.Label,⟨x.Size.Mem,x.Size.Cores⟩,x.Count,x.Node,x.Rack,0⟩:Ask)) i3 (⟨x2.Prio,x2.Label,⟨x2.Size.Mem,x2.Size.Cores⟩,w64 (x1.Count - 1),x2.Node,x2.Rack,x2.Missed⟩:Ask)) i (w64 (i+1))).bind λout1=>
  some out1
  else
  some (List.set (List.set out i1 (⟨x.Prio,x.Label,⟨x.Size.Mem,x.Size.Cores⟩,x.Count,x.Node,x.Rack,0⟩:Ask)) i3 (⟨x2.Prio,x2.Label,⟨x2.Size.Mem,x2.Size.Cores⟩,w64 (x1.Count - 1),x2.Node,x2.Rack,x2.Missed⟩:Ask))).bind λout2=>
 some (out2,true)
theorem Dw(l:List Ask)(prio:Int):Lo (tH l prio) (sV l prio):=by
 unfold tH sV
 repeat' (first | (with_reducible first | exact FH _ _ | apply af | apply ah | refine ai ?_ _ | exact ag _) | (intro _) | exact ae | (dsimp only))
def fG(t:Attempt)(a:App)(x:Ask):Option (Cont×Attempt):=
 (tH a.Asks x.Prio).bind λx1=>
 (
 bif a.State == 1 then
  some (⟨a.Id,2,a.Queue,a.User,a.Prio,⟨a.Master.Mem,a.Master.Cores⟩,[],t.s.Now,0,a.Grants,a.Kills,a.Told,a.Lost⟩:App)
 else
  (app 8 a.Grants [w64 ((shlK .i64 t.s.Epoch 20)+(w64 (t.s.Seq+1)))]).bind λl=>
  some (⟨a.Id,a.State,a.Queue,a.User,a.Prio,⟨a.Master.Mem,a.Master.Cores⟩,x1.1,a.Seen,a.Beat,l,a.Kills,a.Told,a.Lost⟩:App)).bind λa1=>
 (qB (⟨⟨t.s.Conf.Labels,t.s.Conf.Queues⟩,t.s.Nodes,t.s.Apps,t.s.Conts,t.s.Slots,t.s.Plans,t.s.Now,t.s.Epoch,w64 (t.s.Seq+1)⟩:State) a1).bind λx2=>
 (itr 4096 (jQ t x2) 0).bind λk1=>
 (pE x2.Conts k1 [(⟨w64 ((shlK .i64 t.s.Epoch 20)+(w64 (t.s.Seq+1))),a.Id,t.n.Id,⟨x.Size.Mem,x.Size.Cores⟩,x.Prio,x.Label,a.State == 1,0⟩:Cont)]).bind λx4=>
 some ((⟨w64 ((shlK .i64 t.s.Epoch 20)+(w64 (t.s.Seq+1))),a.Id,t.n.Id,⟨x.Size.Mem,x.Size.Cores⟩,x.Prio,x.Label,a.State == 1,0⟩:Cont),(⟨⟨⟨x2.Conf.Labels,x2.Conf.Queues⟩,x2.Nodes,x2.Apps,x4,x2.Slots,x2.Plans,x2.Now,x2.Epoch,x2.Seq⟩,⟨t.n.Id,t.n.Label,t.n.Rack,⟨t.n.Cap.Mem,t.n.Cap.Cores⟩,t.n.Seen,t.n.Beat,t.n.Up⟩,⟨t.free.Mem,t.free.Cores⟩⟩:Attempt))
theorem sF(t:Attempt)(a:App)(x:Ask):Lo (fG t a x) (dR t a x):=by
 unfold fG dR
 repeat' (first | (with_reducible first | exact Dw _ _ | exact yJ _ _ | apply af | apply ah | refine ai ?_ _ | exact ag _) | (intro _) | exact ae | (dsimp only))
def fY(t:Attempt):Option (Int×Cont×Bool×Attempt):=
 (oF t.s.Slots (λa'=>none)).bind λi=>
 bif decide (i<0)then
 some (0,(⟨0,0,0,⟨0,0⟩,0,0,false,0⟩:Cont),false,t)
 else
 (inb i t.s.Slots.length).bind λi1=>
 (t.s.Slots[i1]?).bind λx=>
 (d8 t.s x.App).bind λx1=>
 none
theorem tp(t:Attempt):Lo (fY t) (ez t):=by
 unfold fY ez
 repeat' (first | (with_reducible first | refine wy _ _ _ ?_ | exact gj _ _ | apply af | apply ah | refine ai ?_ _ | exact ag _) | (intro _) | exact ae | (dsimp only))
def pP(s:List Load)(f:(TupT fam [.st 15,.st 15]→Option Int)):Option (List Load):=sortG (F:=fam) (.st 15) f s
theorem Bz(s:List Load)(f f_':(TupT fam [.st 15,.st 15]→Option Int))(h_f:∀a,Lo (f a) (f_' a)):Lo (pP s f) (oJ s f_'):=by
 unfold pP oJ
 repeat' (first | (with_reducible first | refine HD ?_ _ | exact h_f _ | apply af | apply ah | refine ai ?_ _ | exact ag _) | (intro _) | exact ae | (dsimp only))
def pV(vals:List Int):Option Int:=
 (itr 4096 (uv vals) 0).bind λq0=>
 match q0 with
 | .inl q=>
 some q
 | .inr _=>
 some 0
theorem BP(vals:List Int):Lo (pV vals) (oQ vals):=by
 unfold pV oQ
 repeat' (first | (with_reducible first | apply aC | apply aA | apply az | apply af | apply ah | refine ai ?_ _ | exact ag _) | (intro _) | exact ae | (dsimp only))
def gQ(a:Load)(b:Load):Option Int:=
 (uT a.used a.least b.used b.least).bind λx=>
 (eC a.path b.path).bind λx1=>
 (pV [x,x1]).bind λx2=>
 some x2
theorem tZ(a:Load)(b:Load):Lo (gQ a b) (eZ a b):=by
 unfold gQ eZ
 repeat' (first | (with_reducible first | exact BP _ | apply af | apply ah | refine ai ?_ _ | exact ag _) | (intro _) | exact ae | (dsimp only))
def mo(s:State)(label:Int)(x:List (List UInt8))(t:List Load×Int):Option ((List Load×Int) ⊕ List Load):=
 bif decide (t.2<(x.length:Int))then
 (inb t.2 x.length).bind λi=>
 (x[i]?).bind λx1=>
 (bU s x1 label).bind λx2=>
 (dB s x1 label).bind λx3=>
 (app 48 t.1 [(⟨x1,⟨x2.Mem,x2.Cores⟩,⟨x3.Mem,x3.Cores⟩⟩:Load)]).bind λl=>
 some (.inl (l,w64 (t.2+1)))
 else
 some (.inr t.1)
theorem zy(s:State)(label:Int)(x:List (List UInt8))(t:List Load×Int):Lo (mo s label x t) (pX s label x t):=by
 unfold mo pX
 repeat' (first | (with_reducible first | exact cJ _ _ _ | exact gw _ _ _ | apply af | apply ah | refine ai ?_ _ | exact ag _) | (intro _) | exact ae | (dsimp only))
def si(s:State)(path:List UInt8)(label:Int):Option (List (List UInt8)):=
 (iq s.Conf path).bind λx=>
 (itr 4096 (mo s label x) ([],0)).bind λl1=>
 (pP l1 (λa'=>gQ a'.1 a'.2.1)).bind λx4=>
 (mkl 16 (x4.length:Int) (x4.length:Int) []).bind λl2=>
 (itr 4096 (vL x4) (l2,0)).bind λout=>
 some out
theorem Cw(s:State)(path:List UInt8)(label:Int):Lo (si s path label) (qL s path label):=by
 unfold si qL
 repeat' (first | (with_reducible first | exact mT _ _ | exact zy _ _ _ _ | refine Bz _ _ _ ?_ | exact tZ _ _ | apply af | apply ah | refine ai ?_ _ | exact ag _) | (intro _) | exact ae | (dsimp only))
def iW(s:State)(label:Int)(deep:Int)(self:State→(List UInt8)→Int→Int→Option (List (List UInt8)))(kids:List (List UInt8))(t:List (List UInt8)×Int):Option ((List (List UInt8)×Int) ⊕ List (List UInt8)):=
 bif decide (t.2<(kids.length:Int))then
 (inb t.2 kids.length).bind λi=>
 (kids[i]?).bind λx=>
 (self s x label (w64 (deep+1))).bind λx1=>
 (app 16 t.1 x1).bind λl=>
 some (.inl (l,w64 (t.2+1)))
 else
 some (.inr t.1)
theorem vP(s:State)(label:Int)(deep:Int)(self self_':State→(List UInt8)→Int→Int→Option (List (List UInt8)))(h_self:∀(a0:State)(a1:(List UInt8)) (a2:Int) (a3:Int),Lo (self a0 a1 a2 a3) (self_' a0 a1 a2 a3))(kids:List (List UInt8))(t:List (List UInt8)×Int):Lo (iW s label deep self kids t) (kW s label deep self_' kids t):=by
 unfold iW kW
 repeat' (first | (with_reducible first | refine h_self _ _ _ _ | apply af | apply ah | refine ai ?_ _ | exact ag _) | (intro _) | exact ae | (dsimp only))
def mg(self:State→(List UInt8)→Int→Int→Option (List (List UInt8)))(s:State)(path:List UInt8)(label:Int)(deep:Int):Option (List (List UInt8)):=
 (si s path label).bind λkids=>
 (
 bif(kids.length:Int) == 0 then
  some true
 else
  some (decide (deep>4))).bind λq=>
 bif q then
 some [path]
 else
 (itr 4096 (iW s label deep self kids) ([],0)).bind λout=>
 some out
theorem zt(self self_':State→(List UInt8)→Int→Int→Option (List (List UInt8)))(h_self:∀(a0:State)(a1:(List UInt8)) (a2:Int) (a3:Int),Lo (self a0 a1 a2 a3) (self_' a0 a1 a2 a3))(s:State)(path:List UInt8)(label:Int)(deep:Int):Lo (mg self s path label deep) (qh self_' s path label deep):=by
 unfold mg qh
 repeat' (first | (with_reducible first | exact Cw _ _ _ | refine vP _ _ _ _ _ ?_ _ _ | refine h_self _ _ _ _ | apply af | apply ah | refine ai ?_ _ | exact ag _) | (intro _) | exact ae | (dsimp only))
def iN:Nat→State→(List UInt8)→Int→Int→Option (List (List UInt8))
 | 0=>λ_ _ _ _=>none
 | n+1=>mg (iN n)
theorem sd:∀(n:Nat),∀(a0:State)(a1:List UInt8)(a2:Int)(a3:Int),Lo (iN n a0 a1 a2 a3) (ii n a0 a1 a2 a3)
 | 0=>λ_ _ _ _=>ae
 | n+1=>λa0 a1 a2 a3=>zt (iN n) (ii n) (sd n) a0 a1 a2 a3
def pO(a0:State)(a1:List UInt8)(a2:Int)(a3:Int):Option (List (List UInt8)):=iN 64 a0 a1 a2 a3
theorem Bo(a0:State)(a1:List UInt8)(a2:Int)(a3:Int):Lo (pO a0 a1 a2 a3) (oK a0 a1 a2 a3):=by
 unfold pO oK
 repeat' (first | (with_reducible first | refine sd _ _ _ _ _ | apply af | apply ah | refine ai ?_ _ | exact ag _) | (intro _) | exact ae | (dsimp only))
def nL(s:State)(label:Int):Option (List (List UInt8)):=
 (pO s ([114,111,111,116]:List UInt8) label 1).bind λx=>
 some x
theorem Av(s:State)(label:Int):Lo (nL s label) (me s label):=by
 unfold nL me
 repeat' (first | (with_reducible first | exact Bo _ _ _ _ | apply af | apply ah | refine ai ?_ _ | exact ag _) | (intro _) | exact ae | (dsimp only))
def ql(a:Int)(cmp:(TupT fam [.st 6,.st 6]→Option Int))(t1:List App×Int):Option ((List App×Int) ⊕ List App):=none
theorem xD(a:Int)(cmp cmp_':(TupT fam [.st 6,.st 6]→Option Int))(h_cmp:∀a,Lo (cmp a) (cmp_' a))(t1:List App×Int):Lo (ql a cmp t1) (sR a cmp_' t1):=ae
def j7(a:Int)(b:Int)(cmp:(TupT fam [.st 6,.st 6]→Option Int))(t:List App×Int):Option ((List App×Int) ⊕ List App):=
 bif decide (t.2<b)then
 (itr 4096 (ql a cmp) (t.1,t.2)).bind λdata1=>
 some (.inl (data1,w64 (t.2+1)))
 else
 some (.inr t.1)
theorem wN(a:Int)(b:Int)(cmp cmp_':(TupT fam [.st 6,.st 6]→Option Int))(h_cmp:∀a,Lo (cmp a) (cmp_' a))(t:List App×Int):Lo (j7 a b cmp t) (mr a b cmp_' t):=by
 unfold j7 mr
 repeat' (first | (with_reducible first | refine xD _ _ _ ?_ _ | exact h_cmp _ | apply af | apply ah | refine ai ?_ _ | exact ag _) | (intro _) | exact ae | (dsimp only))
def jE(data:List App)(a:Int)(b:Int)(cmp:(TupT fam [.st 6,.st 6]→Option Int)):Option (List App):=
 (itr 4096 (j7 a b cmp) (data,w64 (a+1))).bind λdata2=>
 some data2
theorem sK(data:List App)(a:Int)(b:Int)(cmp cmp_':(TupT fam [.st 6,.st 6]→Option Int))(h_cmp:∀a,Lo (cmp a) (cmp_' a)):Lo (jE data a b cmp) (jo data a b cmp_'):=by
 unfold jE jo
 repeat' (first | (with_reducible first | refine wN _ _ _ _ ?_ _ | exact h_cmp _ | apply af | apply ah | refine ai ?_ _ | exact ag _) | (intro _) | exact ae | (dsimp only))
def uh(a0:List App)(a1:Int)(a2:Int)(a3:Int)(a4:(TupT fam [.st 6,.st 6]→Option Int)):Option (List App):=none
theorem z9(a0:List App)(a1:Int)(a2:Int)(a3:Int)(a4 a4_':(TupT fam [.st 6,.st 6]→Option Int))(h_a4:∀a,Lo (a4 a) (a4_' a)):Lo (uh a0 a1 a2 a3 a4) (mJ a0 a1 a2 a3 a4_'):=ae
def qp(n:Int)(cmp:(TupT fam [.st 6,.st 6]→Option Int))(t1:List App×Int)(t2:List App×Int×Int):Option ((List App×Int×Int) ⊕ ((List App×Int))):=none
theorem wM(n:Int)(cmp cmp_':(TupT fam [.st 6,.st 6]→Option Int))(h_cmp:∀a,Lo (cmp a) (cmp_' a))(t1:List App×Int)(t2:List App×Int×Int):Lo (qp n cmp t1 t2) (sM n cmp_' t1 t2):=ae
def kg(n:Int)(cmp:(TupT fam [.st 6,.st 6]→Option Int))(t1:List App×Int):Option ((List App×Int) ⊕ List App):=
 bif decide (t1.2<n)then
 (itr 4096 (qp n cmp t1) (t1.1,0,w64 (2*t1.2))).bind λq1=>
 (
  let m:=w64 (q1.2+t1.2)
  bif decide (m<n)then
  (uh q1.1 q1.2 m n cmp).bind λx3=>
  some x3
  else
  some q1.1).bind λdata1=>
 some (.inl (data1,w64 (t1.2*2)))
 else
 some (.inr t1.1)
theorem xP(n:Int)(cmp cmp_':(TupT fam [.st 6,.st 6]→Option Int))(h_cmp:∀a,Lo (cmp a) (cmp_' a))(t1:List App×Int):Lo (kg n cmp t1) (nc n cmp_' t1):=by
 unfold kg nc
 repeat' (first | (with_reducible first | refine wM _ _ _ ?_ _ _ | refine z9 _ _ _ _ _ _ ?_ | exact h_cmp _ | apply af | apply ah | refine ai ?_ _ | exact ag _) | (intro _) | exact ae | (dsimp only))
def jX(n:Int)(cmp:(TupT fam [.st 6,.st 6]→Option Int))(t:List App×Int×Int):Option ((List App×Int×Int) ⊕ ((List App×Int))):=
 bif decide (t.2.2≤n)then
 (jE t.1 t.2.1 t.2.2 cmp).bind λx=>
 some (.inl (x,t.2.2,w64 (t.2.2+20)))
 else
 some (.inr (t.1,t.2.1))
theorem wF(n:Int)(cmp cmp_':(TupT fam [.st 6,.st 6]→Option Int))(h_cmp:∀a,Lo (cmp a) (cmp_' a))(t:List App×Int×Int):Lo (jX n cmp t) (mD n cmp_' t):=by
 unfold jX mD
 repeat' (first | (with_reducible first | refine sK _ _ _ _ _ ?_ | exact h_cmp _ | apply af | apply ah | refine ai ?_ _ | exact ag _) | (intro _) | exact ae | (dsimp only))
def nC(data:List App)(n:Int)(cmp:(TupT fam [.st 6,.st 6]→Option Int)):Option (List App):=
 (itr 4096 (jX n cmp) (data,0,20)).bind λq=>
 (jE q.1 q.2 n cmp).bind λx1=>
 (itr 4096 (kg n cmp) (x1,20)).bind λdata2=>
 some data2
theorem AH(data:List App)(n:Int)(cmp cmp_':(TupT fam [.st 6,.st 6]→Option Int))(h_cmp:∀a,Lo (cmp a) (cmp_' a)):Lo (nC data n cmp) (lK data n cmp_'):=by
 unfold nC lK
 repeat' (first | (with_reducible first | refine wF _ _ _ ?_ _ | refine sK _ _ _ _ _ ?_ | refine xP _ _ _ ?_ _ | exact h_cmp _ | apply af | apply ah | refine ai ?_ _ | exact ag _) | (intro _) | exact ae | (dsimp only))
def nU(x:List App)(cmp:(TupT fam [.st 6,.st 6]→Option Int)):Option (List App):=
 (nC x (x.length:Int) cmp).bind λx1=>
 some x1
theorem AU(x:List App)(cmp cmp_':(TupT fam [.st 6,.st 6]→Option Int))(h_cmp:∀a,Lo (cmp a) (cmp_' a)):Lo (nU x cmp) (lP x cmp_'):=by
 unfold nU lP
 repeat' (first | (with_reducible first | refine AH _ _ _ _ ?_ | exact h_cmp _ | apply af | apply ah | refine ai ?_ _ | exact ag _) | (intro _) | exact ae | (dsimp only))
def rf(s:State)(queue:List UInt8):Option (List Int):=
 (itr 4096 (vJ s queue) ([],0)).bind λl2=>
 (nU l2 (λa'=>sm a'.1 a'.2.1)).bind λx2=>
 (mkl 8 (x2.length:Int) (x2.length:Int) 0).bind λl3=>
 (itr 4096 (vC x2) (l3,0)).bind λout=>
 some out
theorem CG(s:State)(queue:List UInt8):Lo (rf s queue) (qt s queue):=by
 unfold rf qt
 repeat' (first | (with_reducible first | refine AU _ _ _ ?_ | apply af | apply ah | refine ai ?_ _ | exact ag _) | (intro _) | exact ae | (dsimp only))
def dY(first:Bool)(may:(TupT fam [.st 5,.st 4]→Option Bool))(x5:List Ask)(t3:Attempt×Cont×App×Int):Option ((Attempt×Cont×App×Int) ⊕ ((Attempt×Int×Cont) ⊕ (Attempt×Cont))):=
 bif decide (t3.2.2.2<(x5.length:Int))then
 (
  (inb t3.2.2.2 x5.length).bind λi1=>
  (x5[i1]?).bind λx6=>
  (hP t3.1 t3.2.2.1 x6).bind λdue=>
  (
  (gJ t3.1 x6).bind λx7=>
  bif ! x7 then
   some true
  else
   bif first then
   some (! due)
   else
   some false).bind λq=>
  bif q then
  some (.inl (t3.1,t3.2.1,t3.2.2.1))
  else
  (may (x6,t3.1.n,())).bind λr=>
  bif ! r then
   bif first == due then
   none
   else
   some (.inl (t3.1,t3.2.1,t3.2.2.1))
  else
   (fZ t3.1 t3.2.2.1 x6).bind λx8=>
   bif ! x8 then
   some (.inl (t3.1,t3.2.1,t3.2.2.1))
   else
   (iH t3.1 x6).bind λx9=>
   bif x9 then
    (fG t3.1 t3.2.2.1 x6).bind λx10=>
    some (.inr (x10.2,1,x10.1))
   else
    bif first then
    none
    else
    some (.inl (t3.1,t3.2.1,t3.2.2.1)):Option ((Attempt×Cont×App) ⊕ (Attempt×Int×Cont))).bind λq0=>
 match q0 with
 | .inl q1=>
  some (.inl (q1.1,q1.2.1,q1.2.2,w64 (t3.2.2.2+1)))
 | .inr q2=>
  some (.inr (.inl (q2.1,q2.2.1,q2.2.2)))
 else
 some (.inr (.inr (t3.1,t3.2.1)))
theorem pG(first:Bool)(may may_':(TupT fam [.st 5,.st 4]→Option Bool))(h_may:∀a,Lo (may a) (may_' a))(x5:List Ask)(t3:Attempt×Cont×App×Int):Lo (dY first may x5 t3) (eN first may_' x5 t3):=by
 unfold dY eN
 repeat' (first | (with_reducible first | exact uo _ _ _ | exact tG _ _ _ | exact sF _ _ _ | exact h_may _ | apply aC | apply aA | apply az | apply af | apply ah | refine ai ?_ _ | exact ag _) | (intro _) | exact ae | (dsimp only))
def dU(first:Bool)(may:(TupT fam [.st 5,.st 4]→Option Bool))(x1:List Int)(t2:Attempt×Cont×Int):Option ((Attempt×Cont×Int) ⊕ ((Attempt×Int×Cont) ⊕ (Attempt×Cont) ⊕ (Attempt×Cont))):=
 bif decide (t2.2.2<(x1.length:Int))then
 (
  (inb t2.2.2 x1.length).bind λi=>
  (x1[i]?).bind λx2=>
  (d8 t2.1.s x2).bind λx3=>
  bif ! x3.2 then
  some (.inr (.inr (t2.1,t2.2.1)))
  else
  (gc t2.1 x3.1).bind λx4=>
  bif ! x4 then
   some (.inl (t2.1,t2.2.1))
  else
   (rr x3.1.Asks).bind λx5=>
   (itr 4096 (dY first may x5) (t2.1,t2.2.1,x3.1,0)).bind λq0=>
   match q0 with
   | .inl q3=>
   some (.inr (.inl (q3.1,q3.2.1,q3.2.2)))
   | .inr q4=>
   some (.inl (q4.1,q4.2)):Option ((Attempt×Cont) ⊕ (Attempt×Int×Cont) ⊕ (Attempt×Cont))).bind λq0=>
 match q0 with
 | .inl q5=>
  some (.inl (q5.1,q5.2,w64 (t2.2.2+1)))
 | .inr (.inl q6)=>
  some (.inr (.inl (q6.1,q6.2.1,q6.2.2)))
 | .inr (.inr q7)=>
  some (.inr (.inr (.inl (q7.1,q7.2))))
 else
 some (.inr (.inr (.inr (t2.1,t2.2.1))))
theorem pM(first:Bool)(may may_':(TupT fam [.st 5,.st 4]→Option Bool))(h_may:∀a,Lo (may a) (may_' a))(x1:List Int)(t2:Attempt×Cont×Int):Lo (dU first may x1 t2) (eO first may_' x1 t2):=by
 unfold dU eO
 repeat' (first | (with_reducible first | exact gj _ _ | exact tI _ _ | refine pG _ _ _ ?_ _ _ | exact h_may _ | apply aC | apply aA | apply az | apply af | apply ah | refine ai ?_ _ | exact ag _) | (intro _) | exact ae | (dsimp only))
def dK(leaves:List (List UInt8))(first:Bool)(may:(TupT fam [.st 5,.st 4]→Option Bool))(t1:Attempt×Cont×Int):Option ((Attempt×Cont×Int) ⊕ ((Attempt×Int×Cont) ⊕ (Attempt×Cont))):=
 bif decide (t1.2.2<(leaves.length:Int))then
 (
  (idx leaves t1.2.2).bind λx=>
  (rf t1.1.s x).bind λx1=>
  (itr 4096 (dU first may x1) (t1.1,t1.2.1,0)).bind λq0=>
  match q0 with
  | .inl q8=>
  some (.inr (q8.1,q8.2.1,q8.2.2))
  | .inr (.inl q9)=>
  some (.inl (q9.1,q9.2))
  | .inr (.inr q10)=>
  some (.inl (q10.1,q10.2)):Option ((Attempt×Cont) ⊕ (Attempt×Int×Cont))).bind λq0=>
 match q0 with
 | .inl q11=>
  some (.inl (q11.1,q11.2,w64 (t1.2.2+1)))
 | .inr q12=>
  some (.inr (.inl (q12.1,q12.2.1,q12.2.2)))
 else
 some (.inr (.inr (t1.1,t1.2.1)))
theorem p7(leaves:List (List UInt8))(first:Bool)(may may_':(TupT fam [.st 5,.st 4]→Option Bool))(h_may:∀a,Lo (may a) (may_' a))(t1:Attempt×Cont×Int):Lo (dK leaves first may t1) (eP leaves first may_' t1):=by
 unfold dK eP
 repeat' (first | (with_reducible first | exact CG _ _ | refine pM _ _ _ ?_ _ _ | exact h_may _ | apply aC | apply aA | apply az | apply af | apply ah | refine ai ?_ _ | exact ag _) | (intro _) | exact ae | (dsimp only))
def c9(t:Attempt)(leaves:List (List UInt8))(first:Bool)(may:(TupT fam [.st 5,.st 4]→Option Bool)):Option (Int×Cont×Attempt):=
 (itr 4096 (dK leaves first may) (t,(⟨0,0,0,⟨0,0⟩,0,0,false,0⟩:Cont),0)).bind λq0=>
 match q0 with
 | .inl q13=>
 some (q13.2.1,q13.2.2,q13.1)
 | .inr q14=>
 some (0,(⟨0,0,0,⟨0,0⟩,0,0,false,0⟩:Cont),q14.1)
theorem sy(t:Attempt)(leaves:List (List UInt8))(first:Bool)(may may_':(TupT fam [.st 5,.st 4]→Option Bool))(h_may:∀a,Lo (may a) (may_' a)):Lo (c9 t leaves first may) (cF t leaves first may_'):=by
 unfold c9 cF
 repeat' (first | (with_reducible first | refine p7 _ _ _ _ ?_ _ | exact h_may _ | apply aC | apply aA | apply az | apply af | apply ah | refine ai ?_ _ | exact ag _) | (intro _) | exact ae | (dsimp only))
def eK(t:Attempt):Option (Int×Cont×Attempt):=
 (nL t.s t.n.Label).bind λleaves=>
 (c9 t leaves true (λa'=>pe a'.1 a'.2.1)).bind λx=>
 bif x.1 != 0 then
 some (x.1,x.2.1,x.2.2)
 else
 (c9 x.2.2 leaves false (λa'=>pe a'.1 a'.2.1)).bind λx1=>
 some (x1.1,x1.2.1,x1.2.2)
theorem rD(t:Attempt):Lo (eK t) (dq t):=by
 unfold eK dq
 repeat' (first | (with_reducible first | exact Av _ _ | refine sy _ _ _ _ _ ?_ | apply af | apply ah | refine ai ?_ _ | exact ag _) | (intro _) | exact ae | (dsimp only))
def sx(s:State)(node:Int):Option (State×Int×Cont):=
 (bY s []).bind λx=>
 (go s node).bind λx1=>
 (
 bif ! x1.2 then
  some true
 else
  bif ! x1.1.Up then
  some true
  else
  bif decide ((s.Conts.length:Int)≥200)then
   some true
  else
   some (decide (s.Seq≥1048575))).bind λq=>
 bif q then
 some (x,0,(⟨0,0,0,⟨0,0⟩,0,0,false,0⟩:Cont))
 else
 (sn s node).bind λx2=>
 (fY (⟨⟨⟨x.Conf.Labels,x.Conf.Queues⟩,x.Nodes,x.Apps,x.Conts,x.Slots,x.Plans,x.Now,x.Epoch,x.Seq⟩,⟨x1.1.Id,x1.1.Label,x1.1.Rack,⟨x1.1.Cap.Mem,x1.1.Cap.Cores⟩,x1.1.Seen,x1.1.Beat,x1.1.Up⟩,⟨x2.Mem,x2.Cores⟩⟩:Attempt)).bind λx3=>
 (
  bif ! x3.2.2.1 then
  (eK x3.2.2.2).bind λx4=>
  some (x4.1,x4.2.1,x4.2.2)
  else
  some (x3.1,x3.2.1,x3.2.2.2)).bind λq1=>
 (bY q1.2.2.s []).bind λx5=>
 some (x5,q1.1,q1.2.1)
theorem CL(s:State)(node:Int):Lo (sx s node) (qx s node):=by
 unfold sx qx
 repeat' (first | (with_reducible first | exact gy _ _ | exact kE _ _ | exact CM _ _ | exact tp _ | exact rD _ | apply af | apply ah | refine ai ?_ _ | exact ag _) | (intro _) | exact ae | (dsimp only))
def kM(node:Int)(t:State×List Cont):Option ((State×List Cont) ⊕ ((State×List Cont))):=
 bif decide ((t.2.length:Int)<3)then
 (sx t.1 node).bind λx1=>
 bif x1.2.1 != 1 then
  some (.inr (x1.1,t.2))
 else
  (app 72 t.2 [x1.2.2]).bind λl=>
  some (.inl (x1.1,l))
 else
 some (.inr (t.1,t.2))
theorem yl(node:Int)(t:State×List Cont):Lo (kM node t) (nI node t):=by
 unfold kM nI
 repeat' (first | (with_reducible first | exact CL _ _ | apply af | apply ah | refine ai ?_ _ | exact ag _) | (intro _) | exact ae | (dsimp only))
def p9(s:State)(node:Int):Option (State×List Cont):=
 (bY s []).bind λx=>
 (itr 4096 (kM node) (x,[])).bind λq=>
 some (q.1,q.2)
theorem Bt(s:State)(node:Int):Lo (p9 s node) (oL s node):=by
 unfold p9 oL
 repeat' (first | (with_reducible first | exact gy _ _ | exact yl _ _ | apply af | apply ah | refine ai ?_ _ | exact ag _) | (intro _) | exact ae | (dsimp only))
def iM(t:Step):Option (Output×Step):=
 (go t.s t.x.Id).bind λx=>
 (
 bif x.2 then
  bif x.1.Up then
  some (t.x.Beat == x.1.Beat)
  else
  some false
 else
  some false).bind λq=>
 bif q then
 (dJ t x.1.Id).bind λx1=>
 some ((⟨0,[],x1,[],0⟩:Output),t)
 else
 (sw t.s t.x.Id t.x.Beat).bind λx2=>
 bif x2.2 != 0 then
  none
 else
  (dJ t x.1.Id).bind λx3=>
  (bO t.x.Ids).bind λx4=>
  (bv x4 (λa'=>iE a'.1 x3)).bind λended=>
  (bY x2.1 ended).bind λx5=>
  (p9 x5 x.1.Id).bind λx6=>
  (dJ (⟨⟨⟨x6.1.Conf.Labels,x6.1.Conf.Queues⟩,x6.1.Nodes,x6.1.Apps,x6.1.Conts,x6.1.Slots,x6.1.Plans,x6.1.Now,x6.1.Epoch,x6.1.Seq⟩,⟨t.x.Kind,t.x.Id,t.x.Beat,t.x.N,t.x.Text,⟨t.x.Node.Id,t.x.Node.Label,t.x.Node.Rack,⟨t.x.Node.Cap.Mem,t.x.Node.Cap.Cores⟩,t.x.Node.Seen,t.x.Node.Beat,t.x.Node.Up⟩,⟨t.x.App.Id,t.x.App.State,t.x.App.Queue,t.x.App.User,t.x.App.Prio,⟨t.x.App.Master.Mem,t.x.App.Master.Cores⟩,t.x.App.Asks,t.x.App.Seen,t.x.App.Beat,t.x.App.Grants,t.x.App.Kills,t.x.App.Told,t.x.App.Lost⟩,t.x.Asks,t.x.Ids,⟨t.x.Plan.Id,t.x.Plan.Label,t.x.Plan.From,t.x.Plan.Until,⟨t.x.Plan.Need.Mem,t.x.Plan.Need.Cores⟩⟩⟩⟩:Step) x.1.Id).bind λx7=>
  some ((⟨0,[],x7,[],0⟩:Output),(⟨⟨⟨x6.1.Conf.Labels,x6.1.Conf.Queues⟩,x6.1.Nodes,x6.1.Apps,x6.1.Conts,x6.1.Slots,x6.1.Plans,x6.1.Now,x6.1.Epoch,x6.1.Seq⟩,⟨t.x.Kind,t.x.Id,t.x.Beat,t.x.N,t.x.Text,⟨t.x.Node.Id,t.x.Node.Label,t.x.Node.Rack,⟨t.x.Node.Cap.Mem,t.x.Node.Cap.Cores⟩,t.x.Node.Seen,t.x.Node.Beat,t.x.Node.Up⟩,⟨t.x.App.Id,t.x.App.State,t.x.App.Queue,t.x.App.User,t.x.App.Prio,⟨t.x.App.Master.Mem,t.x.App.Master.Cores⟩,t.x.App.Asks,t.x.App.Seen,t.x.App.Beat,t.x.App.Grants,t.x.App.Kills,t.x.App.Told,t.x.App.Lost⟩,t.x.Asks,t.x.Ids,⟨t.x.Plan.Id,t.x.Plan.Label,t.x.Plan.From,t.x.Plan.Until,⟨t.x.Plan.Need.Mem,t.x.Plan.Need.Cores⟩⟩⟩⟩:Step))
theorem uL(t:Step):Lo (iM t) (fT t):=by
 unfold iM fT
 repeat' (first | (with_reducible first | exact kE _ _ | exact xt _ _ | exact CI _ _ _ | refine eI _ _ _ ?_ | exact gy _ _ | exact Bt _ _ | apply af | apply ah | refine ai ?_ _ | exact ag _) | (intro _) | exact ae | (dsimp only))
def qs(del:(TupT fam [.st 5]→Option Bool))(t:List Ask×Int×Int):Option ((List Ask×Int×Int) ⊕ ((List Ask×Int))):=none
theorem wA(del del_':(TupT fam [.st 5]→Option Bool))(h_del:∀a,Lo (del a) (del_' a))(t:List Ask×Int×Int):Lo (qs del t) (sS del_' t):=ae
def nO(s:List Ask)(del:(TupT fam [.st 5]→Option Bool)):Option (List Ask):=
 (jM s del).bind λi=>
 bif i == (-1)then
 some s
 else
 (itr 4096 (qs del) (s,i,w64 (i+1))).bind λq1=>
 (inS q1.2 (q1.1.length:Int) q1.1.length).bind λp=>
 (inS 0 q1.2 (cpy q1.1 p.1 p.2 (List.replicate p.2 (⟨0,0,⟨0,0⟩,0,0,0,0⟩:Ask))).length).bind λp1=>
 some (List.take p1.2 (cpy q1.1 p.1 p.2 (List.replicate p.2 (⟨0,0,⟨0,0⟩,0,0,0,0⟩:Ask))))
theorem AF(s:List Ask)(del del_':(TupT fam [.st 5]→Option Bool))(h_del:∀a,Lo (del a) (del_' a)):Lo (nO s del) (mB s del_'):=by
 unfold nO mB
 repeat' (first | (with_reducible first | refine sI _ _ _ ?_ | refine wA _ _ ?_ _ | exact h_del _ | apply af | apply ah | refine ai ?_ _ | exact ag _) | (intro _) | exact ae | (dsimp only))
def qV(l:List Ask)(a:Ask):Option (List Ask×Int):=
 (se l).bind λx=>
 (nO x (λa'=>vl a'.1 a)).bind λout=>
 bif a.Count == 0 then
 some (out,0)
 else
 bif decide ((out.length:Int)≥8)then
  some ([],4)
 else
  (itr 4096 (yD a out) 0).bind λk1=>
  (rL out k1 [(⟨a.Prio,a.Label,⟨a.Size.Mem,a.Size.Cores⟩,a.Count,a.Node,a.Rack,0⟩:Ask)]).bind λx2=>
  some (x2,0)
theorem yN(l:List Ask)(a:Ask):Lo (qV l a) (ro l a):=by
 unfold qV ro
 repeat' (first | (with_reducible first | refine AF _ _ _ ?_ | apply af | apply ah | refine ai ?_ _ | exact ag _) | (intro _) | exact ae | (dsimp only))
def rS(a:App):Option (List Ask):=
 (qV [] (⟨0,0,⟨a.Master.Mem,a.Master.Cores⟩,1,(-1),(-1),0⟩:Ask)).bind λx=>
 some x.1
theorem CF(a:App):Lo (rS a) (qW a):=by
 unfold rS qW
 repeat' (first | (with_reducible first | exact yN _ _ | apply af | apply ah | refine ai ?_ _ | exact ag _) | (intro _) | exact ae | (dsimp only))
def tD(l:List App):Option Int:=
 (itr 4096 (w7 l) (0,0)).bind λn1=>
 some n1
theorem DL(l:List App):Lo (tD l) (sL l):=by
 unfold tD sL
 repeat' (first | (with_reducible first | apply af | apply ah | refine ai ?_ _ | exact ag _) | (intro _) | exact ae | (dsimp only))
def p8(s:State)(a:App):Option (State×Int):=
 (mK s).bind λx=>
 (
 (bV a.Id 0 9999).bind λx1=>
 bif ! x1 then
  some true
 else
  (bV a.User 0 99).bind λx2=>
  bif ! x2 then
  some true
  else
  (bV a.Prio 0 9).bind λx3=>
  bif ! x3 then
   some true
  else
   (bV a.Master.Mem 1 1073741824).bind λx4=>
   bif ! x4 then
   some true
   else
   (bV a.Master.Cores 1 1073741824).bind λx5=>
   some (! x5)).bind λq=>
 bif q then
 some (x,1)
 else
 (ls x a.Id).bind λx6=>
 bif decide (x6≥0)then
  some (x,7)
 else
  (tD x.Apps).bind λx7=>
  bif decide (x7≥16)then
  some (x,4)
  else
  (kA x.Conf a.Queue).bind λx8=>
  bif ! x8 then
   some (x,19)
  else
   (mN x.Apps (λa'=>wY a'.1)).bind λk=>
   (
   bif decide ((x.Apps.length:Int)≥16)then
    some (decide (k≥0))
   else
    some false).bind λq1=>
   bif q1 then
   none
   else
   (rS (⟨a.Id,1,a.Queue,a.User,a.Prio,⟨a.Master.Mem,a.Master.Cores⟩,[],x.Now,0,[],[],[],[]⟩:App)).bind λx9=>
   (qC x (⟨a.Id,1,a.Queue,a.User,a.Prio,⟨a.Master.Mem,a.Master.Cores⟩,x9,x.Now,0,[],[],[],[]⟩:App)).bind λx10=>
   some (x10,0)
theorem Bn(s:State)(a:App):Lo (p8 s a) (oM s a):=by
 unfold p8 oM
 repeat' (first | (with_reducible first | exact vA _ | exact qE _ _ | exact DL _ | exact rq _ _ | refine tL _ _ _ ?_ | exact CF _ | exact yZ _ _ | apply af | apply ah | refine ai ?_ _ | exact ag _) | (intro _) | exact ae | (dsimp only))
def eR(t:Step)(ids:List Int)(t1:List Cont×Int):Option ((List Cont×Int) ⊕ List Cont):=
 bif decide (t1.2<(ids.length:Int))then
 (idx ids t1.2).bind λx=>
 (itr 4096 (lD t x) (t1.1,0)).bind λout1=>
 some (.inl (out1,w64 (t1.2+1)))
 else
 some (.inr t1.1)
theorem rv(t:Step)(ids:List Int)(t1:List Cont×Int):Lo (eR t ids t1) (fW t ids t1):=by
 unfold eR fW
 repeat' (first | (with_reducible first | apply af | apply ah | refine ai ?_ _ | exact ag _) | (intro _) | exact ae | (dsimp only))
def cD(t:Step)(ids:List Int):Option (List Cont):=
 (itr 4096 (eR t ids) ([],0)).bind λout2=>
 some out2
theorem lB(t:Step)(ids:List Int):Lo (cD t ids) (ci t ids):=by
 unfold cD ci
 repeat' (first | (with_reducible first | exact rv _ _ _ | apply af | apply ah | refine ai ?_ _ | exact ag _) | (intro _) | exact ae | (dsimp only))
def cW(t:Step)(app_:Int):Option (List Int):=
 (itr 4096 (jP t app_) ([],0)).bind λout1=>
 some out1
theorem sG(t:Step)(app_:Int):Lo (cW t app_) (cw t app_):=by
 unfold cW cw
 repeat' (first | (with_reducible first | apply af | apply ah | refine ai ?_ _ | exact ag _) | (intro _) | exact ae | (dsimp only))
def b8(s:List Int)(f:(TupT fam [.int .i64]→Option Bool)):Option Bool:=
 (bF s f).bind λx=>
 some (decide (x≥0))
theorem kw(s:List Int)(f f_':(TupT fam [.int .i64]→Option Bool))(h_f:∀a,Lo (f a) (f_' a)):Lo (b8 s f) (bu s f_'):=by
 unfold b8 bu
 repeat' (first | (with_reducible first | refine fa _ _ _ ?_ | exact h_f _ | apply af | apply ah | refine ai ?_ _ | exact ag _) | (intro _) | exact ae | (dsimp only))
def cY(least:Int)(most:Int)(l:List Int):Option Bool:=
 (b8 l (λa'=>vj a'.1 least most)).bind λx=>
 some (! x)
theorem yL(least:Int)(most:Int)(l:List Int):Lo (cY least most l) (eg least most l):=by
 unfold cY eg
 repeat' (first | (with_reducible first | refine kw _ _ _ ?_ | apply af | apply ah | refine ai ?_ _ | exact ag _) | (intro _) | exact ae | (dsimp only))
def so(a:Ask)(labels:Int):Option Int:=
 (
 (cY 0 9 [a.Prio]).bind λx=>
 bif ! x then
  some true
 else
  (cY 0 (w64 (labels - 1)) [a.Label]).bind λx1=>
  bif ! x1 then
  some true
  else
  (cY 1 1073741824 [a.Size.Mem,a.Size.Cores]).bind λx2=>
  bif ! x2 then
   some true
  else
   (cY (-1) 999 [a.Node]).bind λx3=>
   bif ! x3 then
   some true
   else
   (cY (-1) 99 [a.Rack]).bind λx4=>
   bif ! x4 then
    some true
   else
    bif a.Node != (-1)then
    some (a.Rack == (-1))
    else
    some false).bind λq=>
 bif q then
 some 1
 else
 (cY 0 50 [a.Count]).bind λx5=>
 bif ! x5 then
  some 4
 else
  some 0
theorem Cx(a:Ask)(labels:Int):Lo (so a labels) (qJ a labels):=by
 unfold so qJ
 repeat' (first | (with_reducible first | exact yL _ _ _ | apply af | apply ah | refine ai ?_ _ | exact ag _) | (intro _) | exact ae | (dsimp only))
def fJ(ids:List Int)(t1:Step×App×Int):Option ((Step×App×Int) ⊕ ((Step×App))):=
 bif decide (t1.2.2<(ids.length:Int))then
 (
  (idx ids t1.2.2).bind λx=>
  (fE t1.1.s.Conts (λa'=>iy a'.1 x t1.2.1)).bind λi=>
  bif decide (i≥0)then
  (jp t1.1.s.Conts i (w64 (i+1))).bind λx1=>
  (bv t1.2.1.Grants (λa'=>iz a'.1 x)).bind λx2=>
  some ((⟨⟨⟨t1.1.s.Conf.Labels,t1.1.s.Conf.Queues⟩,t1.1.s.Nodes,t1.1.s.Apps,x1,t1.1.s.Slots,t1.1.s.Plans,t1.1.s.Now,t1.1.s.Epoch,t1.1.s.Seq⟩,⟨t1.1.x.Kind,t1.1.x.Id,t1.1.x.Beat,t1.1.x.N,t1.1.x.Text,⟨t1.1.x.Node.Id,t1.1.x.Node.Label,t1.1.x.Node.Rack,⟨t1.1.x.Node.Cap.Mem,t1.1.x.Node.Cap.Cores⟩,t1.1.x.Node.Seen,t1.1.x.Node.Beat,t1.1.x.Node.Up⟩,⟨t1.1.x.App.Id,t1.1.x.App.State,t1.1.x.App.Queue,t1.1.x.App.User,t1.1.x.App.Prio,⟨t1.1.x.App.Master.Mem,t1.1.x.App.Master.Cores⟩,t1.1.x.App.Asks,t1.1.x.App.Seen,t1.1.x.App.Beat,t1.1.x.App.Grants,t1.1.x.App.Kills,t1.1.x.App.Told,t1.1.x.App.Lost⟩,t1.1.x.Asks,t1.1.x.Ids,⟨t1.1.x.Plan.Id,t1.1.x.Plan.Label,t1.1.x.Plan.From,t1.1.x.Plan.Until,⟨t1.1.x.Plan.Need.Mem,t1.1.x.Plan.Need.Cores⟩⟩⟩⟩:Step),(⟨t1.2.1.Id,t1.2.1.State,t1.2.1.Queue,t1.2.1.User,t1.2.1.Prio,⟨t1.2.1.Master.Mem,t1.2.1.Master.Cores⟩,t1.2.1.Asks,t1.2.1.Seen,t1.2.1.Beat,x2,t1.2.1.Kills,t1.2.1.Told,t1.2.1.Lost⟩:App))
  else
  some (t1.1,t1.2.1)).bind λq=>
 some (.inl (q.1,q.2,w64 (t1.2.2+1)))
 else
 some (.inr (t1.1,t1.2.1))
theorem sC(ids:List Int)(t1:Step×App×Int):Lo (fJ ids t1) (g_ ids t1):=by
 unfold fJ g_
 repeat' (first | (with_reducible first | refine jl _ _ _ ?_ | refine eI _ _ _ ?_ | apply af | apply ah | refine ai ?_ _ | exact ag _) | (intro _) | exact ae | (dsimp only))
def iv(t:Step)(a:App)(ids:List Int):Option (App×Step):=
 (itr 4096 (fJ ids) (t,a,0)).bind λq1=>
 some (q1.2,q1.1)
theorem vq(t:Step)(a:App)(ids:List Int):Lo (iv t a ids) (fQ t a ids):=by
 unfold iv fQ
 repeat' (first | (with_reducible first | exact sC _ _ | apply af | apply ah | refine ai ?_ _ | exact ag _) | (intro _) | exact ae | (dsimp only))
def ef(t:Step)(t1:App×Int):Option ((App×Int) ⊕ App):=
 bif decide (t1.2<(t.x.Asks.length:Int))then
 (idx t.x.Asks t1.2).bind λx3=>
 (so x3 (t.s.Conf.Labels.length:Int)).bind λe=>
 (
  bif e == 0 then
  (qV t1.1.Asks x3).bind λx4=>
  some ((⟨t1.1.Id,t1.1.State,t1.1.Queue,t1.1.User,t1.1.Prio,⟨t1.1.Master.Mem,t1.1.Master.Cores⟩,x4.1,t1.1.Seen,t1.1.Beat,t1.1.Grants,t1.1.Kills,t1.1.Told,t1.1.Lost⟩:App),x4.2)
  else
  some (t1.1,e)).bind λq=>
 bif q.2 != 0 then
  none
 else
  some (.inl (q.1,w64 (t1.2+1)))
 else
 some (.inr t1.1)
theorem qU(t:Step)(t1:App×Int):Lo (ef t t1) (fD t t1):=by
 unfold ef fD
 repeat' (first | (with_reducible first | exact Cx _ _ | exact yN _ _ | apply af | apply ah | refine ai ?_ _ | exact ag _) | (intro _) | exact ae | (dsimp only))
def gz(t:Step):Option (Output×Step):=
 (d8 t.s t.x.Id).bind λx=>
 bif ! x.2 then
 none
 else
 bif x.1.State != 2 then
  none
 else
  bif decide (t.x.Beat<x.1.Beat)then
  none
  else
  bif decide ((w64 (t.x.Beat - x.1.Beat))>1)then
   none
  else
   bif t.x.Beat == x.1.Beat then
   (cD t x.1.Told).bind λx1=>
   (cW t x.1.Id).bind λx2=>
   some ((⟨0,x1,x2,x.1.Lost,0⟩:Output),t)
   else
   (itr 4096 (ef t) (x.1,0)).bind λa=>
   (iv t a t.x.Ids).bind λx5=>
   (cD x5.2 x5.1.Grants).bind λx6=>
   (cW x5.2 x5.1.Id).bind λx7=>
   (bO x5.1.Kills).bind λx8=>
   (qB x5.2.s (⟨x5.1.Id,x5.1.State,x5.1.Queue,x5.1.User,x5.1.Prio,⟨x5.1.Master.Mem,x5.1.Master.Cores⟩,x5.1.Asks,x5.2.s.Now,w64 (x5.1.Beat+1),[],[],x5.1.Grants,x5.1.Kills⟩:App)).bind λx9=>
   some ((⟨0,x6,x7,x8,0⟩:Output),(⟨⟨⟨x9.Conf.Labels,x9.Conf.Queues⟩,x9.Nodes,x9.Apps,x9.Conts,x9.Slots,x9.Plans,x9.Now,x9.Epoch,x9.Seq⟩,⟨x5.2.x.Kind,x5.2.x.Id,x5.2.x.Beat,x5.2.x.N,x5.2.x.Text,⟨x5.2.x.Node.Id,x5.2.x.Node.Label,x5.2.x.Node.Rack,⟨x5.2.x.Node.Cap.Mem,x5.2.x.Node.Cap.Cores⟩,x5.2.x.Node.Seen,x5.2.x.Node.Beat,x5.2.x.Node.Up⟩,⟨x5.2.x.App.Id,x5.2.x.App.State,x5.2.x.App.Queue,x5.2.x.App.User,x5.2.x.App.Prio,⟨x5.2.x.App.Master.Mem,x5.2.x.App.Master.Cores⟩,x5.2.x.App.Asks,x5.2.x.App.Seen,x5.2.x.App.Beat,x5.2.x.App.Grants,x5.2.x.App.Kills,x5.2.x.App.Told,x5.2.x.App.Lost⟩,x5.2.x.Asks,x5.2.x.Ids,⟨x5.2.x.Plan.Id,x5.2.x.Plan.Label,x5.2.x.Plan.From,x5.2.x.Plan.Until,⟨x5.2.x.Plan.Need.Mem,x5.2.x.Plan.Need.Cores⟩⟩⟩⟩:Step))
theorem tQ(t:Step):Lo (gz t) (eu t):=by
 unfold gz eu
 repeat' (first | (with_reducible first | exact gj _ _ | exact lB _ _ | exact sG _ _ | exact qU _ _ | exact vq _ _ _ | exact yJ _ _ | apply af | apply ah | refine ai ?_ _ | exact ag _) | (intro _) | exact ae | (dsimp only))
def oi(s:State):Option (List Int):=
 (itr 4096 (s_ s) ([],0)).bind λout1=>
 some out1
theorem Aq(s:State):Lo (oi s) (lR s):=by
 unfold oi lR
 repeat' (first | (with_reducible first | apply af | apply ah | refine ai ?_ _ | exact ag _) | (intro _) | exact ae | (dsimp only))
def p_(s:State):Option (List Int):=
 (itr 4096 (uz s) ([],[],0)).bind λout=>
 some out
theorem Bm(s:State):Lo (p_ s) (oR s):=by
 unfold p_ oR
 repeat' (first | (with_reducible first | apply af | apply ah | refine ai ?_ _ | exact ag _) | (intro _) | exact ae | (dsimp only))
def jw(s:List Plan)(f:(TupT fam [.st 9]→Option Bool))(t:Int):Option (Int ⊕ (Int ⊕ Unit)):=
 bif decide (t<(s.length:Int))then
 (idx s t).bind λx=>
 (f (x,())).bind λr=>
 bif r then
  some (.inr (.inl t))
 else
  some (.inl (w64 (t+1)))
 else
 some (.inr (.inr ()))
theorem vO(s:List Plan)(f f_':(TupT fam [.st 9]→Option Bool))(h_f:∀a,Lo (f a) (f_' a))(t:Int):Lo (jw s f t) (lk s f_' t):=by
 unfold jw lk
 repeat' (first | (with_reducible first | exact h_f _ | apply af | apply ah | refine ai ?_ _ | exact ag _) | (intro _) | exact ae | (dsimp only))
def lM(s:List Plan)(f:(TupT fam [.st 9]→Option Bool)):Option Int:=
 (itr 4096 (jw s f) 0).bind λq0=>
 match q0 with
 | .inl q=>
 some q
 | .inr _=>
 some (-1)
theorem zB(s:List Plan)(f f_':(TupT fam [.st 9]→Option Bool))(h_f:∀a,Lo (f a) (f_' a)):Lo (lM s f) (kH s f_'):=by
 unfold lM kH
 repeat' (first | (with_reducible first | refine vO _ _ _ ?_ _ | exact h_f _ | apply aC | apply aA | apply az | apply af | apply ah | refine ai ?_ _ | exact ag _) | (intro _) | exact ae | (dsimp only))
def pb(del:(TupT fam [.st 9]→Option Bool))(t:List Plan×Int×Int):Option ((List Plan×Int×Int) ⊕ ((List Plan×Int))):=none
theorem vS(del del_':(TupT fam [.st 9]→Option Bool))(h_del:∀a,Lo (del a) (del_' a))(t:List Plan×Int×Int):Lo (pb del t) (rz del_' t):=ae
def m8(s:List Plan)(del:(TupT fam [.st 9]→Option Bool)):Option (List Plan):=
 (lM s del).bind λi=>
 bif i == (-1)then
 some s
 else
 (itr 4096 (pb del) (s,i,w64 (i+1))).bind λq1=>
 (inS q1.2 (q1.1.length:Int) q1.1.length).bind λp=>
 (inS 0 q1.2 (cpy q1.1 p.1 p.2 (List.replicate p.2 (⟨0,0,0,0,⟨0,0⟩⟩:Plan))).length).bind λp1=>
 some (List.take p1.2 (cpy q1.1 p.1 p.2 (List.replicate p.2 (⟨0,0,0,0,⟨0,0⟩⟩:Plan))))
theorem zF(s:List Plan)(del del_':(TupT fam [.st 9]→Option Bool))(h_del:∀a,Lo (del a) (del_' a)):Lo (m8 s del) (kF s del_'):=by
 unfold m8 kF
 repeat' (first | (with_reducible first | refine zB _ _ _ ?_ | refine vS _ _ ?_ _ | exact h_del _ | apply af | apply ah | refine ai ?_ _ | exact ag _) | (intro _) | exact ae | (dsimp only))
def ki(l:List Ask)(label:Int)(t:Vec×Int):Option ((Vec×Int) ⊕ Vec):=
 bif decide (t.2<(l.length:Int))then
 (
  (idx l t.2).bind λx=>
  (
  bif x.Label == label then
   (cY 0 1125899906842624 [x.Size.Mem,x.Size.Cores]).bind λx1=>
   bif x1 then
   (cY 0 50 [x.Count]).bind λx2=>
   some x2
   else
   some false
  else
   some false).bind λq=>
  bif q then
  some (⟨w64 (t.1.Mem+(w64 (x.Size.Mem*x.Count))),w64 (t.1.Cores+(w64 (x.Size.Cores*x.Count)))⟩:Vec)
  else
  some t.1).bind λout=>
 some (.inl (out,w64 (t.2+1)))
 else
 some (.inr t.1)
theorem wD(l:List Ask)(label:Int)(t:Vec×Int):Lo (ki l label t) (mW l label t):=by
 unfold ki mW
 repeat' (first | (with_reducible first | exact yL _ _ _ | apply af | apply ah | refine ai ?_ _ | exact ag _) | (intro _) | exact ae | (dsimp only))
def nD(l:List Ask)(label:Int):Option Vec:=
 (itr 4096 (ki l label) ((⟨0,0⟩:Vec),0)).bind λout1=>
 some out1
theorem Ai(l:List Ask)(label:Int):Lo (nD l label) (lW l label):=by
 unfold nD lW
 repeat' (first | (with_reducible first | exact wD _ _ _ | apply af | apply ah | refine ai ?_ _ | exact ag _) | (intro _) | exact ae | (dsimp only))
def eJ(v:View)(t:Vec×Int):Option ((Vec×Int) ⊕ Vec):=
 bif decide (t.2<(v.s.Apps.length:Int))then
 (
  (idx v.s.Apps t.2).bind λx=>
  (
  (cK x).bind λx1=>
  bif x1 then
   (gA v x).bind λx2=>
   some x2
  else
   some false).bind λq=>
  bif q then
  (nD x.Asks v.label).bind λx3=>
  (dC t.1 x3).bind λx4=>
  some x4.1
  else
  some t.1).bind λout=>
 some (.inl (out,w64 (t.2+1)))
 else
 some (.inr t.1)
theorem rE(v:View)(t:Vec×Int):Lo (eJ v t) (f_ v t):=by
 unfold eJ f_
 repeat' (first | (with_reducible first | exact Ai _ _ | apply af | apply ah | refine ai ?_ _ | exact ag _) | (intro _) | exact ae | (dsimp only))
def gS(v:View):Option Vec:=
 (itr 4096 (eJ v) ((⟨0,0⟩:Vec),0)).bind λout1=>
 some out1
theorem uD(v:View):Lo (gS v) (fx v):=by
 unfold gS fx
 repeat' (first | (with_reducible first | exact rE _ _ | apply af | apply ah | refine ai ?_ _ | exact ag _) | (intro _) | exact ae | (dsimp only))
def iR(s:State)(path:List UInt8)(label:Int):Option Vec:=
 (gS (⟨⟨⟨s.Conf.Labels,s.Conf.Queues⟩,s.Nodes,s.Apps,s.Conts,s.Slots,s.Plans,s.Now,s.Epoch,s.Seq⟩,path,label,(-1)⟩:View)).bind λx=>
 some x
theorem qZ(s:State)(path:List UInt8)(label:Int):Lo (iR s path label) (ig s path label):=by
 unfold iR ig
 repeat' (first | (with_reducible first | exact uD _ | apply af | apply ah | refine ai ?_ _ | exact ag _) | (intro _) | exact ae | (dsimp only))
def d_(first:Int)(l:List Int):Option Int:=
 (itr 4096 (sZ l) (first,0)).bind λfirst1=>
 some first1
theorem md(first:Int)(l:List Int):Lo (d_ first l) (eb first l):=by
 unfold d_ eb
 repeat' (first | (with_reducible first | apply af | apply ah | refine ai ?_ _ | exact ag _) | (intro _) | exact ae | (dsimp only))
def kL(want:List Int)(most:List Int)(n:Int)(t1:List Int×Int×Int):Option ((List Int×Int×Int) ⊕ List Int):=
 bif decide (t1.2.2<n)then
 (idx want t1.2.2).bind λx9=>
 (bN x9).bind λx10=>
 (idx most t1.2.2).bind λx11=>
 (bN x11).bind λx12=>
 (d_ x10 [x12]).bind λx13=>
 (inb t1.2.2 t1.1.length).bind λi2=>
 (t1.1[i2]?).bind λx14=>
 (d_ (imax (w64 (x13 - x14)) 0) [t1.2.1]).bind λmore=>
 (inb t1.2.2 t1.1.length).bind λi3=>
 (t1.1[i3]?).bind λx15=>
 (inb t1.2.2 t1.1.length).bind λi4=>
 (t1.1[i4]?).bind λx16=>
 some (.inl (List.set t1.1 i4 (w64 (x15+more)),w64 (t1.2.1 - more),w64 (t1.2.2+1)))
 else
 some (.inr t1.1)
theorem yy(want:List Int)(most:List Int)(n:Int)(t1:List Int×Int×Int):Lo (kL want most n t1) (nQ want most n t1):=by
 unfold kL nQ
 repeat' (first | (with_reducible first | exact md _ _ | apply af | apply ah | refine ai ?_ _ | exact ag _) | (intro _) | exact ae | (dsimp only))
def kR(least:List Int)(want:List Int)(most:List Int)(n:Int)(t:List Int×Int×Int):Option ((List Int×Int×Int) ⊕ ((List Int×Int))):=
 bif decide (t.2.2<n)then
 (idx least t.2.2).bind λx=>
 (bN x).bind λx1=>
 (idx want t.2.2).bind λx2=>
 (bN x2).bind λx3=>
 (idx most t.2.2).bind λx4=>
 (bN x4).bind λx5=>
 (d_ x1 [x3,x5,t.2.1]).bind λx6=>
 (inb t.2.2 t.1.length).bind λi=>
 (t.1[i]?).bind λx7=>
 (inb t.2.2 (List.set t.1 i x6).length).bind λi1=>
 ((List.set t.1 i x6)[i1]?).bind λx8=>
 some (.inl (List.set t.1 i x6,w64 (t.2.1 - x8),w64 (t.2.2+1)))
 else
 some (.inr (t.1,t.2.1))
theorem yA(least:List Int)(want:List Int)(most:List Int)(n:Int)(t:List Int×Int×Int):Lo (kR least want most n t) (nB least want most n t):=by
 unfold kR nB
 repeat' (first | (with_reducible first | exact md _ _ | apply af | apply ah | refine ai ?_ _ | exact ag _) | (intro _) | exact ae | (dsimp only))
def pH(total:Int)(least:List Int)(want:List Int)(most:List Int):Option (List Int):=
 (d_ (least.length:Int) [(want.length:Int),(most.length:Int)]).bind λn=>
 (mkl 8 n n 0).bind λl=>
 (bN total).bind λleft=>
 (itr 4096 (kR least want most n) (l,left,0)).bind λq=>
 (itr 4096 (kL want most n) (q.1,q.2,0)).bind λout=>
 some out
theorem Bs(total:Int)(least:List Int)(want:List Int)(most:List Int):Lo (pH total least want most) (oU total least want most):=by
 unfold pH oU
 repeat' (first | (with_reducible first | exact md _ _ | exact yA _ _ _ _ _ | exact yy _ _ _ _ | apply af | apply ah | refine ai ?_ _ | exact ag _) | (intro _) | exact ae | (dsimp only))
def jr(s:State)(label:Int)(deep:Int)(self:State→(List UInt8)→Int→Int→Int→Option (List Share))(kids:List (List UInt8))(x5:List Int)(t1:List Share×Int):Option ((List Share×Int) ⊕ List Share):=
 bif decide (t1.2<(x5.length:Int))then
 (inb t1.2 x5.length).bind λi1=>
 (x5[i1]?).bind λx6=>
 (inb t1.2 kids.length).bind λi2=>
 (kids[i2]?).bind λx7=>
 (self s x7 label x6 (w64 (deep+1))).bind λx8=>
 (app 24 t1.1 x8).bind λl3=>
 some (.inl (l3,w64 (t1.2+1)))
 else
 some (.inr t1.1)
theorem we(s:State)(label:Int)(deep:Int)(self self_':State→(List UInt8)→Int→Int→Int→Option (List Share))(h_self:∀(a0:State)(a1:(List UInt8)) (a2:Int) (a3:Int) (a4:Int),Lo (self a0 a1 a2 a3 a4) (self_' a0 a1 a2 a3 a4))(kids:List (List UInt8))(x5:List Int)(t1:List Share×Int):Lo (jr s label deep self kids x5 t1) (kX s label deep self_' kids x5 t1):=by
 unfold jr kX
 repeat' (first | (with_reducible first | refine h_self _ _ _ _ _ | apply af | apply ah | refine ai ?_ _ | exact ag _) | (intro _) | exact ae | (dsimp only))
def jz(s:State)(label:Int)(kids:List (List UInt8))(t:Rows3_ListInt×Int):Option ((Rows3_ListInt×Int) ⊕ Rows3_ListInt):=
 bif decide (t.2<(kids.length:Int))then
 (inb t.2 kids.length).bind λi=>
 (kids[i]?).bind λx=>
 (dB s x label).bind λx1=>
 (bU s x label).bind λx2=>
 (iR s x label).bind λx3=>
 (mu s x label).bind λx4=>
 (inS t.2 (t.1.r0.length:Int) t.1.r0.length).bind λp=>
 (inS 0 1 [x1.Mem,w64 (x2.Mem+x3.Mem),x4.Mem].length).bind λp1=>
 (inS t.2 (t.1.r1.length:Int) t.1.r1.length).bind λp2=>
 (inS 1 2 [x1.Mem,w64 (x2.Mem+x3.Mem),x4.Mem].length).bind λp3=>
 (inS t.2 (t.1.r2.length:Int) t.1.r2.length).bind λp4=>
 (inS 2 3 [x1.Mem,w64 (x2.Mem+x3.Mem),x4.Mem].length).bind λp5=>
 some (.inl ((⟨cpy t.1.r0 p.1 p.2 (sub [x1.Mem,w64 (x2.Mem+x3.Mem),x4.Mem] p1.1 p1.2),cpy t.1.r1 p2.1 p2.2 (sub [x1.Mem,w64 (x2.Mem+x3.Mem),x4.Mem] p3.1 p3.2),cpy t.1.r2 p4.1 p4.2 (sub [x1.Mem,w64 (x2.Mem+x3.Mem),x4.Mem] p5.1 p5.2)⟩:Rows3_ListInt),w64 (t.2+1)))
 else
 some (.inr t.1)
theorem wd(s:State)(label:Int)(kids:List (List UInt8))(t:Rows3_ListInt×Int):Lo (jz s label kids t) (k_ s label kids t):=by
 unfold jz k_
 repeat' (first | (with_reducible first | exact gw _ _ _ | exact cJ _ _ _ | exact qZ _ _ _ | exact vK _ _ _ | apply af | apply ah | refine ai ?_ _ | exact ag _) | (intro _) | exact ae | (dsimp only))
def mq(self:State→(List UInt8)→Int→Int→Int→Option (List Share))(s:State)(path:List UInt8)(label:Int)(mem:Int)(deep:Int):Option (List Share):=
 (iq s.Conf path).bind λkids=>
 (
 bif(kids.length:Int) == 0 then
  some true
 else
  some (decide (deep>4))).bind λq=>
 bif q then
 some [(⟨path,mem⟩:Share)]
 else
 (mkl 8 (kids.length:Int) (kids.length:Int) 0).bind λl=>
 (mkl 8 (kids.length:Int) (kids.length:Int) 0).bind λl1=>
 (mkl 8 (kids.length:Int) (kids.length:Int) 0).bind λl2=>
 (itr 4096 (jz s label kids) ((⟨l,l1,l2⟩:Rows3_ListInt),0)).bind λrows=>
 (pH mem rows.r0 rows.r1 rows.r2).bind λx5=>
 (itr 4096 (jr s label deep self kids x5) ([],0)).bind λout=>
 some out
theorem zH(self self_':State→(List UInt8)→Int→Int→Int→Option (List Share))(h_self:∀(a0:State)(a1:(List UInt8)) (a2:Int) (a3:Int) (a4:Int),Lo (self a0 a1 a2 a3 a4) (self_' a0 a1 a2 a3 a4))(s:State)(path:List UInt8)(label:Int)(mem:Int)(deep:Int):Lo (mq self s path label mem deep) (qc self_' s path label mem deep):=by
 unfold mq qc
 repeat' (first | (with_reducible first | exact mT _ _ | exact wd _ _ _ _ | exact Bs _ _ _ _ | refine we _ _ _ _ _ ?_ _ _ _ | refine h_self _ _ _ _ _ | apply af | apply ah | refine ai ?_ _ | exact ag _) | (intro _) | exact ae | (dsimp only))
def iQ:Nat→State→(List UInt8)→Int→Int→Int→Option (List Share)
 | 0=>λ_ _ _ _ _=>none
 | n+1=>mq (iQ n)
theorem rF:∀(n:Nat),∀(a0:State)(a1:List UInt8)(a2:Int)(a3:Int) (a4:Int),Lo (iQ n a0 a1 a2 a3 a4) (ic n a0 a1 a2 a3 a4)
 | 0=>λ_ _ _ _ _=>ae
 | n+1=>λa0 a1 a2 a3 a4=>zH (iQ n) (ic n) (rF n) a0 a1 a2 a3 a4
def pU(a0:State)(a1:List UInt8)(a2:Int)(a3:Int)(a4:Int):Option (List Share):=iQ 64 a0 a1 a2 a3 a4
theorem Bl(a0:State)(a1:List UInt8)(a2:Int)(a3:Int)(a4:Int):Lo (pU a0 a1 a2 a3 a4) (oE a0 a1 a2 a3 a4):=by
 unfold pU oE
 repeat' (first | (with_reducible first | refine rF _ _ _ _ _ _ | apply af | apply ah | refine ai ?_ _ | exact ag _) | (intro _) | exact ae | (dsimp only))
def gu(s:State)(label:Int):Option (List Share):=
 (eU s label).bind λx=>
 (pU s ([114,111,111,116]:List UInt8) label x.Mem 1).bind λx1=>
 some x1
theorem lY(s:State)(label:Int):Lo (gu s label) (fX s label):=by
 unfold gu fX
 repeat' (first | (with_reducible first | exact jA _ _ | exact Bl _ _ _ _ _ | apply af | apply ah | refine ai ?_ _ | exact ag _) | (intro _) | exact ae | (dsimp only))
def j_(s:List Share)(f:(TupT fam [.st 13]→Option Bool))(t:Int):Option (Int ⊕ (Int ⊕ Unit)):=
 bif decide (t<(s.length:Int))then
 (idx s t).bind λx=>
 (f (x,())).bind λr=>
 bif r then
  some (.inr (.inl t))
 else
  some (.inl (w64 (t+1)))
 else
 some (.inr (.inr ()))
theorem xH(s:List Share)(f f_':(TupT fam [.st 13]→Option Bool))(h_f:∀a,Lo (f a) (f_' a))(t:Int):Lo (j_ s f t) (m9 s f_' t):=by
 unfold j_ m9
 repeat' (first | (with_reducible first | exact h_f _ | apply af | apply ah | refine ai ?_ _ | exact ag _) | (intro _) | exact ae | (dsimp only))
def nN(s:List Share)(f:(TupT fam [.st 13]→Option Bool)):Option Int:=
 (itr 4096 (j_ s f) 0).bind λq0=>
 match q0 with
 | .inl q=>
 some q
 | .inr _=>
 some (-1)
theorem Aj(s:List Share)(f f_':(TupT fam [.st 13]→Option Bool))(h_f:∀a,Lo (f a) (f_' a)):Lo (nN s f) (m_ s f_'):=by
 unfold nN m_
 repeat' (first | (with_reducible first | refine xH _ _ _ ?_ _ | exact h_f _ | apply aC | apply aA | apply az | apply af | apply ah | refine ai ?_ _ | exact ag _) | (intro _) | exact ae | (dsimp only))
def lX(s:State)(c:Cont):Option Bool:=
 (d8 s c.App).bind λx=>
 (bU s x.1.Queue c.Label).bind λx1=>
 (itr 4096 (rt s c) (x1.Mem,0)).bind λused2=>
 (gu s c.Label).bind λl=>
 (nN l (λa'=>nh a'.1 x.1)).bind λi=>
 bif decide (i≥0)then
 (inb i l.length).bind λi1=>
 (l[i1]?).bind λx3=>
 some (decide (used2>x3.Mem))
 else
 some false
theorem zc(s:State)(c:Cont):Lo (lX s c) (kK s c):=by
 unfold lX kK
 repeat' (first | (with_reducible first | exact gj _ _ | exact cJ _ _ _ | exact lY _ _ | refine Aj _ _ _ ?_ | apply af | apply ah | refine ai ?_ _ | exact ag _) | (intro _) | exact ae | (dsimp only))
def ke(label:Int)(x1:Cont)(s1:State):Option State:=
 (fE s1.Conts (λa'=>ot a'.1 x1)).bind λi=>
 (
 bif decide (i<0)then
  some true
 else
  (inb i s1.Conts.length).bind λi1=>
  (s1.Conts[i1]?).bind λx2=>
  (ss x2 label s1.Now).bind λx3=>
  some (! x3)).bind λq=>
 bif q then
 some s1
 else
 (lX s1 x1).bind λx4=>
 bif x4 then
  (bY s1 [x1.Id]).bind λx5=>
  some x5
 else
  (inb i s1.Conts.length).bind λi2=>
  (s1.Conts[i2]?).bind λx6=>
  some (⟨⟨s1.Conf.Labels,s1.Conf.Queues⟩,s1.Nodes,s1.Apps,List.set s1.Conts i2 (⟨x6.Id,x6.App,x6.Node,⟨x6.Size.Mem,x6.Size.Cores⟩,x6.Prio,x6.Label,x6.Master,0⟩:Cont),s1.Slots,s1.Plans,s1.Now,s1.Epoch,s1.Seq⟩:State)
theorem wK(label:Int)(x1:Cont)(s1:State):Lo (ke label x1 s1) (m6 label x1 s1):=by
 unfold ke m6
 repeat' (first | (with_reducible first | refine jl _ _ _ ?_ | exact zc _ _ | exact gy _ _ | apply af | apply ah | refine ai ?_ _ | exact ag _) | (intro _) | exact ae | (dsimp only))
def nW(s:State)(label:Int):Option State:=
 (bf s.Conts).bind λx=>
 (rgB (ke label) x s).bind λs2=>
 some s2
theorem AN(s:State)(label:Int):Lo (nW s label) (mi s label):=by
 unfold nW mi
 repeat' (first | (with_reducible first | exact wK _ _ _ | refine Gj (λ_ _=>?_) _ _ | apply af | apply ah | refine ai ?_ _ | exact ag _) | (intro _) | exact ae | (dsimp only))
def j9(s:State)(label:Int)(t1:Looker×Int):Option ((Looker×Int) ⊕ Looker):=
 bif decide (t1.2<(s.Conts.length:Int))then
 (
  (idx s.Conts t1.2).bind λx4=>
  bif x4.Label != label then
  some t1.1
  else
  (d8 s x4.App).bind λx5=>
  bif x4.Notice != 0 then
   (cf (⟨⟨⟨t1.1.s.Conf.Labels,t1.1.s.Conf.Queues⟩,t1.1.s.Nodes,t1.1.s.Apps,t1.1.s.Conts,t1.1.s.Slots,t1.1.s.Plans,t1.1.s.Now,t1.1.s.Epoch,t1.1.s.Seq⟩,t1.1.label,t1.1.over,mput (λx6=>x4.Id == x6.k) t1.1.leaf (⟨x4.Id,x5.1.Queue⟩:Ent4_IntListUInt8),t1.1.noticed,t1.1.gone⟩:Looker) x4).bind λx7=>
   some x7
  else
   some (⟨⟨⟨t1.1.s.Conf.Labels,t1.1.s.Conf.Queues⟩,t1.1.s.Nodes,t1.1.s.Apps,t1.1.s.Conts,t1.1.s.Slots,t1.1.s.Plans,t1.1.s.Now,t1.1.s.Epoch,t1.1.s.Seq⟩,t1.1.label,t1.1.over,mput (λx6=>x4.Id == x6.k) t1.1.leaf (⟨x4.Id,x5.1.Queue⟩:Ent4_IntListUInt8),t1.1.noticed,t1.1.gone⟩:Looker)).bind λk1=>
 some (.inl (k1,w64 (t1.2+1)))
 else
 some (.inr t1.1)
theorem w_(s:State)(label:Int)(t1:Looker×Int):Lo (j9 s label t1) (mX s label t1):=by
 unfold j9 mX
 repeat' (first | (with_reducible first | exact gj _ _ | apply af | apply ah | refine ai ?_ _ | exact ag _) | (intro _) | exact ae | (dsimp only))
def j8(s:State)(label:Int)(x:List Share)(t:Looker×Int):Option ((Looker×Int) ⊕ Looker):=
 bif decide (t.2<(x.length:Int))then
 (inb t.2 x.length).bind λi=>
 (x[i]?).bind λx1=>
 (bU s x1.Path label).bind λx2=>
 some (.inl ((⟨⟨⟨t.1.s.Conf.Labels,t.1.s.Conf.Queues⟩,t.1.s.Nodes,t.1.s.Apps,t.1.s.Conts,t.1.s.Slots,t.1.s.Plans,t.1.s.Now,t.1.s.Epoch,t.1.s.Seq⟩,t.1.label,mput (λx3=>x1.Path == x3.k) t.1.over (⟨x1.Path,w64 (x2.Mem - x1.Mem)⟩:Ent0_ListUInt8Int),t.1.leaf,t.1.noticed,t.1.gone⟩:Looker),w64 (t.2+1)))
 else
 some (.inr t.1)
theorem xI(s:State)(label:Int)(x:List Share)(t:Looker×Int):Lo (j8 s label x t) (m7 s label x t):=by
 unfold j8 m7
 repeat' (first | (with_reducible first | exact cJ _ _ _ | apply af | apply ah | refine ai ?_ _ | exact ag _) | (intro _) | exact ae | (dsimp only))
def nZ(s:State)(label:Int):Option Looker:=
 (gu s label).bind λx=>
 (itr 4096 (j8 s label x) ((⟨⟨⟨s.Conf.Labels,s.Conf.Queues⟩,s.Nodes,s.Apps,s.Conts,s.Slots,s.Plans,s.Now,s.Epoch,s.Seq⟩,label,[],[],[],0⟩:Looker),0)).bind λk=>
 (itr 4096 (j9 s label) (k,0)).bind λk2=>
 some k2
theorem Ac(s:State)(label:Int):Lo (nZ s label) (my s label):=by
 unfold nZ my
 repeat' (first | (with_reducible first | exact lY _ _ | exact xI _ _ _ _ | exact w_ _ _ _ | apply af | apply ah | refine ai ?_ _ | exact ag _) | (intro _) | exact ae | (dsimp only))
def dW(k:Looker)(path:List UInt8)(x:Vec)(x1:Vec)(x2:App)(t1:Int):Option (Int ⊕ (Int ⊕ Unit)):=
 bif decide (t1<(x2.Asks.length:Int))then
 (idx x2.Asks t1).bind λx4=>
 (
  bif x4.Label == k.label then
  some (decide ((w64 (x.Mem+x4.Size.Mem))≤x1.Mem))
  else
  some false).bind λq1=>
 bif q1 then
  (iR k.s path k.label).bind λx5=>
  some (.inr (.inl (imin x5.Mem (w64 (x1.Mem - x.Mem)))))
 else
  some (.inl (w64 (t1+1)))
 else
 some (.inr (.inr ()))
theorem pJ(k:Looker)(path:List UInt8)(x:Vec)(x1:Vec)(x2:App)(t1:Int):Lo (dW k path x x1 x2 t1) (eM k path x x1 x2 t1):=by
 unfold dW eM
 repeat' (first | (with_reducible first | exact qZ _ _ _ | apply af | apply ah | refine ai ?_ _ | exact ag _) | (intro _) | exact ae | (dsimp only))
def dP(k:Looker)(path:List UInt8)(x:Vec)(x1:Vec)(t:Int):Option (Int ⊕ (Int ⊕ Unit)):=
 bif decide (t<(k.s.Apps.length:Int))then
 (
  (idx k.s.Apps t).bind λx2=>
  (
  (cK x2).bind λx3=>
  bif ! x3 then
   some true
  else
   some (! (x2.Queue == path))).bind λq=>
  bif q then
  some (.inl ())
  else
  (itr 4096 (dW k path x x1 x2) 0).bind λq0=>
  match q0 with
  | .inl q2=>
   some (.inr q2)
  | .inr _=>
   some (.inl ()):Option (Unit ⊕ Int)).bind λq0=>
 match q0 with
 | .inl _=>
  some (.inl (w64 (t+1)))
 | .inr q3=>
  some (.inr (.inl q3))
 else
 some (.inr (.inr ()))
theorem qk(k:Looker)(path:List UInt8)(x:Vec)(x1:Vec)(t:Int):Lo (dP k path x x1 t) (eS k path x x1 t):=by
 unfold dP eS
 repeat' (first | (with_reducible first | exact pJ _ _ _ _ _ _ | apply aC | apply aA | apply az | apply af | apply ah | refine ai ?_ _ | exact ag _) | (intro _) | exact ae | (dsimp only))
def fF(k:Looker)(path:List UInt8):Option (Int×Looker):=
 (bU k.s path k.label).bind λx=>
 (dB k.s path k.label).bind λx1=>
 (itr 4096 (dP k path x x1) 0).bind λq0=>
 match q0 with
 | .inl q4=>
 some (q4,k)
 | .inr _=>
 some (0,k)
theorem sD(k:Looker)(path:List UInt8):Lo (fF k path) (dL k path):=by
 unfold fF dL
 repeat' (first | (with_reducible first | exact cJ _ _ _ | exact gw _ _ _ | exact qk _ _ _ _ _ | apply aC | apply aA | apply az | apply af | apply ah | refine ai ?_ _ | exact ag _) | (intro _) | exact ae | (dsimp only))
def ep(x:List Share)(t:Looker×Int×Int):Option ((Looker×Int×Int) ⊕ ((Looker×Int))):=
 bif decide (t.2.2<(x.length:Int))then
 (inb t.2.2 x.length).bind λi=>
 (x[i]?).bind λx1=>
 (fF t.1 x1.Path).bind λx2=>
 let sum:=w64 (t.2.1+x2.1)
 some (.inl (x2.2,sum,w64 (t.2.2+1)))
 else
 some (.inr (t.1,t.2.1))
theorem qw(x:List Share)(t:Looker×Int×Int):Lo (ep x t) (fA x t):=by
 unfold ep fA
 repeat' (first | (with_reducible first | exact sD _ _ | apply af | apply ah | refine ai ?_ _ | exact ag _) | (intro _) | exact ae | (dsimp only))
def gi(k:Looker):Option (Int×Looker):=
 (gu k.s k.label).bind λx=>
 (itr 4096 (ep x) (k,0,0)).bind λq=>
 (eU q.1.s q.1.label).bind λx3=>
 (bU q.1.s ([114,111,111,116]:List UInt8) q.1.label).bind λx4=>
 some (w64 (q.2 - (imax (w64 (x3.Mem - x4.Mem)) 0)),q.1)
theorem tu(k:Looker):Lo (gi k) (eF k):=by
 unfold gi eF
 repeat' (first | (with_reducible first | exact lY _ _ | exact qw _ _ | exact jA _ _ | exact cJ _ _ _ | apply af | apply ah | refine ai ?_ _ | exact ag _) | (intro _) | exact ae | (dsimp only))
def ga(k:Looker):Option (Cont×Bool×Looker):=
 (itr 4096 (ko k) ([],0)).bind λbest1=>
 (rngc (ω:=Obj) (Obj.deferred none) (λ_=>some ([]:List UInt8)) (km k) best1).bind λfound1=>
 let e7:=mget (λx8=>found1 == x8.k) best1 (⟨found1,⟨0,0,0,⟨0,0⟩,0,0,false,0⟩⟩:Ent1_ListUInt8Cont)
 let is1:=mhas (λx8=>found1 == x8.k) best1
 some (e7.v,is1,k)
theorem tk(k:Looker):Lo (ga k) (ew k):=by
 unfold ga ew
 repeat' (first | (with_reducible first | refine Ka ?_ (λ_ _ _ _=>rfl) (λ_ _=>rfl) _ | apply af | apply ah | refine ai ?_ _ | exact ag _) | (intro _) | exact ae | (dsimp only))
def kf(need:Int×Looker)(t:Looker×List Int):Option ((Looker×List Int) ⊕ List Int):=
 bif decide (t.1.gone<need.1)then
 (ga t.1).bind λx=>
 bif ! x.2.1 then
  some (.inr t.2)
 else
  (cf x.2.2 x.1).bind λx1=>
  (app 8 t.2 [x.1.Id]).bind λl=>
  some (.inl (x1,l))
 else
 some (.inr t.2)
theorem xu(need:Int×Looker)(t:Looker×List Int):Lo (kf need t) (mG need t):=by
 unfold kf mG
 repeat' (first | (with_reducible first | exact tk _ | apply af | apply ah | refine ai ?_ _ | exact ag _) | (intro _) | exact ae | (dsimp only))
def nr(s:State)(label:Int):Option (List Int):=
 (nZ s label).bind λk=>
 (gi k).bind λneed=>
 (itr 4096 (kf need) (need.2,[])).bind λout=>
 some out
theorem A3(s:State)(label:Int):Lo (nr s label) (mV s label):=by
 unfold nr mV
 repeat' (first | (with_reducible first | exact Ac _ _ | exact tu _ | exact xu _ _ | apply af | apply ah | refine ai ?_ _ | exact ag _) | (intro _) | exact ae | (dsimp only))
def bA(a:Int)(b:Int)(t:List Int×Int):Option ((List Int×Int) ⊕ List Int):=
 bif decide (t.2<b)then
 (itr 4096 (dv a) (t.1,t.2)).bind λdata1=>
 some (.inl (data1,w64 (t.2+1)))
 else
 some (.inr t.1)
theorem iI(a:Int)(b:Int)(t:List Int×Int):Lo (bA a b t) (bM a b t):=by
 unfold bA bM
 repeat' (first | (with_reducible first | apply af | apply ah | refine ai ?_ _ | exact ag _) | (intro _) | exact ae | (dsimp only))
def bP(data:List Int)(a:Int)(b:Int):Option (List Int):=
 (itr 4096 (bA a b) (data,w64 (a+1))).bind λdata2=>
 some data2
theorem jL(data:List Int)(a:Int)(b:Int):Lo (bP data a b) (be data a b):=by
 unfold bP be
 repeat' (first | (with_reducible first | exact iI _ _ _ | apply af | apply ah | refine ai ?_ _ | exact ag _) | (intro _) | exact ae | (dsimp only))
def bX(a:Int)(b:Int)(limit:Int)(data1:List Int):Option (List Int ⊕ List Int):=
 bif decide ((w64 (b - a))≤12)then
 (bP data1 a b).bind λx=>
 some (.inr x)
 else
 bif limit == 0 then
  none
 else
  none
theorem jW(a:Int)(b:Int)(limit:Int)(data1:List Int):Lo (bX a b limit data1) (cj a b limit data1):=by
 unfold bX cj
 repeat' (first | (with_reducible first | exact jL _ _ _ | apply af | apply ah | refine ai ?_ _ | exact ag _) | (intro _) | exact ae | (dsimp only))
def cC(self:(List Int)→Int→Int→Int→Option (List Int))(data:List Int)(a:Int)(b:Int)(limit:Int):Option (List Int):=
 (itr 4096 (bX a b limit) data).bind λdata2=>
 some data2
theorem lJ(self self_':(List Int)→Int→Int→Int→Option (List Int))(h_self:∀(a0:(List Int)) (a1:Int) (a2:Int) (a3:Int),Lo (self a0 a1 a2 a3) (self_' a0 a1 a2 a3))(data:List Int)(a:Int)(b:Int)(limit:Int):Lo (cC self data a b limit) (cV self_' data a b limit):=by
 unfold cC cV
 repeat' (first | (with_reducible first | exact jW _ _ _ _ | refine h_self _ _ _ _ | apply af | apply ah | refine ai ?_ _ | exact ag _) | (intro _) | exact ae | (dsimp only))
def br:Nat→(List Int)→Int→Int→Int→Option (List Int)
 | 0=>λ_ _ _ _=>none
 | n+1=>cC (br n)
theorem eH:∀(n:Nat),∀(a0:List Int)(a1:Int)(a2:Int)(a3:Int),Lo (br n a0 a1 a2 a3) (a7 n a0 a1 a2 a3)
 | 0=>λ_ _ _ _=>ae
 | n+1=>λa0 a1 a2 a3=>lJ (br n) (a7 n) (eH n) a0 a1 a2 a3
def cU(a0:List Int)(a1:Int)(a2:Int)(a3:Int):Option (List Int):=br 64 a0 a1 a2 a3
theorem ni(a0:List Int)(a1:Int)(a2:Int)(a3:Int):Lo (cU a0 a1 a2 a3) (bZ a0 a1 a2 a3):=by
 unfold cU bZ
 repeat' (first | (with_reducible first | refine eH _ _ _ _ _ | apply af | apply ah | refine ai ?_ _ | exact ag _) | (intro _) | exact ae | (dsimp only))
def er(x:List Int):Option (List Int):=
 (zi (IntKind.u64.wrap (x.length:Int))).bind λx1=>
 (cU x 0 (x.length:Int) x1).bind λx2=>
 some x2
theorem qN(x:List Int):Lo (er x) (cZ x):=by
 unfold er cZ
 repeat' (first | (with_reducible first | exact ni _ _ _ _ | apply af | apply ah | refine ai ?_ _ | exact ag _) | (intro _) | exact ae | (dsimp only))
def ju(s:State)(t3:State)(t4:List Int×Int):Option ((List Int×Int) ⊕ List Int):=
 bif decide (t4.2<(s.Conts.length:Int))then
 (
  (idx s.Conts t4.2).bind λx5=>
  (jK t3.Conts (λa'=>mS a'.1 x5)).bind λx6=>
  bif ! x6 then
  (app 8 t4.1 [x5.Id]).bind λl=>
  some l
  else
  some t4.1).bind λgone=>
 some (.inl (gone,w64 (t4.2+1)))
 else
 some (.inr t4.1)
theorem vQ(s:State)(t3:State)(t4:List Int×Int):Lo (ju s t3 t4) (kN s t3 t4):=by
 unfold ju kN
 repeat' (first | (with_reducible first | refine sO _ _ _ ?_ | apply af | apply ah | refine ai ?_ _ | exact ag _) | (intro _) | exact ae | (dsimp only))
def jg(x2:List Int)(t1:State×Int):Option ((State×Int) ⊕ State):=
 bif decide (t1.2<(x2.length:Int))then
 (inb t1.2 x2.length).bind λi=>
 (x2[i]?).bind λx3=>
 (fE t1.1.Conts (λa'=>mj a'.1 x3)).bind λi1=>
 (inb i1 t1.1.Conts.length).bind λi2=>
 (t1.1.Conts[i2]?).bind λx4=>
 some (.inl ((⟨⟨t1.1.Conf.Labels,t1.1.Conf.Queues⟩,t1.1.Nodes,t1.1.Apps,List.set t1.1.Conts i2 (⟨x4.Id,x4.App,x4.Node,⟨x4.Size.Mem,x4.Size.Cores⟩,x4.Prio,x4.Label,x4.Master,imax t1.1.Now 1⟩:Cont),t1.1.Slots,t1.1.Plans,t1.1.Now,t1.1.Epoch,t1.1.Seq⟩:State),w64 (t1.2+1)))
 else
 some (.inr t1.1)
theorem vU(x2:List Int)(t1:State×Int):Lo (jg x2 t1) (la x2 t1):=by
 unfold jg la
 repeat' (first | (with_reducible first | refine jl _ _ _ ?_ | apply af | apply ah | refine ai ?_ _ | exact ag _) | (intro _) | exact ae | (dsimp only))
def jq(s:State)(t:State×Int):Option ((State×Int) ⊕ State):=
 bif decide (t.2<(s.Conf.Labels.length:Int))then
 (nW t.1 t.2).bind λx1=>
 (nr x1 t.2).bind λx2=>
 (itr 4096 (jg x2) (x1,0)).bind λt2=>
 some (.inl (t2,w64 (t.2+1)))
 else
 some (.inr t.1)
theorem vR(s:State)(t:State×Int):Lo (jq s t) (lj s t):=by
 unfold jq lj
 repeat' (first | (with_reducible first | exact AN _ _ | exact A3 _ _ | exact vU _ _ | apply af | apply ah | refine ai ?_ _ | exact ag _) | (intro _) | exact ae | (dsimp only))
def mf(s:State):Option (State×List Int):=
 (bY s []).bind λx=>
 (itr 4096 (jq s) (x,0)).bind λt3=>
 (itr 4096 (ju s t3) ([],0)).bind λgone1=>
 (er gone1).bind λx7=>
 some (t3,x7)
theorem zD(s:State):Lo (mf s) (kJ s):=by
 unfold mf kJ
 repeat' (first | (with_reducible first | exact gy _ _ | exact vR _ _ | exact vQ _ _ _ | exact qN _ | apply af | apply ah | refine ai ?_ _ | exact ag _) | (intro _) | exact ae | (dsimp only))
def fI(t:Step)(was:List Cont)(x5:State×List Int)(t3:Output×Int):Option ((Output×Int) ⊕ Output):=
 bif decide (t3.2<(was.length:Int))then
 (
  (inb t3.2 was.length).bind λi2=>
  (was[i2]?).bind λx6=>
  (cD (⟨⟨⟨x5.1.Conf.Labels,x5.1.Conf.Queues⟩,x5.1.Nodes,x5.1.Apps,x5.1.Conts,x5.1.Slots,x5.1.Plans,x5.1.Now,x5.1.Epoch,x5.1.Seq⟩,⟨t.x.Kind,t.x.Id,t.x.Beat,t.x.N,t.x.Text,⟨t.x.Node.Id,t.x.Node.Label,t.x.Node.Rack,⟨t.x.Node.Cap.Mem,t.x.Node.Cap.Cores⟩,t.x.Node.Seen,t.x.Node.Beat,t.x.Node.Up⟩,⟨t.x.App.Id,t.x.App.State,t.x.App.Queue,t.x.App.User,t.x.App.Prio,⟨t.x.App.Master.Mem,t.x.App.Master.Cores⟩,t.x.App.Asks,t.x.App.Seen,t.x.App.Beat,t.x.App.Grants,t.x.App.Kills,t.x.App.Told,t.x.App.Lost⟩,t.x.Asks,t.x.Ids,⟨t.x.Plan.Id,t.x.Plan.Label,t.x.Plan.From,t.x.Plan.Until,⟨t.x.Plan.Need.Mem,t.x.Plan.Need.Cores⟩⟩⟩⟩:Step) [x6.Id]).bind λx7=>
  bif(x7.length:Int) == 0 then
  (app 8 t3.1.Gone [x6.Id]).bind λl=>
  some (⟨t3.1.Err,t3.1.Conts,t3.1.Ids,l,t3.1.N⟩:Output)
  else
  some t3.1).bind λout=>
 some (.inl (out,w64 (t3.2+1)))
 else
 some (.inr t3.1)
theorem sE(t:Step)(was:List Cont)(x5:State×List Int)(t3:Output×Int):Lo (fI t was x5 t3) (hU t was x5 t3):=by
 unfold fI hU
 repeat' (first | (with_reducible first | exact lB _ _ | apply af | apply ah | refine ai ?_ _ | exact ag _) | (intro _) | exact ae | (dsimp only))
def iA(t:Step):Option (Output×Step):=
 (
 bif decide (t.x.N<1)then
  some true
 else
  some (decide (t.x.N>100))).bind λq=>
 bif q then
 none
 else
 bif decide (t.s.Now>(w64 (1000000000 - t.x.N)))then
  none
 else
  (bf t.s.Conts).bind λwas=>
  (oi (⟨⟨t.s.Conf.Labels,t.s.Conf.Queues⟩,t.s.Nodes,t.s.Apps,t.s.Conts,t.s.Slots,t.s.Plans,w64 (t.s.Now+t.x.N),t.s.Epoch,t.s.Seq⟩:State)).bind λx=>
  (itr 4096 (mF x) 0).bind λ_=>
  (p_ (⟨⟨t.s.Conf.Labels,t.s.Conf.Queues⟩,t.s.Nodes,t.s.Apps,t.s.Conts,t.s.Slots,t.s.Plans,w64 (t.s.Now+t.x.N),t.s.Epoch,t.s.Seq⟩:State)).bind λx2=>
  (itr 4096 (mv x2) 0).bind λ_=>
  (m8 t.s.Plans (λa'=>none)).bind λx4=>
  (mf (⟨⟨t.s.Conf.Labels,t.s.Conf.Queues⟩,t.s.Nodes,t.s.Apps,t.s.Conts,t.s.Slots,x4,w64 (t.s.Now+t.x.N),t.s.Epoch,t.s.Seq⟩:State)).bind λx5=>
  (itr 4096 (fI t was x5) ((⟨0,[],[],[],0⟩:Output),0)).bind λout1=>
  some (out1,(⟨⟨⟨x5.1.Conf.Labels,x5.1.Conf.Queues⟩,x5.1.Nodes,x5.1.Apps,x5.1.Conts,x5.1.Slots,x5.1.Plans,x5.1.Now,x5.1.Epoch,x5.1.Seq⟩,⟨t.x.Kind,t.x.Id,t.x.Beat,t.x.N,t.x.Text,⟨t.x.Node.Id,t.x.Node.Label,t.x.Node.Rack,⟨t.x.Node.Cap.Mem,t.x.Node.Cap.Cores⟩,t.x.Node.Seen,t.x.Node.Beat,t.x.Node.Up⟩,⟨t.x.App.Id,t.x.App.State,t.x.App.Queue,t.x.App.User,t.x.App.Prio,⟨t.x.App.Master.Mem,t.x.App.Master.Cores⟩,t.x.App.Asks,t.x.App.Seen,t.x.App.Beat,t.x.App.Grants,t.x.App.Kills,t.x.App.Told,t.x.App.Lost⟩,t.x.Asks,t.x.Ids,⟨t.x.Plan.Id,t.x.Plan.Label,t.x.Plan.From,t.x.Plan.Until,⟨t.x.Plan.Need.Mem,t.x.Plan.Need.Cores⟩⟩⟩⟩:Step))
theorem u5(t:Step):Lo (iA t) (fN t):=by
 unfold iA fN
 repeat' (first | (with_reducible first | exact Aq _ | exact Bm _ | refine zF _ _ _ ?_ | exact zD _ | exact sE _ _ _ _ | apply af | apply ah | refine ai ?_ _ | exact ag _) | (intro _) | exact ae | (dsimp only))
def kj(t:Step):Option (Output×Step):=
 bif t.x.Kind == 1 then
 (eo t).bind λx=>
 some (x.1,x.2)
 else
 bif t.x.Kind == 2 then
  (kO t.s t.x.Node).bind λx1=>
  (dg t x1.1 x1.2).bind λx2=>
  some (x2.1,x2.2)
 else
  bif t.x.Kind == 3 then
  (iM t).bind λx3=>
  some (x3.1,x3.2)
  else
  bif t.x.Kind == 4 then
   (p8 t.s t.x.App).bind λx4=>
   (dg t x4.1 x4.2).bind λx5=>
   some (x5.1,x5.2)
  else
   bif t.x.Kind == 5 then
   (gz t).bind λx6=>
   some (x6.1,x6.2)
   else
   bif t.x.Kind == 6 then
    none
   else
    bif t.x.Kind == 7 then
    none
    else
    bif t.x.Kind == 8 then
     (iA t).bind λx7=>
     some (x7.1,x7.2)
    else
     bif t.x.Kind == 9 then
     none
     else
     bif t.x.Kind == 10 then
      none
     else
      bif t.x.Kind == 11 then
      none
      else
      none
theorem xp(t:Step):Lo (kj t) (iP t):=by
 unfold kj iP
 repeat' (first | (with_reducible first | exact qK _ | exact yB _ _ | exact uL _ | exact Bn _ _ | exact tQ _ | exact u5 _ | apply af | apply ah | refine ai ?_ _ | exact ag _) | (intro _) | exact ae | (dsimp only))
def jD(s:State)(x:Input):Option (State×Output):=
 (bY s []).bind λx1=>
 (kj (⟨⟨⟨x1.Conf.Labels,x1.Conf.Queues⟩,x1.Nodes,x1.Apps,x1.Conts,x1.Slots,x1.Plans,x1.Now,x1.Epoch,x1.Seq⟩,⟨x.Kind,x.Id,x.Beat,x.N,x.Text,⟨x.Node.Id,x.Node.Label,x.Node.Rack,⟨x.Node.Cap.Mem,x.Node.Cap.Cores⟩,x.Node.Seen,x.Node.Beat,x.Node.Up⟩,⟨x.App.Id,x.App.State,x.App.Queue,x.App.User,x.App.Prio,⟨x.App.Master.Mem,x.App.Master.Cores⟩,x.App.Asks,x.App.Seen,x.App.Beat,x.App.Grants,x.App.Kills,x.App.Told,x.App.Lost⟩,x.Asks,x.Ids,⟨x.Plan.Id,x.Plan.Label,x.Plan.From,x.Plan.Until,⟨x.Plan.Need.Mem,x.Plan.Need.Cores⟩⟩⟩⟩:Step)).bind λx2=>
 bif x2.1.Err != 0 then
 (bY s []).bind λx3=>
 some (x3,x2.1)
 else
 (bY x2.2.s []).bind λx4=>
 some (x4,x2.1)
theorem tg(s:State)(x:Input):Lo (jD s x) (jc s x):=by
 unfold jD jc
 repeat' (first | (with_reducible first | exact gy _ _ | exact xp _ | apply af | apply ah | refine ai ?_ _ | exact ag _) | (intro _) | exact ae | (dsimp only))
def fy(t:State×Int):Option ((State×Int) ⊕ (Bool ⊕ State)):=
 bif decide (t.2<([(⟨2,0,0,0,[],⟨1,0,0,⟨1,1⟩,0,0,false⟩,⟨0,0,[],0,0,⟨0,0⟩,[],0,0,[],[],[],[]⟩,[],[],⟨0,0,0,0,⟨0,0⟩⟩⟩:Input),(⟨4,0,0,0,[],⟨0,0,0,⟨0,0⟩,0,0,false⟩,⟨2,0,([114,111,111,116]:List UInt8),0,0,⟨1,1⟩,[],0,0,[],[],[],[]⟩,[],[],⟨0,0,0,0,⟨0,0⟩⟩⟩:Input),(⟨3,1,1,0,[],⟨0,0,0,⟨0,0⟩,0,0,false⟩,⟨0,0,[],0,0,⟨0,0⟩,[],0,0,[],[],[],[]⟩,[],[],⟨0,0,0,0,⟨0,0⟩⟩⟩:Input)].length:Int))then
 (inb t.2 [(⟨2,0,0,0,[],⟨1,0,0,⟨1,1⟩,0,0,false⟩,⟨0,0,[],0,0,⟨0,0⟩,[],0,0,[],[],[],[]⟩,[],[],⟨0,0,0,0,⟨0,0⟩⟩⟩:Input),(⟨4,0,0,0,[],⟨0,0,0,⟨0,0⟩,0,0,false⟩,⟨2,0,([114,111,111,116]:List UInt8),0,0,⟨1,1⟩,[],0,0,[],[],[],[]⟩,[],[],⟨0,0,0,0,⟨0,0⟩⟩⟩:Input),(⟨3,1,1,0,[],⟨0,0,0,⟨0,0⟩,0,0,false⟩,⟨0,0,[],0,0,⟨0,0⟩,[],0,0,[],[],[],[]⟩,[],[],⟨0,0,0,0,⟨0,0⟩⟩⟩:Input)].length).bind λi=>
 ([(⟨2,0,0,0,[],⟨1,0,0,⟨1,1⟩,0,0,false⟩,⟨0,0,[],0,0,⟨0,0⟩,[],0,0,[],[],[],[]⟩,[],[],⟨0,0,0,0,⟨0,0⟩⟩⟩:Input),(⟨4,0,0,0,[],⟨0,0,0,⟨0,0⟩,0,0,false⟩,⟨2,0,([114,111,111,116]:List UInt8),0,0,⟨1,1⟩,[],0,0,[],[],[],[]⟩,[],[],⟨0,0,0,0,⟨0,0⟩⟩⟩:Input),(⟨3,1,1,0,[],⟨0,0,0,⟨0,0⟩,0,0,false⟩,⟨0,0,[],0,0,⟨0,0⟩,[],0,0,[],[],[],[]⟩,[],[],⟨0,0,0,0,⟨0,0⟩⟩⟩:Input)][i]?).bind λx1=>
 (jD t.1 x1).bind λx2=>
 bif x2.2.Err != 0 then
  some (.inr (.inl false))
 else
  some (.inl (x2.1,w64 (t.2+1)))
 else
 some (.inr (.inr (t.1)))
theorem sA(t:State×Int):Lo (fy t) (hZ t):=by
 unfold fy hZ
 repeat' (first | (with_reducible first | exact tg _ _ | apply af | apply ah | refine ai ?_ _ | exact ag _) | (intro _) | exact ae | (dsimp only))
def iD:Option Bool:=
 (kn).bind λx=>
 (itr 4096 fy (x,0)).bind λq0=>
 match q0 with
 | .inl q=>
 some q
 | .inr s=>
 bif(s.Conts.length:Int) == 1 then
  (inb 0 s.Conts.length).bind λi1=>
  (s.Conts[i1]?).bind λx3=>
  bif x3.Master then
  (iT s).bind λx4=>
  some x4
  else
  some false
 else
  some false
theorem uH:Lo (iD) (fR):=by
 unfold iD fR
 repeat' (first | (with_reducible first | exact sA _ | exact sq _ | apply aC | apply aA | apply az | apply af | apply ah | refine ai ?_ _ | exact ag _) | (intro _) | exact ae | (dsimp only))
def gT(l:List Input)(t:State×State×Int):Option ((State×State×Int) ⊕ ((State×Bool) ⊕ (State×State))):=
 bif decide (t.2.2<(l.length:Int))then
 (idx l t.2.2).bind λx=>
 (jD t.1 x).bind λx1=>
 bif x1.2.Err != 0 then
  some (.inr (.inl (t.1,false)))
 else
  some (.inl (x1.1,t.2.1,w64 (t.2.2+1)))
 else
 some (.inr (.inr (t.1,t.2.1)))
theorem ub(l:List Input)(t:State×State×Int):Lo (gT l t) (i_ l t):=by
 unfold gT i_
 repeat' (first | (with_reducible first | exact tg _ _ | apply af | apply ah | refine ai ?_ _ | exact ag _) | (intro _) | exact ae | (dsimp only))
def cH(s:State)(l:List Input):Option (State×Bool):=
 (itr 4096 (gT l) (s,(⟨⟨[],[]⟩,[],[],[],[],[],0,0,0⟩:State),0)).bind λq0=>
 match q0 with
 | .inl q=>
 some (q.1,q.2)
 | .inr q1=>
 some (q1.1,true)
theorem jt(s:State)(l:List Input):Lo (cH s l) (cy s l):=by
 unfold cH cy
 repeat' (first | (with_reducible first | exact ub _ _ | apply aC | apply aA | apply az | apply af | apply ah | refine ai ?_ _ | exact ag _) | (intro _) | exact ae | (dsimp only))
def gN(s:State)(id_:Int):Option (App×Bool):=
 (itr 4096 (lF s id_) ((⟨0,0,[],0,0,⟨0,0⟩,[],0,0,[],[],[],[]⟩:App),0)).bind λq0=>
 match q0 with
 | .inl q=>
 some (q.1,q.2)
 | .inr q1=>
 some ((⟨0,0,[],0,0,⟨0,0⟩,[],0,0,[],[],[],[]⟩:App),false)
theorem uk(s:State)(id_:Int):Lo (gN s id_) (fj s id_):=by
 unfold gN fj
 repeat' (first | (with_reducible first | apply aC | apply aA | apply az | apply af | apply ah | refine ai ?_ _ | exact ag _) | (intro _) | exact ae | (dsimp only))
def gM(path:List UInt8):Option (List UInt8):=
 let k:=w64 ((path.length:Int) - 1)
 (itr 4096 (lE path) k).bind λk2=>
 bif decide (k2<0)then
 some ([]:List UInt8)
 else
 (slc path 0 k2).bind λs=>
 some s
theorem ui(path:List UInt8):Lo (gM path) (fu path):=by
 unfold gM fu
 repeat' (first | (with_reducible first | apply af | apply ah | refine ai ?_ _ | exact ag _) | (intro _) | exact ae | (dsimp only))
def hF(t:List UInt8×List (List UInt8)):Option ((List UInt8×List (List UInt8)) ⊕ List (List UInt8)):=
 bif ! (t.1 == ([]:List UInt8))then
 (app 16 t.2 [t.1]).bind λl=>
 (gM t.1).bind λpath1=>
 some (.inl (path1,l))
 else
 some (.inr t.2)
theorem ud(t:List UInt8×List (List UInt8)):Lo (hF t) (jv t):=by
 unfold hF jv
 repeat' (first | (with_reducible first | exact ui _ | apply af | apply ah | refine ai ?_ _ | exact ag _) | (intro _) | exact ae | (dsimp only))
def ka(path:List UInt8):Option (List (List UInt8)):=
 (itr 4096 hF (path,[])).bind λl1=>
 some l1
theorem wl(path:List UInt8):Lo (ka path) (iO path):=by
 unfold ka iO
 repeat' (first | (with_reducible first | exact ud _ | apply af | apply ah | refine ai ?_ _ | exact ag _) | (intro _) | exact ae | (dsimp only))
def fV(leaf:List UInt8)(path:List UInt8):Option Bool:=
 (ka leaf).bind λup=>
 (itr 4096 (kt path up) 0).bind λq0=>
 match q0 with
 | .inl q=>
 some q
 | .inr _=>
 some false
theorem tx(leaf:List UInt8)(path:List UInt8):Lo (fV leaf path) (eE leaf path):=by
 unfold fV eE
 repeat' (first | (with_reducible first | exact wl _ | apply aC | apply aA | apply az | apply af | apply ah | refine ai ?_ _ | exact ag _) | (intro _) | exact ae | (dsimp only))
def eL(s:State)(path:List UInt8)(label:Int)(all:Bool)(user:Int)(t:Vec×Int):Option ((Vec×Int) ⊕ Vec):=
 bif decide (t.2<(s.Conts.length:Int))then
 (
  (idx s.Conts t.2).bind λx=>
  (gN s x.App).bind λx1=>
  (
  bif x1.2 then
   (idx s.Conts t.2).bind λx2=>
   bif x2.Label == label then
   (fV x1.1.Queue path).bind λx3=>
   bif x3 then
    bif all then
    some true
    else
    some (x1.1.User == user)
   else
    some false
   else
   some false
  else
   some false).bind λq=>
  bif q then
  (idx s.Conts t.2).bind λx4=>
  (jU t.1 x4.Size).bind λx5=>
  some x5
  else
  some t.1).bind λv=>
 some (.inl (v,w64 (t.2+1)))
 else
 some (.inr t.1)
theorem sr(s:State)(path:List UInt8)(label:Int)(all:Bool)(user:Int)(t:Vec×Int):Lo (eL s path label all user t) (gp s path label all user t):=by
 unfold eL gp
 repeat' (first | (with_reducible first | exact uk _ _ | exact tx _ _ | apply af | apply ah | refine ai ?_ _ | exact ag _) | (intro _) | exact ae | (dsimp only))
def gZ(s:State)(path:List UInt8)(label:Int)(all:Bool)(user:Int):Option Vec:=
 (itr 4096 (eL s path label all user) ((⟨0,0⟩:Vec),0)).bind λv1=>
 some v1
theorem tY(s:State)(path:List UInt8)(label:Int)(all:Bool)(user:Int):Lo (gZ s path label all user) (fg s path label all user):=by
 unfold gZ fg
 repeat' (first | (with_reducible first | exact sr _ _ _ _ _ _ | apply af | apply ah | refine ai ?_ _ | exact ag _) | (intro _) | exact ae | (dsimp only))
def cB(s:State)(path:List UInt8)(label:Int):Option Vec:=
 (gZ s path label true 0).bind λx=>
 some x
theorem ut(s:State)(path:List UInt8)(label:Int):Lo (cB s path label) (ce s path label):=by
 unfold cB ce
 repeat' (first | (with_reducible first | exact tY _ _ _ _ _ | apply af | apply ah | refine ai ?_ _ | exact ag _) | (intro _) | exact ae | (dsimp only))
def cN(q1:State×Int)(t1:State×Bool×Int):Option ((State×Bool×Int) ⊕ ((State×Bool))):=
 (
 bif decide (t1.2.2<11)then
  some t1.2.1
 else
  some false).bind λq2=>
 bif q2 then
 (cH t1.1 [(⟨8,0,0,1,[],⟨0,0,0,⟨0,0⟩,0,0,false⟩,⟨0,0,[],0,0,⟨0,0⟩,[],0,0,[],[],[],[]⟩,[],[],⟨0,0,0,0,⟨0,0⟩⟩⟩:Input),(⟨5,1,w64 (2+t1.2.2),0,[],⟨0,0,0,⟨0,0⟩,0,0,false⟩,⟨0,0,[],0,0,⟨0,0⟩,[],0,0,[],[],[],[]⟩,[],[],⟨0,0,0,0,⟨0,0⟩⟩⟩:Input),(⟨5,2,w64 (2+t1.2.2),0,[],⟨0,0,0,⟨0,0⟩,0,0,false⟩,⟨0,0,[],0,0,⟨0,0⟩,[],0,0,[],[],[],[]⟩,[],[],⟨0,0,0,0,⟨0,0⟩⟩⟩:Input),(⟨3,1,w64 (q1.2+t1.2.2),0,[],⟨0,0,0,⟨0,0⟩,0,0,false⟩,⟨0,0,[],0,0,⟨0,0⟩,[],0,0,[],[],[],[]⟩,[],[],⟨0,0,0,0,⟨0,0⟩⟩⟩:Input)]).bind λx13=>
 some (.inl (x13.1,x13.2,w64 (t1.2.2+1)))
 else
 some (.inr (t1.1,t1.2.1))
theorem mH(q1:State×Int)(t1:State×Bool×Int):Lo (cN q1 t1) (di q1 t1):=by
 unfold cN di
 repeat' (first | (with_reducible first | exact jt _ _ | apply af | apply ah | refine ai ?_ _ | exact ag _) | (intro _) | exact ae | (dsimp only))
def cM(t:State×Int):Option ((State×Int) ⊕ ((State×Int))):=
 bif decide (t.2<12)then
 (cH t.1 [(⟨3,1,t.2,0,[],⟨0,0,0,⟨0,0⟩,0,0,false⟩,⟨0,0,[],0,0,⟨0,0⟩,[],0,0,[],[],[],[]⟩,[],[],⟨0,0,0,0,⟨0,0⟩⟩⟩:Input)]).bind λx9=>
 some (.inl (x9.1,w64 (t.2+1)))
 else
 some (.inr (t.1,t.2))
theorem mE(t:State×Int):Lo (cM t) (db t):=by
 unfold cM db
 repeat' (first | (with_reducible first | exact jt _ _ | apply af | apply ah | refine ai ?_ _ | exact ag _) | (intro _) | exact ae | (dsimp only))
def aj(units:Int)(wanted:Int)(first:Bool):Option Bool:=
 (iD).bind λx=>
 bif ! x then
 some false
 else
 (av units 8).bind λx1=>
 let units1:=w64 (2*(w64 (3+x1)))
 (av wanted (w64 ((w64 (Int.tdiv units1 2)) - 1))).bind λx2=>
 (
  bif first then
  some (([114,111,111,116,46,98]:List UInt8),([114,111,111,116,46,97]:List UInt8))
  else
  some (([114,111,111,116,46,97]:List UInt8),([114,111,111,116,46,98]:List UInt8))).bind λq=>
 (kn).bind λx3=>
 (ja 5000).bind λx4=>
 (cT).bind λx5=>
 (cT).bind λx6=>
 (dI 40).bind λx7=>
 (cH x3 [(⟨1,0,0,0,x4,⟨0,0,0,⟨0,0⟩,0,0,false⟩,⟨0,0,[],0,0,⟨0,0⟩,[],0,0,[],[],[],[]⟩,[],[],⟨0,0,0,0,⟨0,0⟩⟩⟩:Input),(⟨2,0,0,0,[],⟨1,0,0,⟨units1,units1⟩,0,0,false⟩,⟨0,0,[],0,0,⟨0,0⟩,[],0,0,[],[],[],[]⟩,[],[],⟨0,0,0,0,⟨0,0⟩⟩⟩:Input),(⟨4,0,0,0,[],⟨0,0,0,⟨0,0⟩,0,0,false⟩,⟨1,0,q.1,0,0,⟨x5.Mem,x5.Cores⟩,[],0,0,[],[],[],[]⟩,[],[],⟨0,0,0,0,⟨0,0⟩⟩⟩:Input),(⟨4,0,0,0,[],⟨0,0,0,⟨0,0⟩,0,0,false⟩,⟨2,0,q.2,0,0,⟨x6.Mem,x6.Cores⟩,[],0,0,[],[],[],[]⟩,[],[],⟨0,0,0,0,⟨0,0⟩⟩⟩:Input),(⟨3,1,1,0,[],⟨0,0,0,⟨0,0⟩,0,0,false⟩,⟨0,0,[],0,0,⟨0,0⟩,[],0,0,[],[],[],[]⟩,[],[],⟨0,0,0,0,⟨0,0⟩⟩⟩:Input),(⟨5,1,1,0,[],⟨0,0,0,⟨0,0⟩,0,0,false⟩,⟨0,0,[],0,0,⟨0,0⟩,[],0,0,[],[],[],[]⟩,x7,[],⟨0,0,0,0,⟨0,0⟩⟩⟩:Input)]).bind λx8=>
 bif ! x8.2 then
  some false
 else
  (itr 4096 cM (x8.1,2)).bind λq1=>
  (cB q1.1 q.1 0).bind λx10=>
  bif x10.Mem != (w64 (units1 - 1))then
  some false
  else
  (dI (w64 (1+x2))).bind λx11=>
  (cH q1.1 [(⟨5,2,1,0,[],⟨0,0,0,⟨0,0⟩,0,0,false⟩,⟨0,0,[],0,0,⟨0,0⟩,[],0,0,[],[],[],[]⟩,x11,[],⟨0,0,0,0,⟨0,0⟩⟩⟩:Input)]).bind λx12=>
  (itr 4096 (cN q1) (x12.1,x12.2,0)).bind λq3=>
  bif q3.2 then
   (cB q3.1 q.2 0).bind λx14=>
   bif x14.Mem == (w64 (1+(w64 (1+x2))))then
   (cB q3.1 q.1 0).bind λx15=>
   bif x15.Mem == (w64 ((w64 (units1 - 1)) - (w64 (1+x2))))then
    (iT q3.1).bind λx16=>
    some x16
   else
    some false
   else
   some false
  else
   some false
theorem aH(units:Int)(wanted:Int)(first:Bool):Lo (aj units wanted first) (ak units wanted first):=by
 unfold aj ak
 repeat' (first | (with_reducible first | exact uH  | exact jt _ _ | exact mE _ | exact ut _ _ _ | exact mH _ _ | exact sq _ | apply af | apply ah | refine ai ?_ _ | exact ag _) | (intro _) | exact ae | (dsimp only))
end Go.Fx.D
