/-
  The same functions with a bound on the rounds of their loops;that they give what the others give (printed by a program). Conditions: none.
-/
import Derived.Test.YtkagmokhbmbjdaaGreatDoorD
import Derived.Test.YtkagmokhbmbjdaaGreatDoorFxD
namespace Go.Fx.D
open Go Go.Fx
set_option linter.unusedVariables false
set_option linter.unusedSimpArgs false
set_option maxRecDepth 100000
def pY(l:List (List UInt8)):Option Int:=
 (itr 4096 (uc l) ([],0)).bind λq0=>
 match q0 with
 | .inl q1=>
 some q1
 | .inr was=>
 bif decide ((was.length:Int)<(l.length:Int))then
  some 7
 else
  some 0
theorem Br(l:List (List UInt8)):Lo (pY l) (oD l):=by
 unfold pY oD
 repeat' (first | (with_reducible first | apply az | apply aC | apply aA | apply ag | apply ai | refine aj ?_ _ | exact ah _) | (intro _) | exact af | (dsimp only))
def cO(s:List UInt8)(c:Int):Option Int:=
 let i:=w64 ((s.length:Int) - 1)
 (itr 4096 (ff s c) i).bind λq0=>
 match q0 with
 | .inl q=>
 some q
 | .inr _=>
 some (-1)
theorem mv(s:List UInt8)(c:Int):Lo (cO s c) (bR s c):=by
 unfold cO bR
 repeat' (first | (with_reducible first | apply az | apply aC | apply aA | apply ag | apply ai | refine aj ?_ _ | exact ah _) | (intro _) | exact af | (dsimp only))
def iv(s:List UInt8)(substr:List UInt8):Option Int:=
 bif(substr.length:Int) == 0 then
 some (s.length:Int)
 else
 bif(substr.length:Int) == 1 then
  (idx substr 0).bind λch=>
  (cO s (ch.toNat:Int)).bind λx=>
  some x
 else
  bif(substr.length:Int) == (s.length:Int)then
  bif substr == s then
   some 0
  else
   some (-1)
  else
  bif decide ((substr.length:Int)>(s.length:Int))then
   some (-1)
  else
   none
theorem u3(s:List UInt8)(substr:List UInt8):Lo (iv s substr) (fN s substr):=by
 unfold iv fN
 repeat' (first | (with_reducible first | exact mv _ _ | apply ag | apply ai | refine aj ?_ _ | exact ah _) | (intro _) | exact af | (dsimp only))
def ja(path:List UInt8):Option (List UInt8×Bool):=
 (iv path ([46]:List UInt8)).bind λi=>
 bif decide (i<0)then
 some (([]:List UInt8),false)
 else
 (slc path 0 i).bind λs=>
 some (s,true)
theorem pZ(path:List UInt8):Lo (ja path) (jO path):=by
 unfold ja jO
 repeat' (first | (with_reducible first | exact u3 _ _ | apply ag | apply ai | refine aj ?_ _ | exact ah _) | (intro _) | exact af | (dsimp only))
def jf(s:List UInt8)(sep:List UInt8)(sepSave:Int)(n:Int):Option (List (List UInt8)):=
 bif n == 0 then
 some []
 else
 bif sep == ([]:List UInt8)then
  none
 else
  (
  bif decide (n<0)then
   (pO s sep).bind λx=>
   some (w64 (x+1))
  else
   some n).bind λn1=>
  let n2:=imin n1 (w64 ((s.length:Int)+1))
  (mkl 16 n2 n2 []).bind λl=>
  (itr 4096 (nk sep sepSave n2) (s,l,0)).bind λq=>
  (inb q.2.2 q.2.1.length).bind λi1=>
  (q.2.1[i1]?).bind λx2=>
  (inS 0 (w64 (q.2.2+1)) (List.set q.2.1 i1 q.1).length).bind λp=>
  some (List.take p.2 (List.set q.2.1 i1 q.1))
theorem vX(s:List UInt8)(sep:List UInt8)(sepSave:Int)(n:Int):Lo (jf s sep sepSave n) (gT s sep sepSave n):=by
 unfold jf gT
 repeat' (first | (with_reducible first | apply ag | apply ai | refine aj ?_ _ | exact ah _) | (intro _) | exact af | (dsimp only))
def eZ(s:List UInt8)(sep:List UInt8):Option (List (List UInt8)):=
 (jf s sep 0 (-1)).bind λx=>
 some x
theorem k_(s:List UInt8)(sep:List UInt8):Lo (eZ s sep) (eT s sep):=by
 unfold eZ eT
 repeat' (first | (with_reducible first | exact vX _ _ _ _ | apply ag | apply ai | refine aj ?_ _ | exact ah _) | (intro _) | exact af | (dsimp only))
def bn(s:List (List UInt8))(f:(TupT fam [.str]→Option Bool))(t:Int):Option (Int ⊕ (Int ⊕ Unit)):=
 bif decide (t<(s.length:Int))then
 (idx s t).bind λx=>
 (f (x,())).bind λr=>
 bif r then
  some (.inr (.inl t))
 else
  some (.inl (w64 (t+1)))
 else
 some (.inr (.inr ()))
theorem ii(s:List (List UInt8))(f f_':(TupT fam [.str]→Option Bool))(h_f:∀a,Lo (f a) (f_' a))(t:Int):Lo (bn s f t) (bK s f_' t):=by
 unfold bn bK
 repeat' (first | (with_reducible first | exact h_f _ | apply ag | apply ai | refine aj ?_ _ | exact ah _) | (intro _) | exact af | (dsimp only))
def aX(s:List (List UInt8))(f:(TupT fam [.str]→Option Bool)):Option Int:=
 (itr 4096 (bn s f) 0).bind λq0=>
 match q0 with
 | .inl q=>
 some q
 | .inr _=>
 some (-1)
theorem da(s:List (List UInt8))(f f_':(TupT fam [.str]→Option Bool))(h_f:∀a,Lo (f a) (f_' a)):Lo (aX s f) (aQ s f_'):=by
 unfold aX aQ
 repeat' (first | (with_reducible first | refine ii _ _ _ ?_ _ | exact h_f _ | apply az | apply aC | apply aA | apply ag | apply ai | refine aj ?_ _ | exact ah _) | (intro _) | exact af | (dsimp only))
def bo(s:List (List UInt8))(f:(TupT fam [.str]→Option Bool)):Option Bool:=
 (aX s f).bind λx=>
 some (decide (x≥0))
theorem ic(s:List (List UInt8))(f f_':(TupT fam [.str]→Option Bool))(h_f:∀a,Lo (f a) (f_' a)):Lo (bo s f) (aW s f_'):=by
 unfold bo aW
 repeat' (first | (with_reducible first | refine da _ _ _ ?_ | exact h_f _ | apply ag | apply ai | refine aj ?_ _ | exact ah _) | (intro _) | exact af | (dsimp only))
def pE(s:List UInt8):Option Bool:=
 (eZ s ([46]:List UInt8)).bind λl=>
 (inb 0 l.length).bind λi=>
 (l[i]?).bind λx=>
 bif x == ([114,111,111,116]:List UInt8)then
 bif decide ((l.length:Int)≤4)then
  (bo l (λa'=>pB a'.1)).bind λx1=>
  some (! x1)
 else
  some false
 else
 some false
theorem Bl(s:List UInt8):Lo (pE s) (oT s):=by
 unfold pE oT
 repeat' (first | (with_reducible first | exact k_ _ _ | refine ic _ _ _ ?_ | apply ag | apply ai | refine aj ?_ _ | exact ah _) | (intro _) | exact af | (dsimp only))
def qh(s:List Cap)(f:(TupT fam [.st 1]→Option Bool))(t:Int):Option (Int ⊕ (Int ⊕ Unit)):=
 bif decide (t<(s.length:Int))then
 (idx s t).bind λx=>
 (f (x,())).bind λr=>
 bif r then
  some (.inr (.inl t))
 else
  some (.inl (w64 (t+1)))
 else
 some (.inr (.inr ()))
theorem BA(s:List Cap)(f f_':(TupT fam [.st 1]→Option Bool))(h_f:∀a,Lo (f a) (f_' a))(t:Int):Lo (qh s f t) (tD s f_' t):=by
 unfold qh tD
 repeat' (first | (with_reducible first | exact h_f _ | apply ag | apply ai | refine aj ?_ _ | exact ah _) | (intro _) | exact af | (dsimp only))
def uL(s:List Cap)(f:(TupT fam [.st 1]→Option Bool)):Option Int:=
 (itr 4096 (qh s f) 0).bind λq0=>
 match q0 with
 | .inl q=>
 some q
 | .inr _=>
 some (-1)
theorem EB(s:List Cap)(f f_':(TupT fam [.st 1]→Option Bool))(h_f:∀a,Lo (f a) (f_' a)):Lo (uL s f) (vl s f_'):=by
 unfold uL vl
 repeat' (first | (with_reducible first | refine BA _ _ _ ?_ _ | exact h_f _ | apply az | apply aC | apply aA | apply ag | apply ai | refine aj ?_ _ | exact ah _) | (intro _) | exact af | (dsimp only))
def nZ(s:List Cap)(f:(TupT fam [.st 1]→Option Bool)):Option Bool:=
 (uL s f).bind λx=>
 some (decide (x≥0))
theorem Af(s:List Cap)(f f_':(TupT fam [.st 1]→Option Bool))(h_f:∀a,Lo (f a) (f_' a)):Lo (nZ s f) (ml s f_'):=by
 unfold nZ ml
 repeat' (first | (with_reducible first | refine EB _ _ _ ?_ | exact h_f _ | apply ag | apply ai | refine aj ?_ _ | exact ah _) | (intro _) | exact af | (dsimp only))
def tK(l:List Cap):Option Bool:=
 (nZ l (λa'=>tw a'.1)).bind λx=>
 some (! x)
theorem Dd(l:List Cap):Lo (tK l) (sL l):=by
 unfold tK sL
 repeat' (first | (with_reducible first | refine Af _ _ _ ?_ | apply ag | apply ai | refine aj ?_ _ | exact ah _) | (intro _) | exact af | (dsimp only))
def kM(c:Conf)(t:List Ent0_ListUInt8Int×List UInt8×Int):Option ((List Ent0_ListUInt8Int×List UInt8×Int) ⊕ (Int ⊕ Unit)):=
 bif decide (t.2.2<(c.Queues.length:Int))then
 (idx c.Queues t.2.2).bind λx=>
 (ja x.Path).bind λx1=>
 (pE x.Path).bind λx2=>
 bif ! x2 then
  some (.inr (.inl 12))
 else
  (
  bif decide (t.2.2>0)then
   some (strLe x.Path t.2.1)
  else
   some false).bind λq=>
  bif q then
  some (.inr (.inl 7))
  else
  (
   bif x1.2 then
   let e:=mget (λx3=>x1.1 == x3.k) t.1 (⟨x1.1,0⟩:Ent0_ListUInt8Int)
   some (e.v == 0)
   else
   some false).bind λq1=>
  bif q1 then
   some (.inr (.inl 12))
  else
   (
   bif decide (x.User<1)then
    some true
   else
    bif decide (x.User>1000000)then
    some true
    else
    bif(x.Caps.length:Int) != (c.Labels.length:Int)then
     some true
    else
     (tK x.Caps).bind λx4=>
     some (! x4)).bind λq2=>
   bif q2 then
   some (.inr (.inl 1))
   else
   let e1:=mget (λx5=>x.Path == x5.k) t.1 (⟨x.Path,0⟩:Ent0_ListUInt8Int)
   some (.inl (mput (λx6=>x.Path == x6.k) t.1 (⟨x.Path,w64 (e1.v+1)⟩:Ent0_ListUInt8Int),x.Path,w64 (t.2.2+1)))
 else
 some (.inr (.inr ()))
theorem yy(c:Conf)(t:List Ent0_ListUInt8Int×List UInt8×Int):Lo (kM c t) (nN c t):=by
 unfold kM nN
 repeat' (first | (with_reducible first | exact pZ _ | exact Bl _ | exact Dd _ | apply ag | apply ai | refine aj ?_ _ | exact ah _) | (intro _) | exact af | (dsimp only))
def pJ(c:Conf):Option Int:=
 (itr 4096 (kM c) ([],([]:List UInt8),0)).bind λq0=>
 match q0 with
 | .inl q3=>
 some q3
 | .inr _=>
 some 0
theorem Bm(c:Conf):Lo (pJ c) (oA c):=by
 unfold pJ oA
 repeat' (first | (with_reducible first | exact yy _ _ | apply az | apply aC | apply aA | apply ag | apply ai | refine aj ?_ _ | exact ah _) | (intro _) | exact af | (dsimp only))
def nO(c:Conf)(path:List UInt8)(t:List (List UInt8)×Int):Option ((List (List UInt8)×Int) ⊕ List (List UInt8)):=
 bif decide (t.2<(c.Queues.length:Int))then
 (
  (idx c.Queues t.2).bind λx=>
  (ja x.Path).bind λx1=>
  (
  bif x1.2 then
   some (x1.1 == path)
  else
   some false).bind λq=>
  bif q then
  (app 16 t.1 [x.Path]).bind λl=>
  some l
  else
  some t.1).bind λout=>
 some (.inl (out,w64 (t.2+1)))
 else
 some (.inr t.1)
theorem AU(c:Conf)(path:List UInt8)(t:List (List UInt8)×Int):Lo (nO c path t) (rf c path t):=by
 unfold nO rf
 repeat' (first | (with_reducible first | exact pZ _ | apply ag | apply ai | refine aj ?_ _ | exact ah _) | (intro _) | exact af | (dsimp only))
def ip(c:Conf)(path:List UInt8):Option (List (List UInt8)):=
 (itr 4096 (nO c path) ([],0)).bind λout1=>
 some out1
theorem lZ(c:Conf)(path:List UInt8):Lo (ip c path) (jp c path):=by
 unfold ip jp
 repeat' (first | (with_reducible first | exact AU _ _ _ | apply ag | apply ai | refine aj ?_ _ | exact ah _) | (intro _) | exact af | (dsimp only))
def mD(s:List Queue)(f:(TupT fam [.st 2]→Option Bool))(t:Int):Option (Int ⊕ (Int ⊕ Unit)):=
 bif decide (t<(s.length:Int))then
 (idx s t).bind λx=>
 (f (x,())).bind λr=>
 bif r then
  some (.inr (.inl t))
 else
  some (.inl (w64 (t+1)))
 else
 some (.inr (.inr ()))
theorem zD(s:List Queue)(f f_':(TupT fam [.st 2]→Option Bool))(h_f:∀a,Lo (f a) (f_' a))(t:Int):Lo (mD s f t) (p7 s f_' t):=by
 unfold mD p7
 repeat' (first | (with_reducible first | exact h_f _ | apply ag | apply ai | refine aj ?_ _ | exact ah _) | (intro _) | exact af | (dsimp only))
def ru(s:List Queue)(f:(TupT fam [.st 2]→Option Bool)):Option Int:=
 (itr 4096 (mD s f) 0).bind λq0=>
 match q0 with
 | .inl q=>
 some q
 | .inr _=>
 some (-1)
theorem CJ(s:List Queue)(f f_':(TupT fam [.st 2]→Option Bool))(h_f:∀a,Lo (f a) (f_' a)):Lo (ru s f) (qV s f_'):=by
 unfold ru qV
 repeat' (first | (with_reducible first | refine zD _ _ _ ?_ _ | exact h_f _ | apply az | apply aC | apply aA | apply ag | apply ai | refine aj ?_ _ | exact ah _) | (intro _) | exact af | (dsimp only))
def fJ(c:Conf)(path:List UInt8):Option (Queue×Bool):=
 (ru c.Queues (λa'=>tB a'.1 path)).bind λi=>
 bif decide (i<0)then
 some ((⟨[],[],0⟩:Queue),false)
 else
 (idx c.Queues i).bind λx=>
 (gh x.Caps).bind λx1=>
 some ((⟨x.Path,x1,x.User⟩:Queue),true)
theorem js(c:Conf)(path:List UInt8):Lo (fJ c path) (gG c path):=by
 unfold fJ gG
 repeat' (first | (with_reducible first | refine CJ _ _ _ ?_ | apply ag | apply ai | refine aj ?_ _ | exact ah _) | (intro _) | exact af | (dsimp only))
def oq(c:Conf)(kids:List (List UInt8))(t2:Int)(t3:Int×Int):Option ((Int×Int) ⊕ Int):=
 bif decide (t3.2<(kids.length:Int))then
 (inb t3.2 kids.length).bind λi=>
 (kids[i]?).bind λx3=>
 (fJ c x3).bind λx4=>
 (inb t2 x4.1.Caps.length).bind λi1=>
 (x4.1.Caps[i1]?).bind λx5=>
 let sum:=w64 (t3.1+x5.Least)
 some (.inl (sum,w64 (t3.2+1)))
 else
 some (.inr t3.1)
theorem AH(c:Conf)(kids:List (List UInt8))(t2:Int)(t3:Int×Int):Lo (oq c kids t2 t3) (rU c kids t2 t3):=by
 unfold oq rU
 repeat' (first | (with_reducible first | exact js _ _ | apply ag | apply ai | refine aj ?_ _ | exact ah _) | (intro _) | exact af | (dsimp only))
def nT(c:Conf)(kids:List (List UInt8))(t2:Int):Option (Int ⊕ (Int ⊕ Unit)):=
 bif decide (t2<(c.Labels.length:Int))then
 (itr 4096 (oq c kids t2) (0,0)).bind λsum1=>
 (
  bif decide ((kids.length:Int)>0)then
  some (sum1 != 10000)
  else
  some false).bind λq2=>
 bif q2 then
  some (.inr (.inl 13))
 else
  some (.inl (w64 (t2+1)))
 else
 some (.inr (.inr ()))
theorem AD(c:Conf)(kids:List (List UInt8))(t2:Int):Lo (nT c kids t2) (sg c kids t2):=by
 unfold nT sg
 repeat' (first | (with_reducible first | exact AH _ _ _ _ | apply ag | apply ai | refine aj ?_ _ | exact ah _) | (intro _) | exact af | (dsimp only))
def ou(c:Conf)(t1:Int):Option (Int ⊕ (Int ⊕ Unit)):=
 bif decide (t1<(c.Queues.length:Int))then
 (idx c.Queues t1).bind λx2=>
 (ip c x2.Path).bind λkids=>
 (itr 4096 (nT c kids) 0).bind λq0=>
 match q0 with
 | .inl q3=>
  some (.inr (.inl q3))
 | .inr _=>
  some (.inl (w64 (t1+1)))
 else
 some (.inr (.inr ()))
theorem z8(c:Conf)(t1:Int):Lo (ou c t1) (qZ c t1):=by
 unfold ou qZ
 repeat' (first | (with_reducible first | exact lZ _ _ | exact AD _ _ _ | apply az | apply aC | apply aA | apply ag | apply ai | refine aj ?_ _ | exact ah _) | (intro _) | exact af | (dsimp only))
def tN(c:Conf):Option Int:=
 (idx c.Queues 0).bind λx=>
 (itr 4096 (xK x) 0).bind λq0=>
 match q0 with
 | .inl q1=>
 some q1
 | .inr _=>
 (itr 4096 (ou c) 0).bind λq0=>
 match q0 with
 | .inl q4=>
  some q4
 | .inr _=>
  some 0
theorem DC(c:Conf):Lo (tN c) (tg c):=by
 unfold tN tg
 repeat' (first | (with_reducible first | exact z8 _ _ | apply az | apply aC | apply aA | apply ag | apply ai | refine aj ?_ _ | exact ah _) | (intro _) | exact af | (dsimp only))
def mu(c:Conf):Option Int:=
 (
 bif(c.Labels.length:Int) == 0 then
  some true
 else
  bif decide ((c.Labels.length:Int)>3)then
  some true
  else
  some (decide ((c.Queues.length:Int)>16))).bind λq=>
 bif q then
 some 4
 else
 (pY c.Labels).bind λe=>
 bif e != 0 then
  some e
 else
  (
  bif(c.Queues.length:Int) == 0 then
   some true
  else
   (idx c.Queues 0).bind λx=>
   some (! (x.Path == ([114,111,111,116]:List UInt8)))).bind λq1=>
  bif q1 then
  some 12
  else
  (pJ c).bind λe1=>
  bif e1 != 0 then
   some e1
  else
   (tN c).bind λx1=>
   some x1
theorem vu(c:Conf):Lo (mu c) (na c):=by
 unfold mu na
 repeat' (first | (with_reducible first | exact Br _ | exact Bm _ | exact DC _ | apply ag | apply ai | refine aj ?_ _ | exact ah _) | (intro _) | exact af | (dsimp only))
def pL(s:List Vec)(f:(TupT fam [.st 0]→Option Bool))(t:Int):Option (Int ⊕ (Int ⊕ Unit)):=
 bif decide (t<(s.length:Int))then
 (idx s t).bind λx=>
 (f (x,())).bind λr=>
 bif r then
  some (.inr (.inl t))
 else
  some (.inl (w64 (t+1)))
 else
 some (.inr (.inr ()))
theorem Bd(s:List Vec)(f f_':(TupT fam [.st 0]→Option Bool))(h_f:∀a,Lo (f a) (f_' a))(t:Int):Lo (pL s f t) (tJ s f_' t):=by
 unfold pL tJ
 repeat' (first | (with_reducible first | exact h_f _ | apply ag | apply ai | refine aj ?_ _ | exact ah _) | (intro _) | exact af | (dsimp only))
def vd(s:List Vec)(f:(TupT fam [.st 0]→Option Bool)):Option Int:=
 (itr 4096 (pL s f) 0).bind λq0=>
 match q0 with
 | .inl q=>
 some q
 | .inr _=>
 some (-1)
theorem Ec(s:List Vec)(f f_':(TupT fam [.st 0]→Option Bool))(h_f:∀a,Lo (f a) (f_' a)):Lo (vd s f) (vq s f_'):=by
 unfold vd vq
 repeat' (first | (with_reducible first | refine Bd _ _ _ ?_ _ | exact h_f _ | apply az | apply aC | apply aA | apply ag | apply ai | refine aj ?_ _ | exact ah _) | (intro _) | exact af | (dsimp only))
def qk(s:List Vec)(f:(TupT fam [.st 0]→Option Bool)):Option Bool:=
 (vd s f).bind λx=>
 some (decide (x≥0))
theorem BE(s:List Vec)(f f_':(TupT fam [.st 0]→Option Bool))(h_f:∀a,Lo (f a) (f_' a)):Lo (qk s f) (oL s f_'):=by
 unfold qk oL
 repeat' (first | (with_reducible first | refine Ec _ _ _ ?_ | exact h_f _ | apply ag | apply ai | refine aj ?_ _ | exact ah _) | (intro _) | exact af | (dsimp only))
def eR(k:Look)(t3:List Vec×Int):Option ((List Vec×Int) ⊕ List Vec):=
 bif decide (t3.2<(k.s.Apps.length:Int))then
 (idx k.s.Apps t3.2).bind λx3=>
 (app 16 t3.1 [x3.Master]).bind λl6=>
 (itr 4096 (ll x3) (l6,0)).bind λl8=>
 some (.inl (l8,w64 (t3.2+1)))
 else
 some (.inr t3.1)
theorem so(k:Look)(t3:List Vec×Int):Lo (eR k t3) (gA k t3):=by
 unfold eR gA
 repeat' (first | (with_reducible first | apply ag | apply ai | refine aj ?_ _ | exact ah _) | (intro _) | exact af | (dsimp only))
def gR(k:Look):Option Bool:=
 (itr 4096 (lm k) ([],0)).bind λl1=>
 (itr 4096 (lC k) (l1,0)).bind λl3=>
 (itr 4096 (lz k) (l3,0)).bind λl5=>
 (itr 4096 (eR k) (l5,0)).bind λl9=>
 (qk l9 (λa'=>gN a'.1)).bind λx5=>
 some (! x5)
theorem tT(k:Look):Lo (gR k) (e_ k):=by
 unfold gR e_
 repeat' (first | (with_reducible first | exact so _ _ | refine BE _ _ _ ?_ | apply ag | apply ai | refine aj ?_ _ | exact ah _) | (intro _) | exact af | (dsimp only))
def jz(n:Int)(id_:(TupT fam [.int .i64]→Option Int))(i:Int):Option (Int ⊕ (Bool ⊕ Unit)):=
 bif decide (i<n)then
 (id_ (w64 (i - 1),())).bind λr=>
 (id_ (i,())).bind λr1=>
 bif decide (r≥r1)then
  some (.inr (.inl false))
 else
  some (.inl (w64 (i+1)))
 else
 some (.inr (.inr ()))
theorem vZ(n:Int)(id_ id__':(TupT fam [.int .i64]→Option Int))(h_id_:∀a,Lo (id_ a) (id__' a))(i:Int):Lo (jz n id_ i) (lh n id__' i):=by
 unfold jz lh
 repeat' (first | (with_reducible first | exact h_id_ _ | apply ag | apply ai | refine aj ?_ _ | exact ah _) | (intro _) | exact af | (dsimp only))
def cm(n:Int)(most:Int)(id_:(TupT fam [.int .i64]→Option Int)):Option Bool:=
 (itr 4096 (jz n id_) 1).bind λq0=>
 match q0 with
 | .inl q=>
 some q
 | .inr _=>
 some (decide (n≤most))
theorem zM(n:Int)(most:Int)(id_ id__':(TupT fam [.int .i64]→Option Int))(h_id_:∀a,Lo (id_ a) (id__' a)):Lo (cm n most id_) (cK n most id__'):=by
 unfold cm cK
 repeat' (first | (with_reducible first | refine vZ _ _ _ ?_ _ | exact h_id_ _ | apply az | apply aC | apply aA | apply ag | apply ai | refine aj ?_ _ | exact ah _) | (intro _) | exact af | (dsimp only))
def gD(k:Look):Option Bool:=
 (cm (k.s.Nodes.length:Int) 12 (λa'=>gw a'.1 k.s)).bind λx=>
 bif x then
 (cm (k.s.Apps.length:Int) 16 (λa'=>gb a'.1 k.s)).bind λx1=>
 bif x1 then
  (cm (k.s.Conts.length:Int) 200 (λa'=>gr a'.1 k.s)).bind λx2=>
  bif x2 then
  (cm (k.s.Slots.length:Int) 12 (λa'=>gy a'.1 k.s)).bind λx3=>
  bif x3 then
   (cm (k.s.Plans.length:Int) 12 (λa'=>ga a'.1 k.s)).bind λx4=>
   some x4
  else
   some false
  else
  some false
 else
  some false
 else
 some false
theorem tL(k:Look):Lo (gD k) (eC k):=by
 unfold gD eC
 repeat' (first | (with_reducible first | refine zM _ _ _ _ ?_ | apply ag | apply ai | refine aj ?_ _ | exact ah _) | (intro _) | exact af | (dsimp only))
def ol(s:List Cont)(f:(TupT fam [.st 7]→Option Bool))(t:Int):Option (Int ⊕ (Int ⊕ Unit)):=
 bif decide (t<(s.length:Int))then
 (idx s t).bind λx=>
 (f (x,())).bind λr=>
 bif r then
  some (.inr (.inl t))
 else
  some (.inl (w64 (t+1)))
 else
 some (.inr (.inr ()))
theorem AO(s:List Cont)(f f_':(TupT fam [.st 7]→Option Bool))(h_f:∀a,Lo (f a) (f_' a))(t:Int):Lo (ol s f t) (rj s f_' t):=by
 unfold ol rj
 repeat' (first | (with_reducible first | exact h_f _ | apply ag | apply ai | refine aj ?_ _ | exact ah _) | (intro _) | exact af | (dsimp only))
def fA(s:List Cont)(f:(TupT fam [.st 7]→Option Bool)):Option Int:=
 (itr 4096 (ol s f) 0).bind λq0=>
 match q0 with
 | .inl q=>
 some q
 | .inr _=>
 some (-1)
theorem ju(s:List Cont)(f f_':(TupT fam [.st 7]→Option Bool))(h_f:∀a,Lo (f a) (f_' a)):Lo (fA s f) (gF s f_'):=by
 unfold fA gF
 repeat' (first | (with_reducible first | refine AO _ _ _ ?_ _ | exact h_f _ | apply az | apply aC | apply aA | apply ag | apply ai | refine aj ?_ _ | exact ah _) | (intro _) | exact af | (dsimp only))
def jG(s:List Cont)(f:(TupT fam [.st 7]→Option Bool)):Option Bool:=
 (fA s f).bind λx=>
 some (decide (x≥0))
theorem sN(s:List Cont)(f f_':(TupT fam [.st 7]→Option Bool))(h_f:∀a,Lo (f a) (f_' a)):Lo (jG s f) (jx s f_'):=by
 unfold jG jx
 repeat' (first | (with_reducible first | refine ju _ _ _ ?_ | exact h_f _ | apply ag | apply ai | refine aj ?_ _ | exact ah _) | (intro _) | exact af | (dsimp only))
def n8(l:List Cont)(holds:(TupT fam [.st 7]→Option Bool)):Option Bool:=(jG l (λx=>(holds x).bind λr=>some (!r))).bind λr=>some (!r)
theorem Ai(l:List Cont)(holds holds_':(TupT fam [.st 7]→Option Bool))(h_holds:∀a,Lo (holds a) (holds_' a)):Lo (n8 l holds) (mQ l holds_'):=by
 unfold n8 mQ
 repeat' (first | (with_reducible first | refine sN _ _ _ ?_ | exact h_holds _ | apply ag | apply ai | refine aj ?_ _ | exact ah _) | (intro _) | exact af | (dsimp only))
def qi(s:List App)(f:(TupT fam [.st 6]→Option Bool))(t:Int):Option (Int ⊕ (Int ⊕ Unit)):=
 bif decide (t<(s.length:Int))then
 (idx s t).bind λx=>
 (f (x,())).bind λr=>
 bif r then
  some (.inr (.inl t))
 else
  some (.inl (w64 (t+1)))
 else
 some (.inr (.inr ()))
theorem Bs(s:List App)(f f_':(TupT fam [.st 6]→Option Bool))(h_f:∀a,Lo (f a) (f_' a))(t:Int):Lo (qi s f t) (tE s f_' t):=by
 unfold qi tE
 repeat' (first | (with_reducible first | exact h_f _ | apply ag | apply ai | refine aj ?_ _ | exact ah _) | (intro _) | exact af | (dsimp only))
def mo(s:List App)(f:(TupT fam [.st 6]→Option Bool)):Option Int:=
 (itr 4096 (qi s f) 0).bind λq0=>
 match q0 with
 | .inl q=>
 some q
 | .inr _=>
 some (-1)
theorem tF(s:List App)(f f_':(TupT fam [.st 6]→Option Bool))(h_f:∀a,Lo (f a) (f_' a)):Lo (mo s f) (nS s f_'):=by
 unfold mo nS
 repeat' (first | (with_reducible first | refine Bs _ _ _ ?_ _ | exact h_f _ | apply az | apply aC | apply aA | apply ag | apply ai | refine aj ?_ _ | exact ah _) | (intro _) | exact af | (dsimp only))
def lp(s:State)(id_:Int):Option Int:=
 (mo s.Apps (λa'=>xG a'.1 id_)).bind λx=>
 some x
theorem qD(s:State)(id_:Int):Lo (lp s id_) (nG s id_):=by
 unfold lp nG
 repeat' (first | (with_reducible first | refine tF _ _ _ ?_ | apply ag | apply ai | refine aj ?_ _ | exact ah _) | (intro _) | exact af | (dsimp only))
def d6(s:State)(id_:Int):Option (App×Bool):=
 (lp s id_).bind λi=>
 bif decide (i<0)then
 some ((⟨0,0,[],0,0,⟨0,0⟩,[],0,0,[],[],[],[]⟩:App),false)
 else
 (idx s.Apps i).bind λx=>
 (kS x).bind λx1=>
 some (x1,true)
theorem gC(s:State)(id_:Int):Lo (d6 s id_) (fg s id_):=by
 unfold d6 fg
 repeat' (first | (with_reducible first | exact qD _ _ | apply ag | apply ai | refine aj ?_ _ | exact ah _) | (intro _) | exact af | (dsimp only))
def nR(s:List Node)(f:(TupT fam [.st 4]→Option Bool))(t:Int):Option (Int ⊕ (Int ⊕ Unit)):=
 bif decide (t<(s.length:Int))then
 (idx s t).bind λx=>
 (f (x,())).bind λr=>
 bif r then
  some (.inr (.inl t))
 else
  some (.inl (w64 (t+1)))
 else
 some (.inr (.inr ()))
theorem Ay(s:List Node)(f f_':(TupT fam [.st 4]→Option Bool))(h_f:∀a,Lo (f a) (f_' a))(t:Int):Lo (nR s f t) (sd s f_' t):=by
 unfold nR sd
 repeat' (first | (with_reducible first | exact h_f _ | apply ag | apply ai | refine aj ?_ _ | exact ah _) | (intro _) | exact af | (dsimp only))
def oU(s:List Node)(f:(TupT fam [.st 4]→Option Bool)):Option Int:=
 (itr 4096 (nR s f) 0).bind λq0=>
 match q0 with
 | .inl q=>
 some q
 | .inr _=>
 some (-1)
theorem xO(s:List Node)(f f_':(TupT fam [.st 4]→Option Bool))(h_f:∀a,Lo (f a) (f_' a)):Lo (oU s f) (oZ s f_'):=by
 unfold oU oZ
 repeat' (first | (with_reducible first | refine Ay _ _ _ ?_ _ | exact h_f _ | apply az | apply aC | apply aA | apply ag | apply ai | refine aj ?_ _ | exact ah _) | (intro _) | exact af | (dsimp only))
def mc(s:State)(id_:Int):Option Int:=
 (oU s.Nodes (λa'=>rV id_ a'.1)).bind λx=>
 some x
theorem tG(s:State)(id_:Int):Lo (mc s id_) (om s id_):=by
 unfold mc om
 repeat' (first | (with_reducible first | refine xO _ _ _ ?_ | apply ag | apply ai | refine aj ?_ _ | exact ah _) | (intro _) | exact af | (dsimp only))
def go(s:State)(id_:Int):Option (Node×Bool):=
 (mc s id_).bind λi=>
 bif decide (i<0)then
 some ((⟨0,0,0,⟨0,0⟩,0,0,false⟩:Node),false)
 else
 (idx s.Nodes i).bind λx=>
 some (x,true)
theorem kF(s:State)(id_:Int):Lo (go s id_) (hU s id_):=by
 unfold go hU
 repeat' (first | (with_reducible first | exact tG _ _ | apply ag | apply ai | refine aj ?_ _ | exact ah _) | (intro _) | exact af | (dsimp only))
def iz(k:Look)(c:Cont):Option Bool:=
 (d6 k.s c.App).bind λx=>
 (go k.s c.Node).bind λx1=>
 bif x.2 then
 (cJ x.1).bind λx2=>
 bif x2 then
  bif x1.2 then
  bif x1.1.Up then
   bif x1.1.Label == c.Label then
   bif decide (c.Notice≥0)then
    some (decide (c.Notice≤(imax k.s.Now 1)))
   else
    some false
   else
   some false
  else
   some false
  else
  some false
 else
  some false
 else
 some false
theorem uZ(k:Look)(c:Cont):Lo (iz k c) (fO k c):=by
 unfold iz fO
 repeat' (first | (with_reducible first | exact gC _ _ | exact kF _ _ | apply ag | apply ai | refine aj ?_ _ | exact ah _) | (intro _) | exact af | (dsimp only))
def oy(s:List Node)(f:(TupT fam [.st 4]→Option Bool)):Option Bool:=
 (oU s f).bind λx=>
 some (decide (x≥0))
theorem Ad(s:List Node)(f f_':(TupT fam [.st 4]→Option Bool))(h_f:∀a,Lo (f a) (f_' a)):Lo (oy s f) (mP s f_'):=by
 unfold oy mP
 repeat' (first | (with_reducible first | refine xO _ _ _ ?_ | exact h_f _ | apply ag | apply ai | refine aj ?_ _ | exact ah _) | (intro _) | exact af | (dsimp only))
def nW(l:List Node)(holds:(TupT fam [.st 4]→Option Bool)):Option Bool:=(oy l (λx=>(holds x).bind λr=>some (!r))).bind λr=>some (!r)
theorem Aq(l:List Node)(holds holds_':(TupT fam [.st 4]→Option Bool))(h_holds:∀a,Lo (holds a) (holds_' a)):Lo (nW l holds) (mC l holds_'):=by
 unfold nW mC
 repeat' (first | (with_reducible first | refine Ad _ _ _ ?_ | exact h_holds _ | apply ag | apply ai | refine aj ?_ _ | exact ah _) | (intro _) | exact af | (dsimp only))
def iu(k:Look)(n:Node):Option Bool:=
 (itr 4096 (m_ k n) ((⟨0,0⟩:Vec),0)).bind λq0=>
 match q0 with
 | .inl q1=>
 some q1
 | .inr sum1=>
 (cf sum1 n.Cap).bind λx2=>
 some x2
theorem vo(k:Look)(n:Node):Lo (iu k n) (fQ k n):=by
 unfold iu fQ
 repeat' (first | (with_reducible first | apply az | apply aC | apply aA | apply ag | apply ai | refine aj ?_ _ | exact ah _) | (intro _) | exact af | (dsimp only))
def pH(s:List App)(f:(TupT fam [.st 6]→Option Bool)):Option Bool:=
 (mo s f).bind λx=>
 some (decide (x≥0))
theorem BK(s:List App)(f f_':(TupT fam [.st 6]→Option Bool))(h_f:∀a,Lo (f a) (f_' a)):Lo (pH s f) (oQ s f_'):=by
 unfold pH oQ
 repeat' (first | (with_reducible first | refine tF _ _ _ ?_ | exact h_f _ | apply ag | apply ai | refine aj ?_ _ | exact ah _) | (intro _) | exact af | (dsimp only))
def qf(l:List App)(holds:(TupT fam [.st 6]→Option Bool)):Option Bool:=(pH l (λx=>(holds x).bind λr=>some (!r))).bind λr=>some (!r)
theorem Be(l:List App)(holds holds_':(TupT fam [.st 6]→Option Bool))(h_holds:∀a,Lo (holds a) (holds_' a)):Lo (qf l holds) (oH l holds_'):=by
 unfold qf oH
 repeat' (first | (with_reducible first | refine BK _ _ _ ?_ | exact h_holds _ | apply ag | apply ai | refine aj ?_ _ | exact ah _) | (intro _) | exact af | (dsimp only))
def kA(c:Conf)(path:List UInt8):Option Bool:=
 (fJ c path).bind λx=>
 bif x.2 then
 (ip c path).bind λx1=>
 some ((x1.length:Int) == 0)
 else
 some false
theorem si(c:Conf)(path:List UInt8):Lo (kA c path) (lG c path):=by
 unfold kA lG
 repeat' (first | (with_reducible first | exact js _ _ | exact lZ _ _ | apply ag | apply ai | refine aj ?_ _ | exact ah _) | (intro _) | exact af | (dsimp only))
def iY(k:Look)(a:App):Option Bool:=
 (itr 4096 (nj k a) (0,0,0)).bind λq2=>
 (
 bif a.State == 1 then
  bif decide (q2.2>0)then
  some (.inr false)
  else
  some (.inl ())
 else
  bif a.State == 2 then
  bif q2.1 != 1 then
   some (.inr false)
  else
   some (.inl ())
  else
  some (.inr true):Option (Unit ⊕ Bool)).bind λq0=>
 match q0 with
 | .inl _=>
 (kA k.s.Conf a.Queue).bind λx1=>
 some x1
 | .inr q3=>
 some q3
theorem vP(k:Look)(a:App):Lo (iY k a) (gP k a):=by
 unfold iY gP
 repeat' (first | (with_reducible first | exact si _ _ | apply az | apply aC | apply aA | apply ag | apply ai | refine aj ?_ _ | exact ah _) | (intro _) | exact af | (dsimp only))
def nU(s:List Slot)(f:(TupT fam [.st 8]→Option Bool))(t:Int):Option (Int ⊕ (Int ⊕ Unit)):=
 bif decide (t<(s.length:Int))then
 (idx s t).bind λx=>
 (f (x,())).bind λr=>
 bif r then
  some (.inr (.inl t))
 else
  some (.inl (w64 (t+1)))
 else
 some (.inr (.inr ()))
theorem Ak(s:List Slot)(f f_':(TupT fam [.st 8]→Option Bool))(h_f:∀a,Lo (f a) (f_' a))(t:Int):Lo (nU s f t) (sm s f_' t):=by
 unfold nU sm
 repeat' (first | (with_reducible first | exact h_f _ | apply ag | apply ai | refine aj ?_ _ | exact ah _) | (intro _) | exact af | (dsimp only))
def oN(s:List Slot)(f:(TupT fam [.st 8]→Option Bool)):Option Int:=
 (itr 4096 (nU s f) 0).bind λq0=>
 match q0 with
 | .inl q=>
 some q
 | .inr _=>
 some (-1)
theorem xF(s:List Slot)(f f_':(TupT fam [.st 8]→Option Bool))(h_f:∀a,Lo (f a) (f_' a)):Lo (oN s f) (oY s f_'):=by
 unfold oN oY
 repeat' (first | (with_reducible first | refine Ak _ _ _ ?_ _ | exact h_f _ | apply az | apply aC | apply aA | apply ag | apply ai | refine aj ?_ _ | exact ah _) | (intro _) | exact af | (dsimp only))
def nF(s:List Slot)(f:(TupT fam [.st 8]→Option Bool)):Option Bool:=
 (oN s f).bind λx=>
 some (decide (x≥0))
theorem A1(s:List Slot)(f f_':(TupT fam [.st 8]→Option Bool))(h_f:∀a,Lo (f a) (f_' a)):Lo (nF s f) (mq s f_'):=by
 unfold nF mq
 repeat' (first | (with_reducible first | refine xF _ _ _ ?_ | exact h_f _ | apply ag | apply ai | refine aj ?_ _ | exact ah _) | (intro _) | exact af | (dsimp only))
def nD(l:List Slot)(holds:(TupT fam [.st 8]→Option Bool)):Option Bool:=(nF l (λx=>(holds x).bind λr=>some (!r))).bind λr=>some (!r)
theorem AX(l:List Slot)(holds holds_':(TupT fam [.st 8]→Option Bool))(h_holds:∀a,Lo (holds a) (holds_' a)):Lo (nD l holds) (lY l holds_'):=by
 unfold nD lY
 repeat' (first | (with_reducible first | refine A1 _ _ _ ?_ | exact h_holds _ | apply ag | apply ai | refine aj ?_ _ | exact ah _) | (intro _) | exact af | (dsimp only))
def iN(s:State):Option Bool:=
 (mu s.Conf).bind λx=>
 bif x == 0 then
 (gR (⟨⟨⟨s.Conf.Labels,s.Conf.Queues⟩,s.Nodes,s.Apps,s.Conts,s.Slots,s.Plans,s.Now,s.Epoch,s.Seq⟩⟩:Look)).bind λx1=>
 bif x1 then
  (gD (⟨⟨⟨s.Conf.Labels,s.Conf.Queues⟩,s.Nodes,s.Apps,s.Conts,s.Slots,s.Plans,s.Now,s.Epoch,s.Seq⟩⟩:Look)).bind λx2=>
  bif x2 then
  (n8 s.Conts (λa'=>iz (⟨⟨⟨s.Conf.Labels,s.Conf.Queues⟩,s.Nodes,s.Apps,s.Conts,s.Slots,s.Plans,s.Now,s.Epoch,s.Seq⟩⟩:Look) a'.1)).bind λx3=>
  bif x3 then
   (nW s.Nodes (λa'=>iu (⟨⟨⟨s.Conf.Labels,s.Conf.Queues⟩,s.Nodes,s.Apps,s.Conts,s.Slots,s.Plans,s.Now,s.Epoch,s.Seq⟩⟩:Look) a'.1)).bind λx4=>
   bif x4 then
   (qf s.Apps (λa'=>iY (⟨⟨⟨s.Conf.Labels,s.Conf.Queues⟩,s.Nodes,s.Apps,s.Conts,s.Slots,s.Plans,s.Now,s.Epoch,s.Seq⟩⟩:Look) a'.1)).bind λx5=>
   bif x5 then
    (nD s.Slots (λa'=>kg (⟨⟨⟨s.Conf.Labels,s.Conf.Queues⟩,s.Nodes,s.Apps,s.Conts,s.Slots,s.Plans,s.Now,s.Epoch,s.Seq⟩⟩:Look) a'.1)).bind λx6=>
    some x6
   else
    some false
   else
   some false
  else
   some false
  else
  some false
 else
  some false
 else
 some false
theorem rS(s:State):Lo (iN s) (ij s):=by
 unfold iN ij
 repeat' (first | (with_reducible first | exact vu _ | exact tT _ | exact tL _ | refine Ai _ _ _ ?_ | exact uZ _ _ | refine Aq _ _ _ ?_ | exact vo _ _ | refine Be _ _ _ ?_ | exact vP _ _ | refine AX _ _ _ ?_ | apply ag | apply ai | refine aj ?_ _ | exact ah _) | (intro _) | exact af | (dsimp only))
def qQ(s:State):Option State:=
 (aJ s.Conf.Labels).bind λx=>
 (dz s.Conf.Queues).bind λx1=>
 (itr 4096 (y7 x1) (x1,0,0)).bind λq=>
 bif Nat.ble q.1.length q.2.1 then
 (dA s.Nodes).bind λx5=>
 (bf s.Conts).bind λx6=>
 (dF s.Slots).bind λx7=>
 (jd s.Plans).bind λx8=>
 (en s.Apps).bind λx9=>
 (itr 4096 (yH x9) (x9,0,0)).bind λq1=>
 bif Nat.ble q1.1.length q1.2.1 then
  some (⟨⟨x,q.1⟩,x5,q1.1,x6,x7,x8,s.Now,s.Epoch,s.Seq⟩:State)
 else
  none
 else
 none
theorem Ei(s:State):Lo (qQ s) (q_ s):=by
 unfold qQ q_
 repeat' (first | (with_reducible first | apply ag | apply ai | refine aj ?_ _ | exact ah _) | (intro _) | exact af | (dsimp only))
def mb(s:State):Option State:=
 (aJ s.Conf.Labels).bind λx=>
 (dz s.Conf.Queues).bind λx1=>
 (itr 4096 (vE x1) (x1,0)).bind λq=>
 (dA s.Nodes).bind λx5=>
 (bf s.Conts).bind λx6=>
 (dF s.Slots).bind λx7=>
 (jd s.Plans).bind λx8=>
 (en s.Apps).bind λx9=>
 (itr 4096 (vC x9) (x9,0)).bind λq1=>
 some (⟨⟨x,q⟩,x5,q1,x6,x7,x8,s.Now,s.Epoch,s.Seq⟩:State)
theorem vG(s:State):Lo (mb s) (m9 s):=by
 unfold mb m9
 repeat' (first | (with_reducible first | apply ag | apply ai | refine aj ?_ _ | exact ah _) | (intro _) | exact af | (dsimp only))
def dO(s:List Int)(v:Int):Option Int:=
 (itr 4096 (ia s v) 0).bind λq0=>
 match q0 with
 | .inl q=>
 some q
 | .inr _=>
 some (-1)
theorem pN(s:List Int)(v:Int):Lo (dO s v) (cP s v):=by
 unfold dO cP
 repeat' (first | (with_reducible first | apply az | apply aC | apply aA | apply ag | apply ai | refine aj ?_ _ | exact ah _) | (intro _) | exact af | (dsimp only))
def nx(ids:List Int)(t:State×Int):Option ((State×Int) ⊕ State):=
 bif decide (t.2<(ids.length:Int))then
 (
  (idx ids t.2).bind λx1=>
  (fA t.1.Conts (λa'=>tI a'.1 x1)).bind λk=>
  bif decide (k<0)then
  some t.1
  else
  (inb k t.1.Conts.length).bind λi=>
  (t.1.Conts[i]?).bind λx2=>
  (lp t.1 x2.App).bind λi1=>
  (
   bif decide (i1≥0)then
   some x2.Master
   else
   some false).bind λq=>
  bif q then
   none
  else
   (jw t.1.Conts k (w64 (k+1))).bind λx3=>
   bif decide (i1<0)then
   some (⟨⟨t.1.Conf.Labels,t.1.Conf.Queues⟩,t.1.Nodes,t.1.Apps,x3,t.1.Slots,t.1.Plans,t.1.Now,t.1.Epoch,t.1.Seq⟩:State)
   else
   (inb i1 t.1.Apps.length).bind λi2=>
   (t.1.Apps[i2]?).bind λx4=>
   (dO x4.Grants x1).bind λj=>
   bif decide (j≥0)then
    none
   else
    (app 8 x4.Kills [x1]).bind λl=>
    (inb i1 t.1.Apps.length).bind λi3=>
    bif Nat.beq i3 i2 then
    (t.1.Apps[i3]?).bind λx5=>
    some (⟨⟨t.1.Conf.Labels,t.1.Conf.Queues⟩,t.1.Nodes,List.set t.1.Apps i3 (⟨x4.Id,x4.State,x4.Queue,x4.User,x4.Prio,⟨x4.Master.Mem,x4.Master.Cores⟩,x4.Asks,x4.Seen,x4.Beat,x4.Grants,l,x4.Told,x4.Lost⟩:App),x3,t.1.Slots,t.1.Plans,t.1.Now,t.1.Epoch,t.1.Seq⟩:State)
    else
    none).bind λs1=>
 some (.inl (s1,w64 (t.2+1)))
 else
 some (.inr t.1)
theorem Av(ids:List Int)(t:State×Int):Lo (nx ids t) (rP ids t):=by
 unfold nx rP
 repeat' (first | (with_reducible first | refine ju _ _ _ ?_ | exact qD _ _ | exact pN _ _ | apply ag | apply ai | refine aj ?_ _ | exact ah _) | (intro _) | exact af | (dsimp only))
def bX(s:State)(ids:List Int):Option State:=
 (qQ s).bind λx=>
 (itr 4096 (nx ids) (x,0)).bind λs2=>
 (qQ s2).bind λx6=>
 some x6
theorem gv(s:State)(ids:List Int):Lo (bX s ids) (cL s ids):=by
 unfold bX cL
 repeat' (first | (with_reducible first | exact Ei _ | exact Av _ _ | apply ag | apply ai | refine aj ?_ _ | exact ah _) | (intro _) | exact af | (dsimp only))
def iw(r:Reader)(w:List (List UInt8)):Option (Int×Reader):=
 bif decide ((r.c.Queues.length:Int)≥16)then
 some (4,r)
 else
 bif(w.length:Int) != (w64 (3+(r.c.Labels.length:Int)))then
  some (6,r)
 else
  (idx w 2).bind λx=>
  (kx x).bind λx1=>
  (idx w 1).bind λx2=>
  (slc w 3 (w.length:Int)).bind λl=>
  (itr 4096 (lL l) (x1.2,(⟨x2,[],x1.1⟩:Queue),0)).bind λq=>
  bif ! q.1 then
  some (6,r)
  else
  (app 48 r.c.Queues [q.2]).bind λl2=>
  some (0,(⟨⟨r.c.Labels,l2⟩,r.seen⟩:Reader))
theorem vf(r:Reader)(w:List (List UInt8)):Lo (iw r w) (fP r w):=by
 unfold iw fP
 repeat' (first | (with_reducible first | apply ag | apply ai | refine aj ?_ _ | exact ah _) | (intro _) | exact af | (dsimp only))
def jt(r:Reader)(w:List (List UInt8)):Option (Int×Reader):=
 bif(w.length:Int) == 0 then
 some (0,r)
 else
 (
  bif ! r.seen then
  (idx w 0).bind λx=>
  some (x == ([108,97,98,101,108,115]:List UInt8))
  else
  some false).bind λq=>
 bif q then
  bif decide ((w.length:Int)>3)then
  some (4,(⟨⟨r.c.Labels,r.c.Queues⟩,true⟩:Reader))
  else
  (mkl 16 (w.length:Int) (w.length:Int) []).bind λl=>
  (inS 1 (l.length:Int) l.length).bind λp=>
  (slc w 1 (w.length:Int)).bind λl1=>
  some (0,(⟨⟨cpy l p.1 p.2 l1,r.c.Queues⟩,true⟩:Reader))
 else
  (
  bif ! r.seen then
   some true
  else
   (idx w 0).bind λx1=>
   some (! (x1 == ([113,117,101,117,101]:List UInt8)))).bind λq1=>
  bif q1 then
  some (6,r)
  else
  (iw r w).bind λx2=>
  some (x2.1,x2.2)
theorem vT(r:Reader)(w:List (List UInt8)):Lo (jt r w) (gI r w):=by
 unfold jt gI
 repeat' (first | (with_reducible first | exact vf _ _ | apply ag | apply ai | refine aj ?_ _ | exact ah _) | (intro _) | exact af | (dsimp only))
def bg(del:(TupT fam [.str]→Option Bool))(t:List (List UInt8)×Int×Int):Option ((List (List UInt8)×Int×Int) ⊕ ((List (List UInt8)×Int))):=
 bif decide (t.2.2<(t.1.length:Int))then
 (
  (inb t.2.2 t.1.length).bind λi1=>
  (t.1[i1]?).bind λx=>
  (del (x,())).bind λr=>
  bif ! r then
  (inb t.2.1 t.1.length).bind λi2=>
  (t.1[i2]?).bind λx1=>
  some (List.set t.1 i2 x,w64 (t.2.1+1))
  else
  some (t.1,t.2.1)).bind λq=>
 some (.inl (q.1,q.2,w64 (t.2.2+1)))
 else
 some (.inr (t.1,t.2.1))
theorem gW(del del_':(TupT fam [.str]→Option Bool))(h_del:∀a,Lo (del a) (del_' a))(t:List (List UInt8)×Int×Int):Lo (bg del t) (bA del_' t):=by
 unfold bg bA
 repeat' (first | (with_reducible first | exact h_del _ | apply ag | apply ai | refine aj ?_ _ | exact ah _) | (intro _) | exact af | (dsimp only))
def bI(s:List (List UInt8))(del:(TupT fam [.str]→Option Bool)):Option (List (List UInt8)):=
 (aX s del).bind λi=>
 bif i == (-1)then
 some s
 else
 (itr 4096 (bg del) (s,i,w64 (i+1))).bind λq1=>
 (inS q1.2 (q1.1.length:Int) q1.1.length).bind λp=>
 (inS 0 q1.2 (cpy q1.1 p.1 p.2 (List.replicate p.2 [])).length).bind λp1=>
 some (List.take p1.2 (cpy q1.1 p.1 p.2 (List.replicate p.2 [])))
theorem iU(s:List (List UInt8))(del del_':(TupT fam [.str]→Option Bool))(h_del:∀a,Lo (del a) (del_' a)):Lo (bI s del) (aZ s del_'):=by
 unfold bI aZ
 repeat' (first | (with_reducible first | refine da _ _ _ ?_ | refine gW _ _ ?_ _ | exact h_del _ | apply ag | apply ai | refine aj ?_ _ | exact ah _) | (intro _) | exact af | (dsimp only))
def rC(line:List UInt8):Option (List (List UInt8)):=
 (eZ line ([32]:List UInt8)).bind λx=>
 (bI x (λa'=>sx a'.1)).bind λx1=>
 some x1
theorem CC(line:List UInt8):Lo (rC line) (qG line):=by
 unfold rC qG
 repeat' (first | (with_reducible first | exact k_ _ _ | refine iU _ _ _ ?_ | apply ag | apply ai | refine aj ?_ _ | exact ah _) | (intro _) | exact af | (dsimp only))
def iM(a:Int)(cmp:(TupT fam [.st 2,.st 2]→Option Int))(t1:List Queue×Int):Option ((List Queue×Int) ⊕ List Queue):=
 (
 bif decide (t1.2>a)then
  (inb t1.2 t1.1.length).bind λi=>
  (t1.1[i]?).bind λx=>
  (inb (w64 (t1.2 - 1)) t1.1.length).bind λi1=>
  (t1.1[i1]?).bind λx1=>
  (cmp (x,x1,())).bind λr=>
  some (decide (r<0))
 else
  some false).bind λq=>
 bif q then
 (inb (w64 (t1.2 - 1)) t1.1.length).bind λi2=>
 (t1.1[i2]?).bind λx2=>
 (inb t1.2 t1.1.length).bind λi3=>
 (t1.1[i3]?).bind λx3=>
 (inb t1.2 t1.1.length).bind λi4=>
 (t1.1[i4]?).bind λx4=>
 (inb (w64 (t1.2 - 1)) (List.set t1.1 i4 x2).length).bind λi5=>
 ((List.set t1.1 i4 x2)[i5]?).bind λx5=>
 some (.inl (List.set (List.set t1.1 i4 x2) i5 x3,w64 (t1.2 - 1)))
 else
 some (.inr t1.1)
theorem u5(a:Int)(cmp cmp_':(TupT fam [.st 2,.st 2]→Option Int))(h_cmp:∀a,Lo (cmp a) (cmp_' a))(t1:List Queue×Int):Lo (iM a cmp t1) (jX a cmp_' t1):=by
 unfold iM jX
 repeat' (first | (with_reducible first | exact h_cmp _ | apply ag | apply ai | refine aj ?_ _ | exact ah _) | (intro _) | exact af | (dsimp only))
def iK(a:Int)(b:Int)(cmp:(TupT fam [.st 2,.st 2]→Option Int))(t:List Queue×Int):Option ((List Queue×Int) ⊕ List Queue):=
 bif decide (t.2<b)then
 (itr 4096 (iM a cmp) (t.1,t.2)).bind λdata1=>
 some (.inl (data1,w64 (t.2+1)))
 else
 some (.inr t.1)
theorem ve(a:Int)(b:Int)(cmp cmp_':(TupT fam [.st 2,.st 2]→Option Int))(h_cmp:∀a,Lo (cmp a) (cmp_' a))(t:List Queue×Int):Lo (iK a b cmp t) (kj a b cmp_' t):=by
 unfold iK kj
 repeat' (first | (with_reducible first | refine u5 _ _ _ ?_ _ | exact h_cmp _ | apply ag | apply ai | refine aj ?_ _ | exact ah _) | (intro _) | exact af | (dsimp only))
def gU(data:List Queue)(a:Int)(b:Int)(cmp:(TupT fam [.st 2,.st 2]→Option Int)):Option (List Queue):=
 (itr 4096 (iK a b cmp) (data,w64 (a+1))).bind λdata2=>
 some data2
theorem qs(data:List Queue)(a:Int)(b:Int)(cmp cmp_':(TupT fam [.st 2,.st 2]→Option Int))(h_cmp:∀a,Lo (cmp a) (cmp_' a)):Lo (gU data a b cmp) (gq data a b cmp_'):=by
 unfold gU gq
 repeat' (first | (with_reducible first | refine ve _ _ _ _ ?_ _ | exact h_cmp _ | apply ag | apply ai | refine aj ?_ _ | exact ah _) | (intro _) | exact af | (dsimp only))
def ra(a0:List Queue)(a1:Int)(a2:Int)(a3:Int)(a4:(TupT fam [.st 2,.st 2]→Option Int)):Option (List Queue):=none
theorem yl(a0:List Queue)(a1:Int)(a2:Int)(a3:Int)(a4 a4_':(TupT fam [.st 2,.st 2]→Option Int))(h_a4:∀a,Lo (a4 a) (a4_' a)):Lo (ra a0 a1 a2 a3 a4) (jB a0 a1 a2 a3 a4_'):=af
def np(n:Int)(cmp:(TupT fam [.st 2,.st 2]→Option Int))(t1:List Queue×Int)(t2:List Queue×Int×Int):Option ((List Queue×Int×Int) ⊕ ((List Queue×Int))):=none
theorem uT(n:Int)(cmp cmp_':(TupT fam [.st 2,.st 2]→Option Int))(h_cmp:∀a,Lo (cmp a) (cmp_' a))(t1:List Queue×Int)(t2:List Queue×Int×Int):Lo (np n cmp t1 t2) (qm n cmp_' t1 t2):=af
def iB(n:Int)(cmp:(TupT fam [.st 2,.st 2]→Option Int))(t1:List Queue×Int):Option ((List Queue×Int) ⊕ List Queue):=
 bif decide (t1.2<n)then
 (itr 4096 (np n cmp t1) (t1.1,0,w64 (2*t1.2))).bind λq1=>
 (
  let m:=w64 (q1.2+t1.2)
  bif decide (m<n)then
  (ra q1.1 q1.2 m n cmp).bind λx3=>
  some x3
  else
  some q1.1).bind λdata1=>
 some (.inl (data1,w64 (t1.2*2)))
 else
 some (.inr t1.1)
theorem uQ(n:Int)(cmp cmp_':(TupT fam [.st 2,.st 2]→Option Int))(h_cmp:∀a,Lo (cmp a) (cmp_' a))(t1:List Queue×Int):Lo (iB n cmp t1) (j_ n cmp_' t1):=by
 unfold iB j_
 repeat' (first | (with_reducible first | refine uT _ _ _ ?_ _ _ | refine yl _ _ _ _ _ _ ?_ | exact h_cmp _ | apply ag | apply ai | refine aj ?_ _ | exact ah _) | (intro _) | exact af | (dsimp only))
def iH(n:Int)(cmp:(TupT fam [.st 2,.st 2]→Option Int))(t:List Queue×Int×Int):Option ((List Queue×Int×Int) ⊕ ((List Queue×Int))):=
 bif decide (t.2.2≤n)then
 (gU t.1 t.2.1 t.2.2 cmp).bind λx=>
 some (.inl (x,t.2.2,w64 (t.2.2+20)))
 else
 some (.inr (t.1,t.2.1))
theorem vh(n:Int)(cmp cmp_':(TupT fam [.st 2,.st 2]→Option Int))(h_cmp:∀a,Lo (cmp a) (cmp_' a))(t:List Queue×Int×Int):Lo (iH n cmp t) (kc n cmp_' t):=by
 unfold iH kc
 repeat' (first | (with_reducible first | refine qs _ _ _ _ _ ?_ | exact h_cmp _ | apply ag | apply ai | refine aj ?_ _ | exact ah _) | (intro _) | exact af | (dsimp only))
def li(data:List Queue)(n:Int)(cmp:(TupT fam [.st 2,.st 2]→Option Int)):Option (List Queue):=
 (itr 4096 (iH n cmp) (data,0,20)).bind λq=>
 (gU q.1 q.2 n cmp).bind λx1=>
 (itr 4096 (iB n cmp) (x1,20)).bind λdata2=>
 some data2
theorem yp(data:List Queue)(n:Int)(cmp cmp_':(TupT fam [.st 2,.st 2]→Option Int))(h_cmp:∀a,Lo (cmp a) (cmp_' a)):Lo (li data n cmp) (jD data n cmp_'):=by
 unfold li jD
 repeat' (first | (with_reducible first | refine vh _ _ _ ?_ _ | refine qs _ _ _ _ _ ?_ | refine uQ _ _ _ ?_ _ | exact h_cmp _ | apply ag | apply ai | refine aj ?_ _ | exact ah _) | (intro _) | exact af | (dsimp only))
def kR(x:List Queue)(cmp:(TupT fam [.st 2,.st 2]→Option Int)):Option (List Queue):=
 (li x (x.length:Int) cmp).bind λx1=>
 some x1
theorem yu(x:List Queue)(cmp cmp_':(TupT fam [.st 2,.st 2]→Option Int))(h_cmp:∀a,Lo (cmp a) (cmp_' a)):Lo (kR x cmp) (jJ x cmp_'):=by
 unfold kR jJ
 repeat' (first | (with_reducible first | refine yp _ _ _ _ ?_ | exact h_cmp _ | apply ag | apply ai | refine aj ?_ _ | exact ah _) | (intro _) | exact af | (dsimp only))
def nc(x:List (List UInt8))(t:Conf×Reader×Int):Option ((Conf×Reader×Int) ⊕ ((Conf×Int) ⊕ (Conf×Reader))):=
 bif decide (t.2.2<(x.length:Int))then
 (inb t.2.2 x.length).bind λi=>
 (x[i]?).bind λx1=>
 (rC x1).bind λx2=>
 (jt t.2.1 x2).bind λe=>
 bif e.1 != 0 then
  some (.inr (.inl ((⟨[],[]⟩:Conf),e.1)))
 else
  some (.inl (t.1,e.2,w64 (t.2.2+1)))
 else
 some (.inr (.inr (t.1,t.2.1)))
theorem zI(x:List (List UInt8))(t:Conf×Reader×Int):Lo (nc x t) (p9 x t):=by
 unfold nc p9
 repeat' (first | (with_reducible first | exact CC _ | exact vT _ _ | apply ag | apply ai | refine aj ?_ _ | exact ah _) | (intro _) | exact af | (dsimp only))
def ss(s:List UInt8):Option (Conf×Int):=
 bif decide ((s.length:Int)>2000)then
 some ((⟨[],[]⟩:Conf),5)
 else
 (eZ s ([10]:List UInt8)).bind λx=>
 (itr 4096 (nc x) ((⟨[],[]⟩:Conf),(⟨⟨[],[]⟩,false⟩:Reader),0)).bind λq0=>
 match q0 with
 | .inl q=>
  some (q.1,q.2)
 | .inr q1=>
  bif ! q1.2.seen then
  some ((⟨[],[]⟩:Conf),6)
  else
  (kR q1.2.c.Queues (λa'=>ri a'.1 a'.2.1)).bind λx3=>
  (itr 4096 (vt x3) (q1.1,0)).bind λq0=>
  match q0 with
  | .inl q3=>
   some (q3.1,q3.2)
  | .inr q4=>
   some ((⟨q1.2.c.Labels,x3⟩:Conf),0)
theorem Cz(s:List UInt8):Lo (ss s) (qU s):=by
 unfold ss qU
 repeat' (first | (with_reducible first | exact k_ _ _ | exact zI _ _ | refine yu _ _ _ ?_ | apply az | apply aC | apply aA | apply ag | apply ai | refine aj ?_ _ | exact ah _) | (intro _) | exact af | (dsimp only))
def cj(s1:List (List UInt8))(s2:List (List UInt8)):Option Bool:=
 bif(s1.length:Int) != (s2.length:Int)then
 some false
 else
 (itr 4096 (em s1 s2) 0).bind λq0=>
 match q0 with
 | .inl q=>
  some q
 | .inr _=>
  some true
theorem kT(s1:List (List UInt8))(s2:List (List UInt8)):Lo (cj s1 s2) (bF s1 s2):=by
 unfold cj bF
 repeat' (first | (with_reducible first | apply az | apply aC | apply aA | apply ag | apply ai | refine aj ?_ _ | exact ah _) | (intro _) | exact af | (dsimp only))
def df(t:Step)(x:Conf×Int)(t1:Int):Option (Int ⊕ Unit):=
 bif decide (t1<(t.s.Apps.length:Int))then
 (idx t.s.Apps t1).bind λx2=>
 (
  (cJ x2).bind λx3=>
  bif x3 then
  (kA x.1 x2.Queue).bind λx4=>
  some (! x4)
  else
  some false).bind λq1=>
 bif q1 then
  none
 else
  some (.inl (w64 (t1+1)))
 else
 some (.inr ())
theorem n7(t:Step)(x:Conf×Int)(t1:Int):Lo (df t x t1) (dU t x t1):=by
 unfold df dU
 repeat' (first | (with_reducible first | exact si _ _ | apply ag | apply ai | refine aj ?_ _ | exact ah _) | (intro _) | exact af | (dsimp only))
def ef(t:Step):Option (Output×Step):=
 (ss t.x.Text).bind λx=>
 (
 bif x.2 == 0 then
  (mu x.1).bind λe=>
  some e
 else
  some x.2).bind λe1=>
 bif e1 != 0 then
 none
 else
 (
  bif decide ((t.s.Conf.Labels.length:Int)>(x.1.Labels.length:Int))then
  some true
  else
  (inS 0 (t.s.Conf.Labels.length:Int) x.1.Labels.length).bind λp=>
  (cj t.s.Conf.Labels (sub x.1.Labels p.1 p.2)).bind λx1=>
  some (! x1)).bind λq=>
 bif q then
  none
 else
  (itr 4096 (df t x) 0).bind λ_=>
  some ((⟨0,[],[],[],0⟩:Output),(⟨⟨⟨x.1.Labels,x.1.Queues⟩,t.s.Nodes,t.s.Apps,t.s.Conts,t.s.Slots,t.s.Plans,t.s.Now,t.s.Epoch,t.s.Seq⟩,⟨t.x.Kind,t.x.Id,t.x.Beat,t.x.N,t.x.Text,⟨t.x.Node.Id,t.x.Node.Label,t.x.Node.Rack,⟨t.x.Node.Cap.Mem,t.x.Node.Cap.Cores⟩,t.x.Node.Seen,t.x.Node.Beat,t.x.Node.Up⟩,⟨t.x.App.Id,t.x.App.State,t.x.App.Queue,t.x.App.User,t.x.App.Prio,⟨t.x.App.Master.Mem,t.x.App.Master.Cores⟩,t.x.App.Asks,t.x.App.Seen,t.x.App.Beat,t.x.App.Grants,t.x.App.Kills,t.x.App.Told,t.x.App.Lost⟩,t.x.Asks,t.x.Ids,⟨t.x.Plan.Id,t.x.Plan.Label,t.x.Plan.From,t.x.Plan.Until,⟨t.x.Plan.Need.Mem,t.x.Plan.Need.Cores⟩⟩⟩⟩:Step))
theorem qT(t:Step):Lo (ef t) (cX t):=by
 unfold ef cX
 repeat' (first | (with_reducible first | exact Cz _ | exact vu _ | exact kT _ _ | exact n7 _ _ _ | apply ag | apply ai | refine aj ?_ _ | exact ah _) | (intro _) | exact af | (dsimp only))
def oJ(s:State):Option State:=
 (aJ s.Conf.Labels).bind λx=>
 (dz s.Conf.Queues).bind λx1=>
 (itr 4096 (xA x1) (x1,0)).bind λq=>
 (dA s.Nodes).bind λx5=>
 (bf s.Conts).bind λx6=>
 (dF s.Slots).bind λx7=>
 (jd s.Plans).bind λx8=>
 (en s.Apps).bind λx9=>
 (itr 4096 (xB x9) (x9,0)).bind λq1=>
 some (⟨⟨x,q⟩,x5,q1,x6,x7,x8,s.Now,s.Epoch,s.Seq⟩:State)
theorem wD(s:State):Lo (oJ s) (pm s):=by
 unfold oJ pm
 repeat' (first | (with_reducible first | apply ag | apply ai | refine aj ?_ _ | exact ah _) | (intro _) | exact af | (dsimp only))
def kV(s:State)(n:Node):Option (State×Int):=
 (oJ s).bind λx=>
 (mc x n.Id).bind λi=>
 (
 (bH n.Id 999).bind λx1=>
 bif ! x1 then
  some true
 else
  (bH n.Label (w64 ((x.Conf.Labels.length:Int) - 1))).bind λx2=>
  bif ! x2 then
  some true
  else
  (bH n.Rack 99).bind λx3=>
  bif ! x3 then
   some true
  else
   (bH n.Cap.Mem 1073741824).bind λx4=>
   bif ! x4 then
   some true
   else
   (bH n.Cap.Cores 1073741824).bind λx5=>
   some (! x5)).bind λq=>
 bif q then
 some (x,1)
 else
 (
  bif decide (i≥0)then
  (inb i x.Nodes.length).bind λi1=>
  (x.Nodes[i1]?).bind λx6=>
  some x6.Up
  else
  some false).bind λq1=>
 bif q1 then
  some (x,7)
 else
  (
  bif decide (i<0)then
   some (decide ((x.Nodes.length:Int)≥12))
  else
   some false).bind λq2=>
  bif q2 then
  some (x,4)
  else
  bif decide (i≥0)then
   (inb i x.Nodes.length).bind λi2=>
   (x.Nodes[i2]?).bind λx7=>
   some ((⟨⟨x.Conf.Labels,x.Conf.Queues⟩,List.set x.Nodes i2 (⟨n.Id,n.Label,n.Rack,⟨n.Cap.Mem,n.Cap.Cores⟩,x.Now,0,true⟩:Node),x.Apps,x.Conts,x.Slots,x.Plans,x.Now,x.Epoch,x.Seq⟩:State),0)
  else
   (itr 4096 (qn n x) 0).bind λk1=>
   (qc x.Nodes k1 [(⟨n.Id,n.Label,n.Rack,⟨n.Cap.Mem,n.Cap.Cores⟩,x.Now,0,true⟩:Node)]).bind λx9=>
   some ((⟨⟨x.Conf.Labels,x.Conf.Queues⟩,x9,x.Apps,x.Conts,x.Slots,x.Plans,x.Now,x.Epoch,x.Seq⟩:State),0)
theorem yn(s:State)(n:Node):Lo (kV s n) (jA s n):=by
 unfold kV jA
 repeat' (first | (with_reducible first | exact wD _ | exact tG _ _ | apply ag | apply ai | refine aj ?_ _ | exact ah _) | (intro _) | exact af | (dsimp only))
def dG(t:Step)(node:Int):Option (List Int):=
 (itr 4096 (pz t node) ([],0)).bind λout1=>
 some out1
theorem wX(t:Step)(node:Int):Lo (dG t node) (dv t node):=by
 unfold dG dv
 repeat' (first | (with_reducible first | apply ag | apply ai | refine aj ?_ _ | exact ah _) | (intro _) | exact af | (dsimp only))
def rX(s:State)(id_:Int)(beat:Int):Option (State×Int):=
 (oJ s).bind λx=>
 (mc x id_).bind λi=>
 bif decide (i<0)then
 some (x,2)
 else
 (inb i x.Nodes.length).bind λi1=>
 (x.Nodes[i1]?).bind λx1=>
 bif ! x1.Up then
  some (x,18)
 else
  (
  bif decide (beat<0)then
   some true
  else
   (inb i x.Nodes.length).bind λi2=>
   (x.Nodes[i2]?).bind λx2=>
   some (decide (beat<x2.Beat))).bind λq=>
  bif q then
  some (x,15)
  else
  (inb i x.Nodes.length).bind λi3=>
  (x.Nodes[i3]?).bind λx3=>
  bif decide ((w64 (beat - x3.Beat))>1)then
   some (x,1)
  else
   (inb i x.Nodes.length).bind λi4=>
   (x.Nodes[i4]?).bind λx4=>
   (inb i (List.set x.Nodes i4 (⟨x4.Id,x4.Label,x4.Rack,⟨x4.Cap.Mem,x4.Cap.Cores⟩,x.Now,x4.Beat,x4.Up⟩:Node)).length).bind λi5=>
   ((List.set x.Nodes i4 (⟨x4.Id,x4.Label,x4.Rack,⟨x4.Cap.Mem,x4.Cap.Cores⟩,x.Now,x4.Beat,x4.Up⟩:Node))[i5]?).bind λx5=>
   some ((⟨⟨x.Conf.Labels,x.Conf.Queues⟩,List.set (List.set x.Nodes i4 (⟨x4.Id,x4.Label,x4.Rack,⟨x4.Cap.Mem,x4.Cap.Cores⟩,x.Now,x4.Beat,x4.Up⟩:Node)) i5 (⟨x5.Id,x5.Label,x5.Rack,⟨x5.Cap.Mem,x5.Cap.Cores⟩,x5.Seen,beat,x5.Up⟩:Node),x.Apps,x.Conts,x.Slots,x.Plans,x.Now,x.Epoch,x.Seq⟩:State),0)
theorem Cx(s:State)(id_:Int)(beat:Int):Lo (rX s id_ beat) (qH s id_ beat):=by
 unfold rX qH
 repeat' (first | (with_reducible first | exact wD _ | exact tG _ _ | apply ag | apply ai | refine aj ?_ _ | exact ah _) | (intro _) | exact af | (dsimp only))
def b9(s:List Int)(f:(TupT fam [.int .i64]→Option Bool))(t:Int):Option (Int ⊕ (Int ⊕ Unit)):=
 bif decide (t<(s.length:Int))then
 (idx s t).bind λx=>
 (f (x,())).bind λr=>
 bif r then
  some (.inr (.inl t))
 else
  some (.inl (w64 (t+1)))
 else
 some (.inr (.inr ()))
theorem kn(s:List Int)(f f_':(TupT fam [.int .i64]→Option Bool))(h_f:∀a,Lo (f a) (f_' a))(t:Int):Lo (b9 s f t) (cF s f_' t):=by
 unfold b9 cF
 repeat' (first | (with_reducible first | exact h_f _ | apply ag | apply ai | refine aj ?_ _ | exact ah _) | (intro _) | exact af | (dsimp only))
def bD(s:List Int)(f:(TupT fam [.int .i64]→Option Bool)):Option Int:=
 (itr 4096 (b9 s f) 0).bind λq0=>
 match q0 with
 | .inl q=>
 some q
 | .inr _=>
 some (-1)
theorem fa(s:List Int)(f f_':(TupT fam [.int .i64]→Option Bool))(h_f:∀a,Lo (f a) (f_' a)):Lo (bD s f) (a_ s f_'):=by
 unfold bD a_
 repeat' (first | (with_reducible first | refine kn _ _ _ ?_ _ | exact h_f _ | apply az | apply aC | apply aA | apply ag | apply ai | refine aj ?_ _ | exact ah _) | (intro _) | exact af | (dsimp only))
def d7(del:(TupT fam [.int .i64]→Option Bool))(t:List Int×Int×Int):Option ((List Int×Int×Int) ⊕ ((List Int×Int))):=none
theorem jY(del del_':(TupT fam [.int .i64]→Option Bool))(h_del:∀a,Lo (del a) (del_' a))(t:List Int×Int×Int):Lo (d7 del t) (eH del_' t):=af
def bu(s:List Int)(del:(TupT fam [.int .i64]→Option Bool)):Option (List Int):=
 (bD s del).bind λi=>
 bif i == (-1)then
 some s
 else
 (itr 4096 (d7 del) (s,i,w64 (i+1))).bind λq1=>
 (inS q1.2 (q1.1.length:Int) q1.1.length).bind λp=>
 (inS 0 q1.2 (cpy q1.1 p.1 p.2 (List.replicate p.2 0)).length).bind λp1=>
 some (List.take p1.2 (cpy q1.1 p.1 p.2 (List.replicate p.2 0)))
theorem eI(s:List Int)(del del_':(TupT fam [.int .i64]→Option Bool))(h_del:∀a,Lo (del a) (del_' a)):Lo (bu s del) (a7 s del_'):=by
 unfold bu a7
 repeat' (first | (with_reducible first | refine fa _ _ _ ?_ | refine jY _ _ ?_ _ | exact h_del _ | apply ag | apply ai | refine aj ?_ _ | exact ah _) | (intro _) | exact af | (dsimp only))
def rZ(s:State)(id_:Int):Option Vec:=
 (itr 4096 (vK s id_) ((⟨0,0⟩:Vec),0)).bind λout1=>
 some out1
theorem CD(s:State)(id_:Int):Lo (rZ s id_) (qz s id_):=by
 unfold rZ qz
 repeat' (first | (with_reducible first | apply ag | apply ai | refine aj ?_ _ | exact ah _) | (intro _) | exact af | (dsimp only))
def rN(s:State)(id_:Int):Option Vec:=
 (go s id_).bind λx=>
 (
 bif ! x.2 then
  some true
 else
  some (! x.1.Up)).bind λq=>
 bif q then
 some (⟨0,0⟩:Vec)
 else
 (rZ s id_).bind λx1=>
 some (⟨imax (w64 (x.1.Cap.Mem - x1.Mem)) 0,imax (w64 (x.1.Cap.Cores - x1.Cores)) 0⟩:Vec)
theorem Cy(s:State)(id_:Int):Lo (rN s id_) (qt s id_):=by
 unfold rN qt
 repeat' (first | (with_reducible first | exact kF _ _ | exact CD _ _ | apply ag | apply ai | refine aj ?_ _ | exact ah _) | (intro _) | exact af | (dsimp only))
def iX(v:View)(c:Cont):Option (App×Bool):=
 (itr 4096 (nq v c) ((⟨0,0,[],0,0,⟨0,0⟩,[],0,0,[],[],[],[]⟩:App),0)).bind λq0=>
 match q0 with
 | .inl q=>
 some (q.1,q.2)
 | .inr q1=>
 some ((⟨0,0,[],0,0,⟨0,0⟩,[],0,0,[],[],[],[]⟩:App),false)
theorem vU(v:View)(c:Cont):Lo (iX v c) (hF v c):=by
 unfold iX hF
 repeat' (first | (with_reducible first | apply az | apply aC | apply aA | apply ag | apply ai | refine aj ?_ _ | exact ah _) | (intro _) | exact af | (dsimp only))
def gH(v:View)(t:Vec×Int):Option ((Vec×Int) ⊕ Vec):=
 bif decide (t.2<(v.s.Conts.length:Int))then
 (
  (idx v.s.Conts t.2).bind λx=>
  (iX v x).bind λx1=>
  (
  bif x1.2 then
   bif x.Label == v.label then
   (fY v x1.1).bind λx2=>
   some x2
   else
   some false
  else
   some false).bind λq=>
  bif q then
  (dC t.1 x.Size).bind λx3=>
  some x3.1
  else
  some t.1).bind λout=>
 some (.inl (out,w64 (t.2+1)))
 else
 some (.inr t.1)
theorem ue(v:View)(t:Vec×Int):Lo (gH v t) (jq v t):=by
 unfold gH jq
 repeat' (first | (with_reducible first | exact vU _ _ | apply ag | apply ai | refine aj ?_ _ | exact ah _) | (intro _) | exact af | (dsimp only))
def fU(v:View):Option Vec:=
 (itr 4096 (gH v) ((⟨0,0⟩:Vec),0)).bind λout1=>
 some out1
theorem pu(v:View):Lo (fU v) (fj v):=by
 unfold fU fj
 repeat' (first | (with_reducible first | exact ue _ _ | apply ag | apply ai | refine aj ?_ _ | exact ah _) | (intro _) | exact af | (dsimp only))
def bY(s:State)(path:List UInt8)(label:Int):Option Vec:=
 (fU (⟨⟨⟨s.Conf.Labels,s.Conf.Queues⟩,s.Nodes,s.Apps,s.Conts,s.Slots,s.Plans,s.Now,s.Epoch,s.Seq⟩,path,label,(-1)⟩:View)).bind λx=>
 some x
theorem cI(s:State)(path:List UInt8)(label:Int):Lo (bY s path label) (cE s path label):=by
 unfold bY cE
 repeat' (first | (with_reducible first | exact pu _ | apply ag | apply ai | refine aj ?_ _ | exact ah _) | (intro _) | exact af | (dsimp only))
def oC(l:List Vec):Option Vec:=
 (itr 4096 (xL l) ((⟨0,0⟩:Vec),0)).bind λout=>
 some out
theorem xu(l:List Vec):Lo (oC l) (oX l):=by
 unfold oC oX
 repeat' (first | (with_reducible first | apply ag | apply ai | refine aj ?_ _ | exact ah _) | (intro _) | exact af | (dsimp only))
def eV(s:State)(label:Int):Option Vec:=
 (itr 4096 (tY s label) ([],0)).bind λl2=>
 (oC l2).bind λx1=>
 some x1
theorem jE(s:State)(label:Int):Lo (eV s label) (fK s label):=by
 unfold eV fK
 repeat' (first | (with_reducible first | exact xu _ | apply ag | apply ai | refine aj ?_ _ | exact ah _) | (intro _) | exact af | (dsimp only))
def rY(t:List UInt8×List (List UInt8)):Option ((List UInt8×List (List UInt8)) ⊕ List (List UInt8)):=
 bif ! (t.1 == ([]:List UInt8))then
 (app 16 t.2 [t.1]).bind λl=>
 (ja t.1).bind λx=>
 some (.inl (x.1,l))
 else
 some (.inr t.2)
theorem Cv(t:List UInt8×List (List UInt8)):Lo (rY t) (uW t):=by
 unfold rY uW
 repeat' (first | (with_reducible first | exact pZ _ | apply ag | apply ai | refine aj ?_ _ | exact ah _) | (intro _) | exact af | (dsimp only))
def sP(path:List UInt8):Option (List (List UInt8)):=
 (itr 4096 rY (path,[])).bind λout=>
 some out
theorem Aw(path:List UInt8):Lo (sP path) (uB path):=by
 unfold sP uB
 repeat' (first | (with_reducible first | exact Cv _ | apply ag | apply ai | refine aj ?_ _ | exact ah _) | (intro _) | exact af | (dsimp only))
def mT(s:State)(label:Int)(part:(TupT fam [.st 1]→Option Int))(up:List (List UInt8))(t:Vec×Vec×Int):Option ((Vec×Vec×Int) ⊕ (Vec ⊕ (Vec×Vec))):=
 bif decide (t.2.2≥0)then
 (inb t.2.2 up.length).bind λi1=>
 (up[i1]?).bind λx2=>
 (fJ s.Conf x2).bind λx3=>
 (
  bif ! x3.2 then
  some true
  else
  bif decide (label<0)then
   some true
  else
   some (decide (label≥(x3.1.Caps.length:Int)))).bind λq=>
 bif q then
  some (.inr (.inl (⟨0,0⟩:Vec)))
 else
  (inb label x3.1.Caps.length).bind λi2=>
  (x3.1.Caps[i2]?).bind λx4=>
  (part (x4,())).bind λr=>
  (mh t.2.1 r).bind λx5=>
  some (.inl (t.1,x5.1,w64 (t.2.2 - 1)))
 else
 some (.inr (.inr (t.1,t.2.1)))
theorem zF(s:State)(label:Int)(part part_':(TupT fam [.st 1]→Option Int))(h_part:∀a,Lo (part a) (part_' a))(up:List (List UInt8))(t:Vec×Vec×Int):Lo (mT s label part up t) (pG s label part_' up t):=by
 unfold mT pG
 repeat' (first | (with_reducible first | exact js _ _ | exact h_part _ | apply ag | apply ai | refine aj ?_ _ | exact ah _) | (intro _) | exact af | (dsimp only))
def mS(s:State)(path:List UInt8)(label:Int)(part:(TupT fam [.st 1]→Option Int)):Option Vec:=
 (sP path).bind λup=>
 (fJ s.Conf path).bind λx=>
 bif ! x.2 then
 some (⟨0,0⟩:Vec)
 else
 (eV s label).bind λx1=>
 let i:=w64 ((up.length:Int) - 2)
 (itr 4096 (mT s label part up) ((⟨0,0⟩:Vec),x1,i)).bind λq0=>
 match q0 with
 | .inl q1=>
  some q1
 | .inr q2=>
  some q2.2
theorem vF(s:State)(path:List UInt8)(label:Int)(part part_':(TupT fam [.st 1]→Option Int))(h_part:∀a,Lo (part a) (part_' a)):Lo (mS s path label part) (mZ s path label part_'):=by
 unfold mS mZ
 repeat' (first | (with_reducible first | exact Aw _ | exact js _ _ | exact jE _ _ | refine zF _ _ _ _ ?_ _ _ | exact h_part _ | apply az | apply aC | apply aA | apply ag | apply ai | refine aj ?_ _ | exact ah _) | (intro _) | exact af | (dsimp only))
def dB(s:State)(path:List UInt8)(label:Int):Option Vec:=
 (mS s path label (λa'=>g_ a'.1)).bind λx=>
 some x
theorem fW(s:State)(path:List UInt8)(label:Int):Lo (dB s path label) (d4 s path label):=by
 unfold dB d4
 repeat' (first | (with_reducible first | refine vF _ _ _ _ _ ?_ | apply ag | apply ai | refine aj ?_ _ | exact ah _) | (intro _) | exact af | (dsimp only))
def gZ(t:Attempt)(a:App)(x:Ask):Option Bool:=
 (bY t.s a.Queue t.n.Label).bind λx1=>
 (dC x1 x.Size).bind λx2=>
 bif x2.2 == 0 then
 (dB t.s a.Queue t.n.Label).bind λx3=>
 (cf x2.1 x3).bind λx4=>
 some x4
 else
 some false
theorem uG(t:Attempt)(a:App)(x:Ask):Lo (gZ t a x) (eW t a x):=by
 unfold gZ eW
 repeat' (first | (with_reducible first | exact cI _ _ _ | exact fW _ _ _ | apply ag | apply ai | refine aj ?_ _ | exact ah _) | (intro _) | exact af | (dsimp only))
def kO(s:State)(path:List UInt8)(label:Int)(user:Int):Option Vec:=
 bif user == (-1)then
 some (⟨0,0⟩:Vec)
 else
 (fU (⟨⟨⟨s.Conf.Labels,s.Conf.Queues⟩,s.Nodes,s.Apps,s.Conts,s.Slots,s.Plans,s.Now,s.Epoch,s.Seq⟩,path,label,user⟩:View)).bind λx=>
 some x
theorem yx(s:State)(path:List UInt8)(label:Int)(user:Int):Lo (kO s path label user) (jH s path label user):=by
 unfold kO jH
 repeat' (first | (with_reducible first | exact pu _ | apply ag | apply ai | refine aj ?_ _ | exact ah _) | (intro _) | exact af | (dsimp only))
def r_(s:State)(path:List UInt8)(label:Int):Option Vec:=
 (fJ s.Conf path).bind λx=>
 (dB s path label).bind λx1=>
 (mh x1 x.1.User).bind λx2=>
 some x2.1
theorem CH(s:State)(path:List UInt8)(label:Int):Lo (r_ s path label) (qI s path label):=by
 unfold r_ qI
 repeat' (first | (with_reducible first | exact js _ _ | exact fW _ _ _ | apply ag | apply ai | refine aj ?_ _ | exact ah _) | (intro _) | exact af | (dsimp only))
def fX(t:Attempt)(a:App):Option Bool:=
 (kO t.s a.Queue t.n.Label a.User).bind λx=>
 (r_ t.s a.Queue t.n.Label).bind λx1=>
 (cf x x1).bind λx2=>
 some x2
theorem to(t:Attempt)(a:App):Lo (fX t a) (eu t a):=by
 unfold fX eu
 repeat' (first | (with_reducible first | exact yx _ _ _ _ | exact CH _ _ _ | apply ag | apply ai | refine aj ?_ _ | exact ah _) | (intro _) | exact af | (dsimp only))
def lQ(s:State)(path:List UInt8)(label:Int):Option Vec:=
 (mS s path label (λa'=>iE a'.1)).bind λx=>
 some x
theorem vJ(s:State)(path:List UInt8)(label:Int):Lo (lQ s path label) (nh s path label):=by
 unfold lQ nh
 repeat' (first | (with_reducible first | refine vF _ _ _ _ _ ?_ | apply ag | apply ai | refine aj ?_ _ | exact ah _) | (intro _) | exact af | (dsimp only))
def rh(s:State)(label:Int):Option Vec:=
 (itr 4096 (vL s label) ([],0)).bind λl2=>
 (oC l2).bind λx1=>
 some x1
theorem CK(s:State)(label:Int):Lo (rh s label) (qy s label):=by
 unfold rh qy
 repeat' (first | (with_reducible first | exact xu _ | apply ag | apply ai | refine aj ?_ _ | exact ah _) | (intro _) | exact af | (dsimp only))
def l_(s:State)(label:Int)(size:Vec)(x:List (List UInt8))(t:Int):Option (Int ⊕ (Bool ⊕ Unit)):=
 bif decide (t<(x.length:Int))then
 (inb t x.length).bind λi=>
 (x[i]?).bind λx1=>
 (bY s x1 label).bind λx2=>
 (dC x2 size).bind λx3=>
 (
  bif x3.2 != 0 then
  some true
  else
  (lQ s x1 label).bind λx4=>
  (cf x3.1 x4).bind λx5=>
  some (! x5)).bind λq=>
 bif q then
  some (.inr (.inl false))
 else
  (eV s label).bind λx6=>
  (rh s label).bind λx7=>
  (
  bif x1 == ([114,111,111,116]:List UInt8)then
   bif ! (((imax (w64 (x6.Mem - x7.Mem)) 0) == x6.Mem)&&((imax (w64 (x6.Cores - x7.Cores)) 0) == x6.Cores))then
   (cf x3.1 (⟨imax (w64 (x6.Mem - x7.Mem)) 0,imax (w64 (x6.Cores - x7.Cores)) 0⟩:Vec)).bind λx8=>
   some (! x8)
   else
   some false
  else
   some false).bind λq1=>
  bif q1 then
  some (.inr (.inl false))
  else
  some (.inl (w64 (t+1)))
 else
 some (.inr (.inr ()))
theorem zr(s:State)(label:Int)(size:Vec)(x:List (List UInt8))(t:Int):Lo (l_ s label size x t) (pQ s label size x t):=by
 unfold l_ pQ
 repeat' (first | (with_reducible first | exact cI _ _ _ | exact vJ _ _ _ | exact jE _ _ | exact CK _ _ | apply ag | apply ai | refine aj ?_ _ | exact ah _) | (intro _) | exact af | (dsimp only))
def sn(s:State)(path:List UInt8)(label:Int)(size:Vec):Option Bool:=
 (sP path).bind λx=>
 (itr 4096 (l_ s label size x) 0).bind λq0=>
 match q0 with
 | .inl q2=>
 some q2
 | .inr _=>
 some true
theorem CB(s:State)(path:List UInt8)(label:Int)(size:Vec):Lo (sn s path label size) (qA s path label size):=by
 unfold sn qA
 repeat' (first | (with_reducible first | exact Aw _ | exact zr _ _ _ _ _ | apply az | apply aC | apply aA | apply ag | apply ai | refine aj ?_ _ | exact ah _) | (intro _) | exact af | (dsimp only))
def f_(t:Attempt)(a:App)(x:Ask):Option Bool:=
 (sn t.s a.Queue t.n.Label x.Size).bind λx1=>
 some x1
theorem tH(t:Attempt)(a:App)(x:Ask):Lo (f_ t a x) (eD t a x):=by
 unfold f_ eD
 repeat' (first | (with_reducible first | exact CB _ _ _ _ | apply ag | apply ai | refine aj ?_ _ | exact ah _) | (intro _) | exact af | (dsimp only))
def qC(s:State)(a:App):Option State:=
 (lp s a.Id).bind λi=>
 bif decide (i≥0)then
 (inb i s.Apps.length).bind λi1=>
 (s.Apps[i1]?).bind λx=>
 some (⟨⟨s.Conf.Labels,s.Conf.Queues⟩,s.Nodes,List.set s.Apps i1 a,s.Conts,s.Slots,s.Plans,s.Now,s.Epoch,s.Seq⟩:State)
 else
 (itr 4096 (yZ s a) 0).bind λk1=>
 (sf s.Apps k1 [a]).bind λx2=>
 some (⟨⟨s.Conf.Labels,s.Conf.Queues⟩,s.Nodes,x2,s.Conts,s.Slots,s.Plans,s.Now,s.Epoch,s.Seq⟩:State)
theorem yU(s:State)(a:App):Lo (qC s a) (r7 s a):=by
 unfold qC r7
 repeat' (first | (with_reducible first | exact qD _ _ | apply ag | apply ai | refine aj ?_ _ | exact ah _) | (intro _) | exact af | (dsimp only))
def qJ(s:State)(a:App):Option State:=
 (mb s).bind λx=>
 (kS a).bind λx1=>
 (qC x x1).bind λx2=>
 some x2
theorem yR(s:State)(a:App):Lo (qJ s a) (rE s a):=by
 unfold qJ rE
 repeat' (first | (with_reducible first | exact vG _ | exact yU _ _ | apply ag | apply ai | refine aj ?_ _ | exact ah _) | (intro _) | exact af | (dsimp only))
def j6(s:List Ask)(f:(TupT fam [.st 5]→Option Bool))(t:Int):Option (Int ⊕ (Int ⊕ Unit)):=
 bif decide (t<(s.length:Int))then
 (idx s t).bind λx=>
 (f (x,())).bind λr=>
 bif r then
  some (.inr (.inl t))
 else
  some (.inl (w64 (t+1)))
 else
 some (.inr (.inr ()))
theorem wq(s:List Ask)(f f_':(TupT fam [.st 5]→Option Bool))(h_f:∀a,Lo (f a) (f_' a))(t:Int):Lo (j6 s f t) (mX s f_' t):=by
 unfold j6 mX
 repeat' (first | (with_reducible first | exact h_f _ | apply ag | apply ai | refine aj ?_ _ | exact ah _) | (intro _) | exact af | (dsimp only))
def jI(s:List Ask)(f:(TupT fam [.st 5]→Option Bool)):Option Int:=
 (itr 4096 (j6 s f) 0).bind λq0=>
 match q0 with
 | .inl q=>
 some q
 | .inr _=>
 some (-1)
theorem sI(s:List Ask)(f f_':(TupT fam [.st 5]→Option Bool))(h_f:∀a,Lo (f a) (f_' a)):Lo (jI s f) (jm s f_'):=by
 unfold jI jm
 repeat' (first | (with_reducible first | refine wq _ _ _ ?_ _ | exact h_f _ | apply az | apply aC | apply aA | apply ag | apply ai | refine aj ?_ _ | exact ah _) | (intro _) | exact af | (dsimp only))
def wG(l:List Ask)(prio:Int):Option Int:=
 (jI l (λa'=>wN a'.1 prio)).bind λx=>
 some x
theorem Fy(l:List Ask)(prio:Int):Lo (wG l prio) (xY l prio):=by
 unfold wG xY
 repeat' (first | (with_reducible first | refine sI _ _ _ ?_ | apply ag | apply ai | refine aj ?_ _ | exact ah _) | (intro _) | exact af | (dsimp only))
def tO(l:List Ask)(prio:Int):Option (List Ask×Bool):=
 (rg l).bind λout=>
 (wG out prio).bind λi=>
 bif decide (i<0)then
 some (out,false)
 else
 (inb i out.length).bind λi1=>
 (out[i1]?).bind λx=>
 (inb i (List.set out i1 (⟨x.Prio,x.Label,⟨x.Size.Mem,x.Size.Cores⟩,x.Count,x.Node,x.Rack,0⟩:Ask)).length).bind λi2=>
 ((List.set out i1 (⟨x.Prio,x.Label,⟨x.Size.Mem,x.Size.Cores⟩,x.Count,x.Node,x.Rack,0⟩:Ask))[i2]?).bind λx1=>
 (inb i (List.set out i1 (⟨x.Prio,x.Label,⟨x.Size.Mem,x.Size.Cores⟩,x.Count,x.Node,x.Rack,0⟩:Ask)).length).bind λi3=>
 ((List.set out i1 (⟨x.Prio,x.Label,⟨x.Size.Mem,x.Size.Cores⟩,x.Count,x.Node,x.Rack,0⟩:Ask))[i3]?).bind λx2=>
 (
  (inb i (List.set (List.set out i1 (⟨x.Prio,x.Label,⟨x.Size.Mem,x.Size.Cores⟩,x.Count,x.Node,x.Rack,0⟩:Ask)) i3 (⟨x2.Prio,x2.Label,⟨x2.Size.Mem,x2.Size.Cores⟩,w64 (x1.Count - 1),x2.Node,x2.Rack,x2.Missed⟩:Ask)).length).bind λi4=>
  ((List.set (List.set out i1 (⟨x.Prio,x.Label,⟨x.Size.Mem,x.Size.Cores⟩,x.Count,x.Node,x.Rack,0⟩:Ask)) i3 (⟨x2.Prio,x2.Label,⟨x2.Size.Mem,x2.Size.Cores⟩,w64 (x1.Count - 1),x2.Node,x2.Rack,x2.Missed⟩:Ask))[i4]?).bind λx3=>
  bif decide (x3.Count≤0)then
  (rv (List.set (List.set out i1 (⟨x.Prio,x.Label,⟨x.Size.Mem,x.Size.Cores⟩,x.Count,x.Node,x.Rack,0⟩:Ask)) i3 (⟨x2.Prio,x2.Label,⟨x2.Size.Mem,x2.Size.Cores⟩,w64 (x1.Count - 1),x2.Node,x2.Rack,x2.Missed⟩:Ask)) i (w64 (i+1))).bind λout1=>
  some out1
  else
  some (List.set (List.set out i1 (⟨x.Prio,x.Label,⟨x.Size.Mem,x.Size.Cores⟩,x.Count,x.Node,x.Rack,0⟩:Ask)) i3 (⟨x2.Prio,x2.Label,⟨x2.Size.Mem,x2.Size.Cores⟩,w64 (x1.Count - 1),x2.Node,x2.Rack,x2.Missed⟩:Ask))).bind λout2=>
 some (out2,true)
theorem Ea(l:List Ask)(prio:Int):Lo (tO l prio) (sW l prio):=by
 unfold tO sW
 repeat' (first | (with_reducible first | exact Fy _ _ | apply ag | apply ai | refine aj ?_ _ | exact ah _) | (intro _) | exact af | (dsimp only))
def fF(t:Attempt)(a:App)(x:Ask):Option (Cont×Attempt):=
 (tO a.Asks x.Prio).bind λx1=>
 (
 bif a.State == 1 then
  some (⟨a.Id,2,a.Queue,a.User,a.Prio,⟨a.Master.Mem,a.Master.Cores⟩,[],t.s.Now,0,a.Grants,a.Kills,a.Told,a.Lost⟩:App)
 else
  (app 8 a.Grants [w64 ((shlK .i64 t.s.Epoch 20)+(w64 (t.s.Seq+1)))]).bind λl=>
  some (⟨a.Id,a.State,a.Queue,a.User,a.Prio,⟨a.Master.Mem,a.Master.Cores⟩,x1.1,a.Seen,a.Beat,l,a.Kills,a.Told,a.Lost⟩:App)).bind λa1=>
 (qJ (⟨⟨t.s.Conf.Labels,t.s.Conf.Queues⟩,t.s.Nodes,t.s.Apps,t.s.Conts,t.s.Slots,t.s.Plans,t.s.Now,t.s.Epoch,w64 (t.s.Seq+1)⟩:State) a1).bind λx2=>
 (itr 4096 (jP t x2) 0).bind λk1=>
 (qj x2.Conts k1 [(⟨w64 ((shlK .i64 t.s.Epoch 20)+(w64 (t.s.Seq+1))),a.Id,t.n.Id,⟨x.Size.Mem,x.Size.Cores⟩,x.Prio,x.Label,a.State == 1,0⟩:Cont)]).bind λx4=>
 some ((⟨w64 ((shlK .i64 t.s.Epoch 20)+(w64 (t.s.Seq+1))),a.Id,t.n.Id,⟨x.Size.Mem,x.Size.Cores⟩,x.Prio,x.Label,a.State == 1,0⟩:Cont),(⟨⟨⟨x2.Conf.Labels,x2.Conf.Queues⟩,x2.Nodes,x2.Apps,x4,x2.Slots,x2.Plans,x2.Now,x2.Epoch,x2.Seq⟩,⟨t.n.Id,t.n.Label,t.n.Rack,⟨t.n.Cap.Mem,t.n.Cap.Cores⟩,t.n.Seen,t.n.Beat,t.n.Up⟩,⟨t.free.Mem,t.free.Cores⟩⟩:Attempt))
theorem sG(t:Attempt)(a:App)(x:Ask):Lo (fF t a x) (dY t a x):=by
 unfold fF dY
 repeat' (first | (with_reducible first | exact Ea _ _ | exact yR _ _ | apply ag | apply ai | refine aj ?_ _ | exact ah _) | (intro _) | exact af | (dsimp only))
def gp(t:Attempt):Option (Int×Cont×Bool×Attempt):=
 (oN t.s.Slots (λa'=>none)).bind λi=>
 bif decide (i<0)then
 some (0,(⟨0,0,0,⟨0,0⟩,0,0,false,0⟩:Cont),false,t)
 else
 (inb i t.s.Slots.length).bind λi1=>
 (t.s.Slots[i1]?).bind λx=>
 (d6 t.s x.App).bind λx1=>
 none
theorem tj(t:Attempt):Lo (gp t) (ew t):=by
 unfold gp ew
 repeat' (first | (with_reducible first | refine xF _ _ _ ?_ | exact gC _ _ | apply ag | apply ai | refine aj ?_ _ | exact ah _) | (intro _) | exact af | (dsimp only))
def pD(s:List Load)(f:(TupT fam [.st 15,.st 15]→Option Int)):Option (List Load):=sortG (F:=fam) (.st 15) f s
theorem Bb(s:List Load)(f f_':(TupT fam [.st 15,.st 15]→Option Int))(h_f:∀a,Lo (f a) (f_' a)):Lo (pD s f) (oF s f_'):=by
 unfold pD oF
 repeat' (first | (with_reducible first | refine H3 ?_ _ | exact h_f _ | apply ag | apply ai | refine aj ?_ _ | exact ah _) | (intro _) | exact af | (dsimp only))
def p_(vals:List Int):Option Int:=
 (itr 4096 (uF vals) 0).bind λq0=>
 match q0 with
 | .inl q=>
 some q
 | .inr _=>
 some 0
theorem BF(vals:List Int):Lo (p_ vals) (oV vals):=by
 unfold p_ oV
 repeat' (first | (with_reducible first | apply az | apply aC | apply aA | apply ag | apply ai | refine aj ?_ _ | exact ah _) | (intro _) | exact af | (dsimp only))
def gQ(a:Load)(b:Load):Option Int:=
 (uM a.used a.least b.used b.least).bind λx=>
 (eE a.path b.path).bind λx1=>
 (p_ [x,x1]).bind λx2=>
 some x2
theorem uj(a:Load)(b:Load):Lo (gQ a b) (fm a b):=by
 unfold gQ fm
 repeat' (first | (with_reducible first | exact BF _ | apply ag | apply ai | refine aj ?_ _ | exact ah _) | (intro _) | exact af | (dsimp only))
def mH(s:State)(label:Int)(x:List (List UInt8))(t:List Load×Int):Option ((List Load×Int) ⊕ List Load):=
 bif decide (t.2<(x.length:Int))then
 (inb t.2 x.length).bind λi=>
 (x[i]?).bind λx1=>
 (bY s x1 label).bind λx2=>
 (dB s x1 label).bind λx3=>
 (app 48 t.1 [(⟨x1,⟨x2.Mem,x2.Cores⟩,⟨x3.Mem,x3.Cores⟩⟩:Load)]).bind λl=>
 some (.inl (l,w64 (t.2+1)))
 else
 some (.inr t.1)
theorem zj(s:State)(label:Int)(x:List (List UInt8))(t:List Load×Int):Lo (mH s label x t) (qb s label x t):=by
 unfold mH qb
 repeat' (first | (with_reducible first | exact cI _ _ _ | exact fW _ _ _ | apply ag | apply ai | refine aj ?_ _ | exact ah _) | (intro _) | exact af | (dsimp only))
def re(s:State)(path:List UInt8)(label:Int):Option (List (List UInt8)):=
 (ip s.Conf path).bind λx=>
 (itr 4096 (mH s label x) ([],0)).bind λl1=>
 (pD l1 (λa'=>gQ a'.1 a'.2.1)).bind λx4=>
 (mkl 16 (x4.length:Int) (x4.length:Int) []).bind λl2=>
 (itr 4096 (vH x4) (l2,0)).bind λout=>
 some out
theorem Cw(s:State)(path:List UInt8)(label:Int):Lo (re s path label) (qu s path label):=by
 unfold re qu
 repeat' (first | (with_reducible first | exact lZ _ _ | exact zj _ _ _ _ | refine Bb _ _ _ ?_ | exact uj _ _ | apply ag | apply ai | refine aj ?_ _ | exact ah _) | (intro _) | exact af | (dsimp only))
def i_(s:State)(label:Int)(deep:Int)(self:State→(List UInt8)→Int→Int→Option (List (List UInt8)))(kids:List (List UInt8))(t:List (List UInt8)×Int):Option ((List (List UInt8)×Int) ⊕ List (List UInt8)):=
 bif decide (t.2<(kids.length:Int))then
 (inb t.2 kids.length).bind λi=>
 (kids[i]?).bind λx=>
 (self s x label (w64 (deep+1))).bind λx1=>
 (app 16 t.1 x1).bind λl=>
 some (.inl (l,w64 (t.2+1)))
 else
 some (.inr t.1)
theorem vR(s:State)(label:Int)(deep:Int)(self self_':State→(List UInt8)→Int→Int→Option (List (List UInt8)))(h_self:∀(a0:State)(a1:(List UInt8)) (a2:Int) (a3:Int),Lo (self a0 a1 a2 a3) (self_' a0 a1 a2 a3))(kids:List (List UInt8))(t:List (List UInt8)×Int):Lo (i_ s label deep self kids t) (lj s label deep self_' kids t):=by
 unfold i_ lj
 repeat' (first | (with_reducible first | refine h_self _ _ _ _ | apply ag | apply ai | refine aj ?_ _ | exact ah _) | (intro _) | exact af | (dsimp only))
def mn(self:State→(List UInt8)→Int→Int→Option (List (List UInt8)))(s:State)(path:List UInt8)(label:Int)(deep:Int):Option (List (List UInt8)):=
 (re s path label).bind λkids=>
 (
 bif(kids.length:Int) == 0 then
  some true
 else
  some (decide (deep>4))).bind λq=>
 bif q then
 some [path]
 else
 (itr 4096 (i_ s label deep self kids) ([],0)).bind λout=>
 some out
theorem zC(self self_':State→(List UInt8)→Int→Int→Option (List (List UInt8)))(h_self:∀(a0:State)(a1:(List UInt8)) (a2:Int) (a3:Int),Lo (self a0 a1 a2 a3) (self_' a0 a1 a2 a3))(s:State)(path:List UInt8)(label:Int)(deep:Int):Lo (mn self s path label deep) (qe self_' s path label deep):=by
 unfold mn qe
 repeat' (first | (with_reducible first | exact Cw _ _ _ | refine vR _ _ _ _ _ ?_ _ _ | refine h_self _ _ _ _ | apply ag | apply ai | refine aj ?_ _ | exact ah _) | (intro _) | exact af | (dsimp only))
def iP:Nat→State→(List UInt8)→Int→Int→Option (List (List UInt8))
 | 0=>λ_ _ _ _=>none
 | n+1=>mn (iP n)
theorem rt:∀(n:Nat),∀(a0:State)(a1:List UInt8)(a2:Int)(a3:Int),Lo (iP n a0 a1 a2 a3) (ig n a0 a1 a2 a3)
 | 0=>λ_ _ _ _=>af
 | n+1=>λa0 a1 a2 a3=>zC (iP n) (ig n) (rt n) a0 a1 a2 a3
def pS(a0:State)(a1:List UInt8)(a2:Int)(a3:Int):Option (List (List UInt8)):=iP 64 a0 a1 a2 a3
theorem Bq(a0:State)(a1:List UInt8)(a2:Int)(a3:Int):Lo (pS a0 a1 a2 a3) (oI a0 a1 a2 a3):=by
 unfold pS oI
 repeat' (first | (with_reducible first | refine rt _ _ _ _ _ | apply ag | apply ai | refine aj ?_ _ | exact ah _) | (intro _) | exact af | (dsimp only))
def nV(s:State)(label:Int):Option (List (List UInt8)):=
 (pS s ([114,111,111,116]:List UInt8) label 1).bind λx=>
 some x
theorem AI(s:State)(label:Int):Lo (nV s label) (mr s label):=by
 unfold nV mr
 repeat' (first | (with_reducible first | exact Bq _ _ _ _ | apply ag | apply ai | refine aj ?_ _ | exact ah _) | (intro _) | exact af | (dsimp only))
def qo(a:Int)(cmp:(TupT fam [.st 6,.st 6]→Option Int))(t1:List App×Int):Option ((List App×Int) ⊕ List App):=none
theorem xr(a:Int)(cmp cmp_':(TupT fam [.st 6,.st 6]→Option Int))(h_cmp:∀a,Lo (cmp a) (cmp_' a))(t1:List App×Int):Lo (qo a cmp t1) (sX a cmp_' t1):=af
def ka(a:Int)(b:Int)(cmp:(TupT fam [.st 6,.st 6]→Option Int))(t:List App×Int):Option ((List App×Int) ⊕ List App):=
 bif decide (t.2<b)then
 (itr 4096 (qo a cmp) (t.1,t.2)).bind λdata1=>
 some (.inl (data1,w64 (t.2+1)))
 else
 some (.inr t.1)
theorem xp(a:Int)(b:Int)(cmp cmp_':(TupT fam [.st 6,.st 6]→Option Int))(h_cmp:∀a,Lo (cmp a) (cmp_' a))(t:List App×Int):Lo (ka a b cmp t) (mA a b cmp_' t):=by
 unfold ka mA
 repeat' (first | (with_reducible first | refine xr _ _ _ ?_ _ | exact h_cmp _ | apply ag | apply ai | refine aj ?_ _ | exact ah _) | (intro _) | exact af | (dsimp only))
def jF(data:List App)(a:Int)(b:Int)(cmp:(TupT fam [.st 6,.st 6]→Option Int)):Option (List App):=
 (itr 4096 (ka a b cmp) (data,w64 (a+1))).bind λdata2=>
 some data2
theorem sH(data:List App)(a:Int)(b:Int)(cmp cmp_':(TupT fam [.st 6,.st 6]→Option Int))(h_cmp:∀a,Lo (cmp a) (cmp_' a)):Lo (jF data a b cmp) (jr data a b cmp_'):=by
 unfold jF jr
 repeat' (first | (with_reducible first | refine xp _ _ _ _ ?_ _ | exact h_cmp _ | apply ag | apply ai | refine aj ?_ _ | exact ah _) | (intro _) | exact af | (dsimp only))
def ux(a0:List App)(a1:Int)(a2:Int)(a3:Int)(a4:(TupT fam [.st 6,.st 6]→Option Int)):Option (List App):=none
theorem Ax(a0:List App)(a1:Int)(a2:Int)(a3:Int)(a4 a4_':(TupT fam [.st 6,.st 6]→Option Int))(h_a4:∀a,Lo (a4 a) (a4_' a)):Lo (ux a0 a1 a2 a3 a4) (lR a0 a1 a2 a3 a4_'):=af
def qp(n:Int)(cmp:(TupT fam [.st 6,.st 6]→Option Int))(t1:List App×Int)(t2:List App×Int×Int):Option ((List App×Int×Int) ⊕ ((List App×Int))):=none
theorem xI(n:Int)(cmp cmp_':(TupT fam [.st 6,.st 6]→Option Int))(h_cmp:∀a,Lo (cmp a) (cmp_' a))(t1:List App×Int)(t2:List App×Int×Int):Lo (qp n cmp t1 t2) (sR n cmp_' t1 t2):=af
def jZ(n:Int)(cmp:(TupT fam [.st 6,.st 6]→Option Int))(t1:List App×Int):Option ((List App×Int) ⊕ List App):=
 bif decide (t1.2<n)then
 (itr 4096 (qp n cmp t1) (t1.1,0,w64 (2*t1.2))).bind λq1=>
 (
  let m:=w64 (q1.2+t1.2)
  bif decide (m<n)then
  (ux q1.1 q1.2 m n cmp).bind λx3=>
  some x3
  else
  some q1.1).bind λdata1=>
 some (.inl (data1,w64 (t1.2*2)))
 else
 some (.inr t1.1)
theorem wJ(n:Int)(cmp cmp_':(TupT fam [.st 6,.st 6]→Option Int))(h_cmp:∀a,Lo (cmp a) (cmp_' a))(t1:List App×Int):Lo (jZ n cmp t1) (mF n cmp_' t1):=by
 unfold jZ mF
 repeat' (first | (with_reducible first | refine xI _ _ _ ?_ _ _ | refine Ax _ _ _ _ _ _ ?_ | exact h_cmp _ | apply ag | apply ai | refine aj ?_ _ | exact ah _) | (intro _) | exact af | (dsimp only))
def jV(n:Int)(cmp:(TupT fam [.st 6,.st 6]→Option Int))(t:List App×Int×Int):Option ((List App×Int×Int) ⊕ ((List App×Int))):=
 bif decide (t.2.2≤n)then
 (jF t.1 t.2.1 t.2.2 cmp).bind λx=>
 some (.inl (x,t.2.2,w64 (t.2.2+20)))
 else
 some (.inr (t.1,t.2.1))
theorem wO(n:Int)(cmp cmp_':(TupT fam [.st 6,.st 6]→Option Int))(h_cmp:∀a,Lo (cmp a) (cmp_' a))(t:List App×Int×Int):Lo (jV n cmp t) (lW n cmp_' t):=by
 unfold jV lW
 repeat' (first | (with_reducible first | refine sH _ _ _ _ _ ?_ | exact h_cmp _ | apply ag | apply ai | refine aj ?_ _ | exact ah _) | (intro _) | exact af | (dsimp only))
def nH(data:List App)(n:Int)(cmp:(TupT fam [.st 6,.st 6]→Option Int)):Option (List App):=
 (itr 4096 (jV n cmp) (data,0,20)).bind λq=>
 (jF q.1 q.2 n cmp).bind λx1=>
 (itr 4096 (jZ n cmp) (x1,20)).bind λdata2=>
 some data2
theorem Az(data:List App)(n:Int)(cmp cmp_':(TupT fam [.st 6,.st 6]→Option Int))(h_cmp:∀a,Lo (cmp a) (cmp_' a)):Lo (nH data n cmp) (m7 data n cmp_'):=by
 unfold nH m7
 repeat' (first | (with_reducible first | refine wO _ _ _ ?_ _ | refine sH _ _ _ _ _ ?_ | refine wJ _ _ _ ?_ _ | exact h_cmp _ | apply ag | apply ai | refine aj ?_ _ | exact ah _) | (intro _) | exact af | (dsimp only))
def nB(x:List App)(cmp:(TupT fam [.st 6,.st 6]→Option Int)):Option (List App):=
 (nH x (x.length:Int) cmp).bind λx1=>
 some x1
theorem zW(x:List App)(cmp cmp_':(TupT fam [.st 6,.st 6]→Option Int))(h_cmp:∀a,Lo (cmp a) (cmp_' a)):Lo (nB x cmp) (mM x cmp_'):=by
 unfold nB mM
 repeat' (first | (with_reducible first | refine Az _ _ _ _ ?_ | exact h_cmp _ | apply ag | apply ai | refine aj ?_ _ | exact ah _) | (intro _) | exact af | (dsimp only))
def sv(s:State)(queue:List UInt8):Option (List Int):=
 (itr 4096 (vv s queue) ([],0)).bind λl2=>
 (nB l2 (λa'=>se a'.1 a'.2.1)).bind λx2=>
 (mkl 8 (x2.length:Int) (x2.length:Int) 0).bind λl3=>
 (itr 4096 (vB x2) (l3,0)).bind λout=>
 some out
theorem CM(s:State)(queue:List UInt8):Lo (sv s queue) (qL s queue):=by
 unfold sv qL
 repeat' (first | (with_reducible first | refine zW _ _ _ ?_ | apply ag | apply ai | refine aj ?_ _ | exact ah _) | (intro _) | exact af | (dsimp only))
def dS(first:Bool)(may:(TupT fam [.st 5,.st 4]→Option Bool))(x5:List Ask)(t3:Attempt×Cont×App×Int):Option ((Attempt×Cont×App×Int) ⊕ ((Attempt×Int×Cont) ⊕ (Attempt×Cont))):=
 bif decide (t3.2.2.2<(x5.length:Int))then
 (
  (inb t3.2.2.2 x5.length).bind λi1=>
  (x5[i1]?).bind λx6=>
  (gZ t3.1 t3.2.2.1 x6).bind λdue=>
  (
  (hZ t3.1 x6).bind λx7=>
  bif ! x7 then
   some true
  else
   bif first then
   some (! due)
   else
   some false).bind λq=>
  bif q then
  some (.inl (t3.1,t3.2.1,t3.2.2.1))
  else
  (may (x6,t3.1.n,())).bind λr=>
  bif ! r then
   bif first == due then
   none
   else
   some (.inl (t3.1,t3.2.1,t3.2.2.1))
  else
   (f_ t3.1 t3.2.2.1 x6).bind λx8=>
   bif ! x8 then
   some (.inl (t3.1,t3.2.1,t3.2.2.1))
   else
   (iC t3.1 x6).bind λx9=>
   bif x9 then
    (fF t3.1 t3.2.2.1 x6).bind λx10=>
    some (.inr (x10.2,1,x10.1))
   else
    bif first then
    none
    else
    some (.inl (t3.1,t3.2.1,t3.2.2.1)):Option ((Attempt×Cont×App) ⊕ (Attempt×Int×Cont))).bind λq0=>
 match q0 with
 | .inl q1=>
  some (.inl (q1.1,q1.2.1,q1.2.2,w64 (t3.2.2.2+1)))
 | .inr q2=>
  some (.inr (.inl (q2.1,q2.2.1,q2.2.2)))
 else
 some (.inr (.inr (t3.1,t3.2.1)))
theorem pX(first:Bool)(may may_':(TupT fam [.st 5,.st 4]→Option Bool))(h_may:∀a,Lo (may a) (may_' a))(x5:List Ask)(t3:Attempt×Cont×App×Int):Lo (dS first may x5 t3) (eL first may_' x5 t3):=by
 unfold dS eL
 repeat' (first | (with_reducible first | exact uG _ _ _ | exact tH _ _ _ | exact sG _ _ _ | exact h_may _ | apply az | apply aC | apply aA | apply ag | apply ai | refine aj ?_ _ | exact ah _) | (intro _) | exact af | (dsimp only))
def dV(first:Bool)(may:(TupT fam [.st 5,.st 4]→Option Bool))(x1:List Int)(t2:Attempt×Cont×Int):Option ((Attempt×Cont×Int) ⊕ ((Attempt×Int×Cont) ⊕ (Attempt×Cont) ⊕ (Attempt×Cont))):=
 bif decide (t2.2.2<(x1.length:Int))then
 (
  (inb t2.2.2 x1.length).bind λi=>
  (x1[i]?).bind λx2=>
  (d6 t2.1.s x2).bind λx3=>
  bif ! x3.2 then
  some (.inr (.inr (t2.1,t2.2.1)))
  else
  (fX t2.1 x3.1).bind λx4=>
  bif ! x4 then
   some (.inl (t2.1,t2.2.1))
  else
   (rF x3.1.Asks).bind λx5=>
   (itr 4096 (dS first may x5) (t2.1,t2.2.1,x3.1,0)).bind λq0=>
   match q0 with
   | .inl q3=>
   some (.inr (.inl (q3.1,q3.2.1,q3.2.2)))
   | .inr q4=>
   some (.inl (q4.1,q4.2)):Option ((Attempt×Cont) ⊕ (Attempt×Int×Cont) ⊕ (Attempt×Cont))).bind λq0=>
 match q0 with
 | .inl q5=>
  some (.inl (q5.1,q5.2,w64 (t2.2.2+1)))
 | .inr (.inl q6)=>
  some (.inr (.inl (q6.1,q6.2.1,q6.2.2)))
 | .inr (.inr q7)=>
  some (.inr (.inr (.inl (q7.1,q7.2))))
 else
 some (.inr (.inr (.inr (t2.1,t2.2.1))))
theorem pI(first:Bool)(may may_':(TupT fam [.st 5,.st 4]→Option Bool))(h_may:∀a,Lo (may a) (may_' a))(x1:List Int)(t2:Attempt×Cont×Int):Lo (dV first may x1 t2) (eJ first may_' x1 t2):=by
 unfold dV eJ
 repeat' (first | (with_reducible first | exact gC _ _ | exact to _ _ | refine pX _ _ _ ?_ _ _ | exact h_may _ | apply az | apply aC | apply aA | apply ag | apply ai | refine aj ?_ _ | exact ah _) | (intro _) | exact af | (dsimp only))
def dR(leaves:List (List UInt8))(first:Bool)(may:(TupT fam [.st 5,.st 4]→Option Bool))(t1:Attempt×Cont×Int):Option ((Attempt×Cont×Int) ⊕ ((Attempt×Int×Cont) ⊕ (Attempt×Cont))):=
 bif decide (t1.2.2<(leaves.length:Int))then
 (
  (idx leaves t1.2.2).bind λx=>
  (sv t1.1.s x).bind λx1=>
  (itr 4096 (dV first may x1) (t1.1,t1.2.1,0)).bind λq0=>
  match q0 with
  | .inl q8=>
  some (.inr (q8.1,q8.2.1,q8.2.2))
  | .inr (.inl q9)=>
  some (.inl (q9.1,q9.2))
  | .inr (.inr q10)=>
  some (.inl (q10.1,q10.2)):Option ((Attempt×Cont) ⊕ (Attempt×Int×Cont))).bind λq0=>
 match q0 with
 | .inl q11=>
  some (.inl (q11.1,q11.2,w64 (t1.2.2+1)))
 | .inr q12=>
  some (.inr (.inl (q12.1,q12.2.1,q12.2.2)))
 else
 some (.inr (.inr (t1.1,t1.2.1)))
theorem pM(leaves:List (List UInt8))(first:Bool)(may may_':(TupT fam [.st 5,.st 4]→Option Bool))(h_may:∀a,Lo (may a) (may_' a))(t1:Attempt×Cont×Int):Lo (dR leaves first may t1) (eK leaves first may_' t1):=by
 unfold dR eK
 repeat' (first | (with_reducible first | exact CM _ _ | refine pI _ _ _ ?_ _ _ | exact h_may _ | apply az | apply aC | apply aA | apply ag | apply ai | refine aj ?_ _ | exact ah _) | (intro _) | exact af | (dsimp only))
def cZ(t:Attempt)(leaves:List (List UInt8))(first:Bool)(may:(TupT fam [.st 5,.st 4]→Option Bool)):Option (Int×Cont×Attempt):=
 (itr 4096 (dR leaves first may) (t,(⟨0,0,0,⟨0,0⟩,0,0,false,0⟩:Cont),0)).bind λq0=>
 match q0 with
 | .inl q13=>
 some (q13.2.1,q13.2.2,q13.1)
 | .inr q14=>
 some (0,(⟨0,0,0,⟨0,0⟩,0,0,false,0⟩:Cont),q14.1)
theorem sF(t:Attempt)(leaves:List (List UInt8))(first:Bool)(may may_':(TupT fam [.st 5,.st 4]→Option Bool))(h_may:∀a,Lo (may a) (may_' a)):Lo (cZ t leaves first may) (cq t leaves first may_'):=by
 unfold cZ cq
 repeat' (first | (with_reducible first | refine pM _ _ _ _ ?_ _ | exact h_may _ | apply az | apply aC | apply aA | apply ag | apply ai | refine aj ?_ _ | exact ah _) | (intro _) | exact af | (dsimp only))
def eS(t:Attempt):Option (Int×Cont×Attempt):=
 (nV t.s t.n.Label).bind λleaves=>
 (cZ t leaves true (λa'=>pA a'.1 a'.2.1)).bind λx=>
 bif x.1 != 0 then
 some (x.1,x.2.1,x.2.2)
 else
 (cZ x.2.2 leaves false (λa'=>pA a'.1 a'.2.1)).bind λx1=>
 some (x1.1,x1.2.1,x1.2.2)
theorem rR(t:Attempt):Lo (eS t) (dq t):=by
 unfold eS dq
 repeat' (first | (with_reducible first | exact AI _ _ | refine sF _ _ _ _ _ ?_ | apply ag | apply ai | refine aj ?_ _ | exact ah _) | (intro _) | exact af | (dsimp only))
def rO(s:State)(node:Int):Option (State×Int×Cont):=
 (bX s []).bind λx=>
 (go s node).bind λx1=>
 (
 bif ! x1.2 then
  some true
 else
  bif ! x1.1.Up then
  some true
  else
  bif decide ((s.Conts.length:Int)≥200)then
   some true
  else
   some (decide (s.Seq≥1048575))).bind λq=>
 bif q then
 some (x,0,(⟨0,0,0,⟨0,0⟩,0,0,false,0⟩:Cont))
 else
 (rN s node).bind λx2=>
 (gp (⟨⟨⟨x.Conf.Labels,x.Conf.Queues⟩,x.Nodes,x.Apps,x.Conts,x.Slots,x.Plans,x.Now,x.Epoch,x.Seq⟩,⟨x1.1.Id,x1.1.Label,x1.1.Rack,⟨x1.1.Cap.Mem,x1.1.Cap.Cores⟩,x1.1.Seen,x1.1.Beat,x1.1.Up⟩,⟨x2.Mem,x2.Cores⟩⟩:Attempt)).bind λx3=>
 (
  bif ! x3.2.2.1 then
  (eS x3.2.2.2).bind λx4=>
  some (x4.1,x4.2.1,x4.2.2)
  else
  some (x3.1,x3.2.1,x3.2.2.2)).bind λq1=>
 (bX q1.2.2.s []).bind λx5=>
 some (x5,q1.1,q1.2.1)
theorem CA(s:State)(node:Int):Lo (rO s node) (qR s node):=by
 unfold rO qR
 repeat' (first | (with_reducible first | exact gv _ _ | exact kF _ _ | exact Cy _ _ | exact tj _ | exact rR _ | apply ag | apply ai | refine aj ?_ _ | exact ah _) | (intro _) | exact af | (dsimp only))
def kW(node:Int)(t:State×List Cont):Option ((State×List Cont) ⊕ ((State×List Cont))):=
 bif decide ((t.2.length:Int)<3)then
 (rO t.1 node).bind λx1=>
 bif x1.2.1 != 1 then
  some (.inr (x1.1,t.2))
 else
  (app 72 t.2 [x1.2.2]).bind λl=>
  some (.inl (x1.1,l))
 else
 some (.inr (t.1,t.2))
theorem yz(node:Int)(t:State×List Cont):Lo (kW node t) (nX node t):=by
 unfold kW nX
 repeat' (first | (with_reducible first | exact CA _ _ | apply ag | apply ai | refine aj ?_ _ | exact ah _) | (intro _) | exact af | (dsimp only))
def pR(s:State)(node:Int):Option (State×List Cont):=
 (bX s []).bind λx=>
 (itr 4096 (kW node) (x,[])).bind λq=>
 some (q.1,q.2)
theorem BN(s:State)(node:Int):Lo (pR s node) (oP s node):=by
 unfold pR oP
 repeat' (first | (with_reducible first | exact gv _ _ | exact yz _ _ | apply ag | apply ai | refine aj ?_ _ | exact ah _) | (intro _) | exact af | (dsimp only))
def iA(t:Step):Option (Output×Step):=
 (go t.s t.x.Id).bind λx=>
 (
 bif x.2 then
  bif x.1.Up then
  some (t.x.Beat == x.1.Beat)
  else
  some false
 else
  some false).bind λq=>
 bif q then
 (dG t x.1.Id).bind λx1=>
 some ((⟨0,[],x1,[],0⟩:Output),t)
 else
 (rX t.s t.x.Id t.x.Beat).bind λx2=>
 bif x2.2 != 0 then
  none
 else
  (dG t x.1.Id).bind λx3=>
  (bO t.x.Ids).bind λx4=>
  (bu x4 (λa'=>iF a'.1 x3)).bind λended=>
  (bX x2.1 ended).bind λx5=>
  (pR x5 x.1.Id).bind λx6=>
  (dG (⟨⟨⟨x6.1.Conf.Labels,x6.1.Conf.Queues⟩,x6.1.Nodes,x6.1.Apps,x6.1.Conts,x6.1.Slots,x6.1.Plans,x6.1.Now,x6.1.Epoch,x6.1.Seq⟩,⟨t.x.Kind,t.x.Id,t.x.Beat,t.x.N,t.x.Text,⟨t.x.Node.Id,t.x.Node.Label,t.x.Node.Rack,⟨t.x.Node.Cap.Mem,t.x.Node.Cap.Cores⟩,t.x.Node.Seen,t.x.Node.Beat,t.x.Node.Up⟩,⟨t.x.App.Id,t.x.App.State,t.x.App.Queue,t.x.App.User,t.x.App.Prio,⟨t.x.App.Master.Mem,t.x.App.Master.Cores⟩,t.x.App.Asks,t.x.App.Seen,t.x.App.Beat,t.x.App.Grants,t.x.App.Kills,t.x.App.Told,t.x.App.Lost⟩,t.x.Asks,t.x.Ids,⟨t.x.Plan.Id,t.x.Plan.Label,t.x.Plan.From,t.x.Plan.Until,⟨t.x.Plan.Need.Mem,t.x.Plan.Need.Cores⟩⟩⟩⟩:Step) x.1.Id).bind λx7=>
  some ((⟨0,[],x7,[],0⟩:Output),(⟨⟨⟨x6.1.Conf.Labels,x6.1.Conf.Queues⟩,x6.1.Nodes,x6.1.Apps,x6.1.Conts,x6.1.Slots,x6.1.Plans,x6.1.Now,x6.1.Epoch,x6.1.Seq⟩,⟨t.x.Kind,t.x.Id,t.x.Beat,t.x.N,t.x.Text,⟨t.x.Node.Id,t.x.Node.Label,t.x.Node.Rack,⟨t.x.Node.Cap.Mem,t.x.Node.Cap.Cores⟩,t.x.Node.Seen,t.x.Node.Beat,t.x.Node.Up⟩,⟨t.x.App.Id,t.x.App.State,t.x.App.Queue,t.x.App.User,t.x.App.Prio,⟨t.x.App.Master.Mem,t.x.App.Master.Cores⟩,t.x.App.Asks,t.x.App.Seen,t.x.App.Beat,t.x.App.Grants,t.x.App.Kills,t.x.App.Told,t.x.App.Lost⟩,t.x.Asks,t.x.Ids,⟨t.x.Plan.Id,t.x.Plan.Label,t.x.Plan.From,t.x.Plan.Until,⟨t.x.Plan.Need.Mem,t.x.Plan.Need.Cores⟩⟩⟩⟩:Step))
theorem vm(t:Step):Lo (iA t) (fM t):=by
 unfold iA fM
 repeat' (first | (with_reducible first | exact kF _ _ | exact wX _ _ | exact Cx _ _ _ | refine eI _ _ _ ?_ | exact gv _ _ | exact BN _ _ | apply ag | apply ai | refine aj ?_ _ | exact ah _) | (intro _) | exact af | (dsimp only))
def qr(del:(TupT fam [.st 5]→Option Bool))(t:List Ask×Int×Int):Option ((List Ask×Int×Int) ⊕ ((List Ask×Int))):=none
theorem xg(del del_':(TupT fam [.st 5]→Option Bool))(h_del:∀a,Lo (del a) (del_' a))(t:List Ask×Int×Int):Lo (qr del t) (sY del_' t):=af
def nK(s:List Ask)(del:(TupT fam [.st 5]→Option Bool)):Option (List Ask):=
 (jI s del).bind λi=>
 bif i == (-1)then
 some s
 else
 (itr 4096 (qr del) (s,i,w64 (i+1))).bind λq1=>
 (inS q1.2 (q1.1.length:Int) q1.1.length).bind λp=>
 (inS 0 q1.2 (cpy q1.1 p.1 p.2 (List.replicate p.2 (⟨0,0,⟨0,0⟩,0,0,0,0⟩:Ask))).length).bind λp1=>
 some (List.take p1.2 (cpy q1.1 p.1 p.2 (List.replicate p.2 (⟨0,0,⟨0,0⟩,0,0,0,0⟩:Ask))))
theorem A4(s:List Ask)(del del_':(TupT fam [.st 5]→Option Bool))(h_del:∀a,Lo (del a) (del_' a)):Lo (nK s del) (lS s del_'):=by
 unfold nK lS
 repeat' (first | (with_reducible first | refine sI _ _ _ ?_ | refine xg _ _ ?_ _ | exact h_del _ | apply ag | apply ai | refine aj ?_ _ | exact ah _) | (intro _) | exact af | (dsimp only))
def qB(l:List Ask)(a:Ask):Option (List Ask×Int):=
 (rg l).bind λx=>
 (nK x (λa'=>uO a'.1 a)).bind λout=>
 bif a.Count == 0 then
 some (out,0)
 else
 bif decide ((out.length:Int)≥8)then
  some ([],4)
 else
  (itr 4096 (yK a out) 0).bind λk1=>
  (rB out k1 [(⟨a.Prio,a.Label,⟨a.Size.Mem,a.Size.Cores⟩,a.Count,a.Node,a.Rack,0⟩:Ask)]).bind λx2=>
  some (x2,0)
theorem yN(l:List Ask)(a:Ask):Lo (qB l a) (ro l a):=by
 unfold qB ro
 repeat' (first | (with_reducible first | refine A4 _ _ _ ?_ | apply ag | apply ai | refine aj ?_ _ | exact ah _) | (intro _) | exact af | (dsimp only))
def rG(a:App):Option (List Ask):=
 (qB [] (⟨0,0,⟨a.Master.Mem,a.Master.Cores⟩,1,(-1),(-1),0⟩:Ask)).bind λx=>
 some x.1
theorem CG(a:App):Lo (rG a) (qx a):=by
 unfold rG qx
 repeat' (first | (with_reducible first | exact yN _ _ | apply ag | apply ai | refine aj ?_ _ | exact ah _) | (intro _) | exact af | (dsimp only))
def tu(l:List App):Option Int:=
 (itr 4096 (xd l) (0,0)).bind λn1=>
 some n1
theorem DL(l:List App):Lo (tu l) (th l):=by
 unfold tu th
 repeat' (first | (with_reducible first | apply ag | apply ai | refine aj ?_ _ | exact ah _) | (intro _) | exact af | (dsimp only))
def qa(s:State)(a:App):Option (State×Int):=
 (mb s).bind λx=>
 (
 (bV a.Id 0 9999).bind λx1=>
 bif ! x1 then
  some true
 else
  (bV a.User 0 99).bind λx2=>
  bif ! x2 then
  some true
  else
  (bV a.Prio 0 9).bind λx3=>
  bif ! x3 then
   some true
  else
   (bV a.Master.Mem 1 1073741824).bind λx4=>
   bif ! x4 then
   some true
   else
   (bV a.Master.Cores 1 1073741824).bind λx5=>
   some (! x5)).bind λq=>
 bif q then
 some (x,1)
 else
 (lp x a.Id).bind λx6=>
 bif decide (x6≥0)then
  some (x,7)
 else
  (tu x.Apps).bind λx7=>
  bif decide (x7≥16)then
  some (x,4)
  else
  (kA x.Conf a.Queue).bind λx8=>
  bif ! x8 then
   some (x,19)
  else
   (mo x.Apps (λa'=>xa a'.1)).bind λk=>
   (
   bif decide ((x.Apps.length:Int)≥16)then
    some (decide (k≥0))
   else
    some false).bind λq1=>
   bif q1 then
   none
   else
   (rG (⟨a.Id,1,a.Queue,a.User,a.Prio,⟨a.Master.Mem,a.Master.Cores⟩,[],x.Now,0,[],[],[],[]⟩:App)).bind λx9=>
   (qC x (⟨a.Id,1,a.Queue,a.User,a.Prio,⟨a.Master.Mem,a.Master.Cores⟩,x9,x.Now,0,[],[],[],[]⟩:App)).bind λx10=>
   some (x10,0)
theorem Bu(s:State)(a:App):Lo (qa s a) (oR s a):=by
 unfold qa oR
 repeat' (first | (with_reducible first | exact vG _ | exact qD _ _ | exact DL _ | exact si _ _ | refine tF _ _ _ ?_ | exact CG _ | exact yU _ _ | apply ag | apply ai | refine aj ?_ _ | exact ah _) | (intro _) | exact af | (dsimp only))
def eN(t:Step)(ids:List Int)(t1:List Cont×Int):Option ((List Cont×Int) ⊕ List Cont):=
 bif decide (t1.2<(ids.length:Int))then
 (idx ids t1.2).bind λx=>
 (itr 4096 (ls t x) (t1.1,0)).bind λout1=>
 some (.inl (out1,w64 (t1.2+1)))
 else
 some (.inr t1.1)
theorem rT(t:Step)(ids:List Int)(t1:List Cont×Int):Lo (eN t ids t1) (gu t ids t1):=by
 unfold eN gu
 repeat' (first | (with_reducible first | apply ag | apply ai | refine aj ?_ _ | exact ah _) | (intro _) | exact af | (dsimp only))
def cp(t:Step)(ids:List Int):Option (List Cont):=
 (itr 4096 (eN t ids) ([],0)).bind λout2=>
 some out2
theorem lF(t:Step)(ids:List Int):Lo (cp t ids) (ci t ids):=by
 unfold cp ci
 repeat' (first | (with_reducible first | exact rT _ _ _ | apply ag | apply ai | refine aj ?_ _ | exact ah _) | (intro _) | exact af | (dsimp only))
def c9(t:Step)(app_:Int):Option (List Int):=
 (itr 4096 (jQ t app_) ([],0)).bind λout1=>
 some out1
theorem sA(t:Step)(app_:Int):Lo (c9 t app_) (cC t app_):=by
 unfold c9 cC
 repeat' (first | (with_reducible first | apply ag | apply ai | refine aj ?_ _ | exact ah _) | (intro _) | exact af | (dsimp only))
def b8(s:List Int)(f:(TupT fam [.int .i64]→Option Bool)):Option Bool:=
 (bD s f).bind λx=>
 some (decide (x≥0))
theorem kD(s:List Int)(f f_':(TupT fam [.int .i64]→Option Bool))(h_f:∀a,Lo (f a) (f_' a)):Lo (b8 s f) (br s f_'):=by
 unfold b8 br
 repeat' (first | (with_reducible first | refine fa _ _ _ ?_ | exact h_f _ | apply ag | apply ai | refine aj ?_ _ | exact ah _) | (intro _) | exact af | (dsimp only))
def cW(least:Int)(most:Int)(l:List Int):Option Bool:=
 (b8 l (λa'=>uP a'.1 least most)).bind λx=>
 some (! x)
theorem yM(least:Int)(most:Int)(l:List Int):Lo (cW least most l) (ep least most l):=by
 unfold cW ep
 repeat' (first | (with_reducible first | refine kD _ _ _ ?_ | apply ag | apply ai | refine aj ?_ _ | exact ah _) | (intro _) | exact af | (dsimp only))
def sr(a:Ask)(labels:Int):Option Int:=
 (
 (cW 0 9 [a.Prio]).bind λx=>
 bif ! x then
  some true
 else
  (cW 0 (w64 (labels - 1)) [a.Label]).bind λx1=>
  bif ! x1 then
  some true
  else
  (cW 1 1073741824 [a.Size.Mem,a.Size.Cores]).bind λx2=>
  bif ! x2 then
   some true
  else
   (cW (-1) 999 [a.Node]).bind λx3=>
   bif ! x3 then
   some true
   else
   (cW (-1) 99 [a.Rack]).bind λx4=>
   bif ! x4 then
    some true
   else
    bif a.Node != (-1)then
    some (a.Rack == (-1))
    else
    some false).bind λq=>
 bif q then
 some 1
 else
 (cW 0 50 [a.Count]).bind λx5=>
 bif ! x5 then
  some 4
 else
  some 0
theorem CL(a:Ask)(labels:Int):Lo (sr a labels) (qM a labels):=by
 unfold sr qM
 repeat' (first | (with_reducible first | exact yM _ _ _ | apply ag | apply ai | refine aj ?_ _ | exact ah _) | (intro _) | exact af | (dsimp only))
def fH(ids:List Int)(t1:Step×App×Int):Option ((Step×App×Int) ⊕ ((Step×App))):=
 bif decide (t1.2.2<(ids.length:Int))then
 (
  (idx ids t1.2.2).bind λx=>
  (fA t1.1.s.Conts (λa'=>iG a'.1 x t1.2.1)).bind λi=>
  bif decide (i≥0)then
  (jw t1.1.s.Conts i (w64 (i+1))).bind λx1=>
  (bu t1.2.1.Grants (λa'=>iL a'.1 x)).bind λx2=>
  some ((⟨⟨⟨t1.1.s.Conf.Labels,t1.1.s.Conf.Queues⟩,t1.1.s.Nodes,t1.1.s.Apps,x1,t1.1.s.Slots,t1.1.s.Plans,t1.1.s.Now,t1.1.s.Epoch,t1.1.s.Seq⟩,⟨t1.1.x.Kind,t1.1.x.Id,t1.1.x.Beat,t1.1.x.N,t1.1.x.Text,⟨t1.1.x.Node.Id,t1.1.x.Node.Label,t1.1.x.Node.Rack,⟨t1.1.x.Node.Cap.Mem,t1.1.x.Node.Cap.Cores⟩,t1.1.x.Node.Seen,t1.1.x.Node.Beat,t1.1.x.Node.Up⟩,⟨t1.1.x.App.Id,t1.1.x.App.State,t1.1.x.App.Queue,t1.1.x.App.User,t1.1.x.App.Prio,⟨t1.1.x.App.Master.Mem,t1.1.x.App.Master.Cores⟩,t1.1.x.App.Asks,t1.1.x.App.Seen,t1.1.x.App.Beat,t1.1.x.App.Grants,t1.1.x.App.Kills,t1.1.x.App.Told,t1.1.x.App.Lost⟩,t1.1.x.Asks,t1.1.x.Ids,⟨t1.1.x.Plan.Id,t1.1.x.Plan.Label,t1.1.x.Plan.From,t1.1.x.Plan.Until,⟨t1.1.x.Plan.Need.Mem,t1.1.x.Plan.Need.Cores⟩⟩⟩⟩:Step),(⟨t1.2.1.Id,t1.2.1.State,t1.2.1.Queue,t1.2.1.User,t1.2.1.Prio,⟨t1.2.1.Master.Mem,t1.2.1.Master.Cores⟩,t1.2.1.Asks,t1.2.1.Seen,t1.2.1.Beat,x2,t1.2.1.Kills,t1.2.1.Told,t1.2.1.Lost⟩:App))
  else
  some (t1.1,t1.2.1)).bind λq=>
 some (.inl (q.1,q.2,w64 (t1.2.2+1)))
 else
 some (.inr (t1.1,t1.2.1))
theorem sE(ids:List Int)(t1:Step×App×Int):Lo (fH ids t1) (hP ids t1):=by
 unfold fH hP
 repeat' (first | (with_reducible first | refine ju _ _ _ ?_ | refine eI _ _ _ ?_ | apply ag | apply ai | refine aj ?_ _ | exact ah _) | (intro _) | exact af | (dsimp only))
def iy(t:Step)(a:App)(ids:List Int):Option (App×Step):=
 (itr 4096 (fH ids) (t,a,0)).bind λq1=>
 some (q1.2,q1.1)
theorem u_(t:Step)(a:App)(ids:List Int):Lo (iy t a ids) (fS t a ids):=by
 unfold iy fS
 repeat' (first | (with_reducible first | exact sE _ _ | apply ag | apply ai | refine aj ?_ _ | exact ah _) | (intro _) | exact af | (dsimp only))
def eo(t:Step)(t1:App×Int):Option ((App×Int) ⊕ App):=
 bif decide (t1.2<(t.x.Asks.length:Int))then
 (idx t.x.Asks t1.2).bind λx3=>
 (sr x3 (t.s.Conf.Labels.length:Int)).bind λe=>
 (
  bif e == 0 then
  (qB t1.1.Asks x3).bind λx4=>
  some ((⟨t1.1.Id,t1.1.State,t1.1.Queue,t1.1.User,t1.1.Prio,⟨t1.1.Master.Mem,t1.1.Master.Cores⟩,x4.1,t1.1.Seen,t1.1.Beat,t1.1.Grants,t1.1.Kills,t1.1.Told,t1.1.Lost⟩:App),x4.2)
  else
  some (t1.1,e)).bind λq=>
 bif q.2 != 0 then
  none
 else
  some (.inl (q.1,w64 (t1.2+1)))
 else
 some (.inr t1.1)
theorem qW(t:Step)(t1:App×Int):Lo (eo t t1) (fD t t1):=by
 unfold eo fD
 repeat' (first | (with_reducible first | exact CL _ _ | exact yN _ _ | apply ag | apply ai | refine aj ?_ _ | exact ah _) | (intro _) | exact af | (dsimp only))
def gi(t:Step):Option (Output×Step):=
 (d6 t.s t.x.Id).bind λx=>
 bif ! x.2 then
 none
 else
 bif x.1.State != 2 then
  none
 else
  bif decide (t.x.Beat<x.1.Beat)then
  none
  else
  bif decide ((w64 (t.x.Beat - x.1.Beat))>1)then
   none
  else
   bif t.x.Beat == x.1.Beat then
   (cp t x.1.Told).bind λx1=>
   (c9 t x.1.Id).bind λx2=>
   some ((⟨0,x1,x2,x.1.Lost,0⟩:Output),t)
   else
   (itr 4096 (eo t) (x.1,0)).bind λa=>
   (iy t a t.x.Ids).bind λx5=>
   (cp x5.2 x5.1.Grants).bind λx6=>
   (c9 x5.2 x5.1.Id).bind λx7=>
   (bO x5.1.Kills).bind λx8=>
   (qJ x5.2.s (⟨x5.1.Id,x5.1.State,x5.1.Queue,x5.1.User,x5.1.Prio,⟨x5.1.Master.Mem,x5.1.Master.Cores⟩,x5.1.Asks,x5.2.s.Now,w64 (x5.1.Beat+1),[],[],x5.1.Grants,x5.1.Kills⟩:App)).bind λx9=>
   some ((⟨0,x6,x7,x8,0⟩:Output),(⟨⟨⟨x9.Conf.Labels,x9.Conf.Queues⟩,x9.Nodes,x9.Apps,x9.Conts,x9.Slots,x9.Plans,x9.Now,x9.Epoch,x9.Seq⟩,⟨x5.2.x.Kind,x5.2.x.Id,x5.2.x.Beat,x5.2.x.N,x5.2.x.Text,⟨x5.2.x.Node.Id,x5.2.x.Node.Label,x5.2.x.Node.Rack,⟨x5.2.x.Node.Cap.Mem,x5.2.x.Node.Cap.Cores⟩,x5.2.x.Node.Seen,x5.2.x.Node.Beat,x5.2.x.Node.Up⟩,⟨x5.2.x.App.Id,x5.2.x.App.State,x5.2.x.App.Queue,x5.2.x.App.User,x5.2.x.App.Prio,⟨x5.2.x.App.Master.Mem,x5.2.x.App.Master.Cores⟩,x5.2.x.App.Asks,x5.2.x.App.Seen,x5.2.x.App.Beat,x5.2.x.App.Grants,x5.2.x.App.Kills,x5.2.x.App.Told,x5.2.x.App.Lost⟩,x5.2.x.Asks,x5.2.x.Ids,⟨x5.2.x.Plan.Id,x5.2.x.Plan.Label,x5.2.x.Plan.From,x5.2.x.Plan.Until,⟨x5.2.x.Plan.Need.Mem,x5.2.x.Plan.Need.Cores⟩⟩⟩⟩:Step))
theorem tv(t:Step):Lo (gi t) (eB t):=by
 unfold gi eB
 repeat' (first | (with_reducible first | exact gC _ _ | exact lF _ _ | exact sA _ _ | exact qW _ _ | exact u_ _ _ _ | exact yR _ _ | apply ag | apply ai | refine aj ?_ _ | exact ah _) | (intro _) | exact af | (dsimp only))
def oz(s:State):Option (List Int):=
 (itr 4096 (ta s) ([],0)).bind λout1=>
 some out1
theorem Ar(s:State):Lo (oz s) (me s):=by
 unfold oz me
 repeat' (first | (with_reducible first | apply ag | apply ai | refine aj ?_ _ | exact ah _) | (intro _) | exact af | (dsimp only))
def pV(s:State):Option (List Int):=
 (itr 4096 (tV s) ([],[],0)).bind λout=>
 some out
theorem A7(s:State):Lo (pV s) (oK s):=by
 unfold pV oK
 repeat' (first | (with_reducible first | apply ag | apply ai | refine aj ?_ _ | exact ah _) | (intro _) | exact af | (dsimp only))
def jh(s:List Plan)(f:(TupT fam [.st 9]→Option Bool))(t:Int):Option (Int ⊕ (Int ⊕ Unit)):=
 bif decide (t<(s.length:Int))then
 (idx s t).bind λx=>
 (f (x,())).bind λr=>
 bif r then
  some (.inr (.inl t))
 else
  some (.inl (w64 (t+1)))
 else
 some (.inr (.inr ()))
theorem vN(s:List Plan)(f f_':(TupT fam [.st 9]→Option Bool))(h_f:∀a,Lo (f a) (f_' a))(t:Int):Lo (jh s f t) (lg s f_' t):=by
 unfold jh lg
 repeat' (first | (with_reducible first | exact h_f _ | apply ag | apply ai | refine aj ?_ _ | exact ah _) | (intro _) | exact af | (dsimp only))
def lP(s:List Plan)(f:(TupT fam [.st 9]→Option Bool)):Option Int:=
 (itr 4096 (jh s f) 0).bind λq0=>
 match q0 with
 | .inl q=>
 some q
 | .inr _=>
 some (-1)
theorem zc(s:List Plan)(f f_':(TupT fam [.st 9]→Option Bool))(h_f:∀a,Lo (f a) (f_' a)):Lo (lP s f) (kH s f_'):=by
 unfold lP kH
 repeat' (first | (with_reducible first | refine vN _ _ _ ?_ _ | exact h_f _ | apply az | apply aC | apply aA | apply ag | apply ai | refine aj ?_ _ | exact ah _) | (intro _) | exact af | (dsimp only))
def pv(del:(TupT fam [.st 9]→Option Bool))(t:List Plan×Int×Int):Option ((List Plan×Int×Int) ⊕ ((List Plan×Int))):=none
theorem vV(del del_':(TupT fam [.st 9]→Option Bool))(h_del:∀a,Lo (del a) (del_' a))(t:List Plan×Int×Int):Lo (pv del t) (sw del_' t):=af
def mz(s:List Plan)(del:(TupT fam [.st 9]→Option Bool)):Option (List Plan):=
 (lP s del).bind λi=>
 bif i == (-1)then
 some s
 else
 (itr 4096 (pv del) (s,i,w64 (i+1))).bind λq1=>
 (inS q1.2 (q1.1.length:Int) q1.1.length).bind λp=>
 (inS 0 q1.2 (cpy q1.1 p.1 p.2 (List.replicate p.2 (⟨0,0,0,0,⟨0,0⟩⟩:Plan))).length).bind λp1=>
 some (List.take p1.2 (cpy q1.1 p.1 p.2 (List.replicate p.2 (⟨0,0,0,0,⟨0,0⟩⟩:Plan))))
theorem zk(s:List Plan)(del del_':(TupT fam [.st 9]→Option Bool))(h_del:∀a,Lo (del a) (del_' a)):Lo (mz s del) (kK s del_'):=by
 unfold mz kK
 repeat' (first | (with_reducible first | refine zc _ _ _ ?_ | refine vV _ _ ?_ _ | exact h_del _ | apply ag | apply ai | refine aj ?_ _ | exact ah _) | (intro _) | exact af | (dsimp only))
def ki(l:List Ask)(label:Int)(t:Vec×Int):Option ((Vec×Int) ⊕ Vec):=
 bif decide (t.2<(l.length:Int))then
 (
  (idx l t.2).bind λx=>
  (
  bif x.Label == label then
   (cW 0 1125899906842624 [x.Size.Mem,x.Size.Cores]).bind λx1=>
   bif x1 then
   (cW 0 50 [x.Count]).bind λx2=>
   some x2
   else
   some false
  else
   some false).bind λq=>
  bif q then
  some (⟨w64 (t.1.Mem+(w64 (x.Size.Mem*x.Count))),w64 (t.1.Cores+(w64 (x.Size.Cores*x.Count)))⟩:Vec)
  else
  some t.1).bind λout=>
 some (.inl (out,w64 (t.2+1)))
 else
 some (.inr t.1)
theorem xi(l:List Ask)(label:Int)(t:Vec×Int):Lo (ki l label t) (mi l label t):=by
 unfold ki mi
 repeat' (first | (with_reducible first | exact yM _ _ _ | apply ag | apply ai | refine aj ?_ _ | exact ah _) | (intro _) | exact af | (dsimp only))
def nJ(l:List Ask)(label:Int):Option Vec:=
 (itr 4096 (ki l label) ((⟨0,0⟩:Vec),0)).bind λout1=>
 some out1
theorem z6(l:List Ask)(label:Int):Lo (nJ l label) (mI l label):=by
 unfold nJ mI
 repeat' (first | (with_reducible first | exact xi _ _ _ | apply ag | apply ai | refine aj ?_ _ | exact ah _) | (intro _) | exact af | (dsimp only))
def eM(v:View)(t:Vec×Int):Option ((Vec×Int) ⊕ Vec):=
 bif decide (t.2<(v.s.Apps.length:Int))then
 (
  (idx v.s.Apps t.2).bind λx=>
  (
  (cJ x).bind λx1=>
  bif x1 then
   (fY v x).bind λx2=>
   some x2
  else
   some false).bind λq=>
  bif q then
  (nJ x.Asks v.label).bind λx3=>
  (dC t.1 x3).bind λx4=>
  some x4.1
  else
  some t.1).bind λout=>
 some (.inl (out,w64 (t.2+1)))
 else
 some (.inr t.1)
theorem sa(v:View)(t:Vec×Int):Lo (eM v t) (gf v t):=by
 unfold eM gf
 repeat' (first | (with_reducible first | exact z6 _ _ | apply ag | apply ai | refine aj ?_ _ | exact ah _) | (intro _) | exact af | (dsimp only))
def gJ(v:View):Option Vec:=
 (itr 4096 (eM v) ((⟨0,0⟩:Vec),0)).bind λout1=>
 some out1
theorem uD(v:View):Lo (gJ v) (fd v):=by
 unfold gJ fd
 repeat' (first | (with_reducible first | exact sa _ _ | apply ag | apply ai | refine aj ?_ _ | exact ah _) | (intro _) | exact af | (dsimp only))
def iS(s:State)(path:List UInt8)(label:Int):Option Vec:=
 (gJ (⟨⟨⟨s.Conf.Labels,s.Conf.Queues⟩,s.Nodes,s.Apps,s.Conts,s.Slots,s.Plans,s.Now,s.Epoch,s.Seq⟩,path,label,(-1)⟩:View)).bind λx=>
 some x
theorem rK(s:State)(path:List UInt8)(label:Int):Lo (iS s path label) (il s path label):=by
 unfold iS il
 repeat' (first | (with_reducible first | exact uD _ | apply ag | apply ai | refine aj ?_ _ | exact ah _) | (intro _) | exact af | (dsimp only))
def d_(first:Int)(l:List Int):Option Int:=
 (itr 4096 (sJ l) (first,0)).bind λfirst1=>
 some first1
theorem mO(first:Int)(l:List Int):Lo (d_ first l) (eg first l):=by
 unfold d_ eg
 repeat' (first | (with_reducible first | apply ag | apply ai | refine aj ?_ _ | exact ah _) | (intro _) | exact af | (dsimp only))
def kZ(want:List Int)(most:List Int)(n:Int)(t1:List Int×Int×Int):Option ((List Int×Int×Int) ⊕ List Int):=
 bif decide (t1.2.2<n)then
 (idx want t1.2.2).bind λx9=>
 (bN x9).bind λx10=>
 (idx most t1.2.2).bind λx11=>
 (bN x11).bind λx12=>
 (d_ x10 [x12]).bind λx13=>
 (inb t1.2.2 t1.1.length).bind λi2=>
 (t1.1[i2]?).bind λx14=>
 (d_ (imax (w64 (x13 - x14)) 0) [t1.2.1]).bind λmore=>
 (inb t1.2.2 t1.1.length).bind λi3=>
 (t1.1[i3]?).bind λx15=>
 (inb t1.2.2 t1.1.length).bind λi4=>
 (t1.1[i4]?).bind λx16=>
 some (.inl (List.set t1.1 i4 (w64 (x15+more)),w64 (t1.2.1 - more),w64 (t1.2.2+1)))
 else
 some (.inr t1.1)
theorem yq(want:List Int)(most:List Int)(n:Int)(t1:List Int×Int×Int):Lo (kZ want most n t1) (nr want most n t1):=by
 unfold kZ nr
 repeat' (first | (with_reducible first | exact mO _ _ | apply ag | apply ai | refine aj ?_ _ | exact ah _) | (intro _) | exact af | (dsimp only))
def lk(least:List Int)(want:List Int)(most:List Int)(n:Int)(t:List Int×Int×Int):Option ((List Int×Int×Int) ⊕ ((List Int×Int))):=
 bif decide (t.2.2<n)then
 (idx least t.2.2).bind λx=>
 (bN x).bind λx1=>
 (idx want t.2.2).bind λx2=>
 (bN x2).bind λx3=>
 (idx most t.2.2).bind λx4=>
 (bN x4).bind λx5=>
 (d_ x1 [x3,x5,t.2.1]).bind λx6=>
 (inb t.2.2 t.1.length).bind λi=>
 (t.1[i]?).bind λx7=>
 (inb t.2.2 (List.set t.1 i x6).length).bind λi1=>
 ((List.set t.1 i x6)[i1]?).bind λx8=>
 some (.inl (List.set t.1 i x6,w64 (t.2.1 - x8),w64 (t.2.2+1)))
 else
 some (.inr (t.1,t.2.1))
theorem ym(least:List Int)(want:List Int)(most:List Int)(n:Int)(t:List Int×Int×Int):Lo (lk least want most n t) (ox least want most n t):=by
 unfold lk ox
 repeat' (first | (with_reducible first | exact mO _ _ | apply ag | apply ai | refine aj ?_ _ | exact ah _) | (intro _) | exact af | (dsimp only))
def pF(total:Int)(least:List Int)(want:List Int)(most:List Int):Option (List Int):=
 (d_ (least.length:Int) [(want.length:Int),(most.length:Int)]).bind λn=>
 (mkl 8 n n 0).bind λl=>
 (bN total).bind λleft=>
 (itr 4096 (lk least want most n) (l,left,0)).bind λq=>
 (itr 4096 (kZ want most n) (q.1,q.2,0)).bind λout=>
 some out
theorem Bz(total:Int)(least:List Int)(want:List Int)(most:List Int):Lo (pF total least want most) (oS total least want most):=by
 unfold pF oS
 repeat' (first | (with_reducible first | exact mO _ _ | exact ym _ _ _ _ _ | exact yq _ _ _ _ | apply ag | apply ai | refine aj ?_ _ | exact ah _) | (intro _) | exact af | (dsimp only))
def jy(s:State)(label:Int)(deep:Int)(self:State→(List UInt8)→Int→Int→Int→Option (List Share))(kids:List (List UInt8))(x5:List Int)(t1:List Share×Int):Option ((List Share×Int) ⊕ List Share):=
 bif decide (t1.2<(x5.length:Int))then
 (inb t1.2 x5.length).bind λi1=>
 (x5[i1]?).bind λx6=>
 (inb t1.2 kids.length).bind λi2=>
 (kids[i2]?).bind λx7=>
 (self s x7 label x6 (w64 (deep+1))).bind λx8=>
 (app 24 t1.1 x8).bind λl3=>
 some (.inl (l3,w64 (t1.2+1)))
 else
 some (.inr t1.1)
theorem vQ(s:State)(label:Int)(deep:Int)(self self_':State→(List UInt8)→Int→Int→Int→Option (List Share))(h_self:∀(a0:State)(a1:(List UInt8)) (a2:Int) (a3:Int) (a4:Int),Lo (self a0 a1 a2 a3 a4) (self_' a0 a1 a2 a3 a4))(kids:List (List UInt8))(x5:List Int)(t1:List Share×Int):Lo (jy s label deep self kids x5 t1) (la s label deep self_' kids x5 t1):=by
 unfold jy la
 repeat' (first | (with_reducible first | refine h_self _ _ _ _ _ | apply ag | apply ai | refine aj ?_ _ | exact ah _) | (intro _) | exact af | (dsimp only))
def iV(s:State)(label:Int)(kids:List (List UInt8))(t:Rows3_ListInt×Int):Option ((Rows3_ListInt×Int) ⊕ Rows3_ListInt):=
 bif decide (t.2<(kids.length:Int))then
 (inb t.2 kids.length).bind λi=>
 (kids[i]?).bind λx=>
 (dB s x label).bind λx1=>
 (bY s x label).bind λx2=>
 (iS s x label).bind λx3=>
 (lQ s x label).bind λx4=>
 (inS t.2 (t.1.r0.length:Int) t.1.r0.length).bind λp=>
 (inS 0 1 [x1.Mem,w64 (x2.Mem+x3.Mem),x4.Mem].length).bind λp1=>
 (inS t.2 (t.1.r1.length:Int) t.1.r1.length).bind λp2=>
 (inS 1 2 [x1.Mem,w64 (x2.Mem+x3.Mem),x4.Mem].length).bind λp3=>
 (inS t.2 (t.1.r2.length:Int) t.1.r2.length).bind λp4=>
 (inS 2 3 [x1.Mem,w64 (x2.Mem+x3.Mem),x4.Mem].length).bind λp5=>
 some (.inl ((⟨cpy t.1.r0 p.1 p.2 (sub [x1.Mem,w64 (x2.Mem+x3.Mem),x4.Mem] p1.1 p1.2),cpy t.1.r1 p2.1 p2.2 (sub [x1.Mem,w64 (x2.Mem+x3.Mem),x4.Mem] p3.1 p3.2),cpy t.1.r2 p4.1 p4.2 (sub [x1.Mem,w64 (x2.Mem+x3.Mem),x4.Mem] p5.1 p5.2)⟩:Rows3_ListInt),w64 (t.2+1)))
 else
 some (.inr t.1)
theorem we(s:State)(label:Int)(kids:List (List UInt8))(t:Rows3_ListInt×Int):Lo (iV s label kids t) (kY s label kids t):=by
 unfold iV kY
 repeat' (first | (with_reducible first | exact fW _ _ _ | exact cI _ _ _ | exact rK _ _ _ | exact vJ _ _ _ | apply ag | apply ai | refine aj ?_ _ | exact ah _) | (intro _) | exact af | (dsimp only))
def m6(self:State→(List UInt8)→Int→Int→Int→Option (List Share))(s:State)(path:List UInt8)(label:Int)(mem:Int)(deep:Int):Option (List Share):=
 (ip s.Conf path).bind λkids=>
 (
 bif(kids.length:Int) == 0 then
  some true
 else
  some (decide (deep>4))).bind λq=>
 bif q then
 some [(⟨path,mem⟩:Share)]
 else
 (mkl 8 (kids.length:Int) (kids.length:Int) 0).bind λl=>
 (mkl 8 (kids.length:Int) (kids.length:Int) 0).bind λl1=>
 (mkl 8 (kids.length:Int) (kids.length:Int) 0).bind λl2=>
 (itr 4096 (iV s label kids) ((⟨l,l1,l2⟩:Rows3_ListInt),0)).bind λrows=>
 (pF mem rows.r0 rows.r1 rows.r2).bind λx5=>
 (itr 4096 (jy s label deep self kids x5) ([],0)).bind λout=>
 some out
theorem zy(self self_':State→(List UInt8)→Int→Int→Int→Option (List Share))(h_self:∀(a0:State)(a1:(List UInt8)) (a2:Int) (a3:Int) (a4:Int),Lo (self a0 a1 a2 a3 a4) (self_' a0 a1 a2 a3 a4))(s:State)(path:List UInt8)(label:Int)(mem:Int)(deep:Int):Lo (m6 self s path label mem deep) (pT self_' s path label mem deep):=by
 unfold m6 pT
 repeat' (first | (with_reducible first | exact lZ _ _ | exact we _ _ _ _ | exact Bz _ _ _ _ | refine vQ _ _ _ _ _ ?_ _ _ _ | refine h_self _ _ _ _ _ | apply ag | apply ai | refine aj ?_ _ | exact ah _) | (intro _) | exact af | (dsimp only))
def iQ:Nat→State→(List UInt8)→Int→Int→Int→Option (List Share)
 | 0=>λ_ _ _ _ _=>none
 | n+1=>m6 (iQ n)
theorem rI:∀(n:Nat),∀(a0:State)(a1:List UInt8)(a2:Int)(a3:Int) (a4:Int),Lo (iQ n a0 a1 a2 a3 a4) (ie n a0 a1 a2 a3 a4)
 | 0=>λ_ _ _ _ _=>af
 | n+1=>λa0 a1 a2 a3 a4=>zy (iQ n) (ie n) (rI n) a0 a1 a2 a3 a4
def pP(a0:State)(a1:List UInt8)(a2:Int)(a3:Int)(a4:Int):Option (List Share):=iQ 64 a0 a1 a2 a3 a4
theorem Bk(a0:State)(a1:List UInt8)(a2:Int)(a3:Int)(a4:Int):Lo (pP a0 a1 a2 a3 a4) (oM a0 a1 a2 a3 a4):=by
 unfold pP oM
 repeat' (first | (with_reducible first | refine rI _ _ _ _ _ _ | apply ag | apply ai | refine aj ?_ _ | exact ah _) | (intro _) | exact af | (dsimp only))
def fZ(s:State)(label:Int):Option (List Share):=
 (eV s label).bind λx=>
 (pP s ([114,111,111,116]:List UInt8) label x.Mem 1).bind λx1=>
 some x1
theorem mG(s:State)(label:Int):Lo (fZ s label) (gj s label):=by
 unfold fZ gj
 repeat' (first | (with_reducible first | exact jE _ _ | exact Bk _ _ _ _ _ | apply ag | apply ai | refine aj ?_ _ | exact ah _) | (intro _) | exact af | (dsimp only))
def jU(s:List Share)(f:(TupT fam [.st 13]→Option Bool))(t:Int):Option (Int ⊕ (Int ⊕ Unit)):=
 bif decide (t<(s.length:Int))then
 (idx s t).bind λx=>
 (f (x,())).bind λr=>
 bif r then
  some (.inr (.inl t))
 else
  some (.inl (w64 (t+1)))
 else
 some (.inr (.inr ()))
theorem wM(s:List Share)(f f_':(TupT fam [.st 13]→Option Bool))(h_f:∀a,Lo (f a) (f_' a))(t:Int):Lo (jU s f t) (ma s f_' t):=by
 unfold jU ma
 repeat' (first | (with_reducible first | exact h_f _ | apply ag | apply ai | refine aj ?_ _ | exact ah _) | (intro _) | exact af | (dsimp only))
def nt(s:List Share)(f:(TupT fam [.st 13]→Option Bool)):Option Int:=
 (itr 4096 (jU s f) 0).bind λq0=>
 match q0 with
 | .inl q=>
 some q
 | .inr _=>
 some (-1)
theorem AK(s:List Share)(f f_':(TupT fam [.st 13]→Option Bool))(h_f:∀a,Lo (f a) (f_' a)):Lo (nt s f) (md s f_'):=by
 unfold nt md
 repeat' (first | (with_reducible first | refine wM _ _ _ ?_ _ | exact h_f _ | apply az | apply aC | apply aA | apply ag | apply ai | refine aj ?_ _ | exact ah _) | (intro _) | exact af | (dsimp only))
def mU(s:State)(c:Cont):Option Bool:=
 (d6 s c.App).bind λx=>
 (bY s x.1.Queue c.Label).bind λx1=>
 (itr 4096 (su s c) (x1.Mem,0)).bind λused2=>
 (fZ s c.Label).bind λl=>
 (nt l (λa'=>lX a'.1 x.1)).bind λi=>
 bif decide (i≥0)then
 (inb i l.length).bind λi1=>
 (l[i1]?).bind λx3=>
 some (decide (used2>x3.Mem))
 else
 some false
theorem y_(s:State)(c:Cont):Lo (mU s c) (kE s c):=by
 unfold mU kE
 repeat' (first | (with_reducible first | exact gC _ _ | exact cI _ _ _ | exact mG _ _ | refine AK _ _ _ ?_ | apply ag | apply ai | refine aj ?_ _ | exact ah _) | (intro _) | exact af | (dsimp only))
def kb(label:Int)(x1:Cont)(s1:State):Option State:=
 (fA s1.Conts (λa'=>nY a'.1 x1)).bind λi=>
 (
 bif decide (i<0)then
  some true
 else
  (inb i s1.Conts.length).bind λi1=>
  (s1.Conts[i1]?).bind λx2=>
  (rq x2 label s1.Now).bind λx3=>
  some (! x3)).bind λq=>
 bif q then
 some s1
 else
 (mU s1 x1).bind λx4=>
 bif x4 then
  (bX s1 [x1.Id]).bind λx5=>
  some x5
 else
  (inb i s1.Conts.length).bind λi2=>
  (s1.Conts[i2]?).bind λx6=>
  some (⟨⟨s1.Conf.Labels,s1.Conf.Queues⟩,s1.Nodes,s1.Apps,List.set s1.Conts i2 (⟨x6.Id,x6.App,x6.Node,⟨x6.Size.Mem,x6.Size.Cores⟩,x6.Prio,x6.Label,x6.Master,0⟩:Cont),s1.Slots,s1.Plans,s1.Now,s1.Epoch,s1.Seq⟩:State)
theorem xE(label:Int)(x1:Cont)(s1:State):Lo (kb label x1 s1) (mj label x1 s1):=by
 unfold kb mj
 repeat' (first | (with_reducible first | refine ju _ _ _ ?_ | exact y_ _ _ | exact gv _ _ | apply ag | apply ai | refine aj ?_ _ | exact ah _) | (intro _) | exact af | (dsimp only))
def oj(s:State)(label:Int):Option State:=
 (bf s.Conts).bind λx=>
 (rgB (kb label) x s).bind λs2=>
 some s2
theorem zQ(s:State)(label:Int):Lo (oj s label) (mK s label):=by
 unfold oj mK
 repeat' (first | (with_reducible first | exact xE _ _ _ | refine G4 (λ_ _=>?_) _ _ | apply ag | apply ai | refine aj ?_ _ | exact ah _) | (intro _) | exact af | (dsimp only))
def jW(s:State)(label:Int)(t1:Looker×Int):Option ((Looker×Int) ⊕ Looker):=
 bif decide (t1.2<(s.Conts.length:Int))then
 (
  (idx s.Conts t1.2).bind λx4=>
  bif x4.Label != label then
  some t1.1
  else
  (d6 s x4.App).bind λx5=>
  bif x4.Notice != 0 then
   (cg (⟨⟨⟨t1.1.s.Conf.Labels,t1.1.s.Conf.Queues⟩,t1.1.s.Nodes,t1.1.s.Apps,t1.1.s.Conts,t1.1.s.Slots,t1.1.s.Plans,t1.1.s.Now,t1.1.s.Epoch,t1.1.s.Seq⟩,t1.1.label,t1.1.over,mput (λx6=>x4.Id == x6.k) t1.1.leaf (⟨x4.Id,x5.1.Queue⟩:Ent4_IntListUInt8),t1.1.noticed,t1.1.gone⟩:Looker) x4).bind λx7=>
   some x7
  else
   some (⟨⟨⟨t1.1.s.Conf.Labels,t1.1.s.Conf.Queues⟩,t1.1.s.Nodes,t1.1.s.Apps,t1.1.s.Conts,t1.1.s.Slots,t1.1.s.Plans,t1.1.s.Now,t1.1.s.Epoch,t1.1.s.Seq⟩,t1.1.label,t1.1.over,mput (λx6=>x4.Id == x6.k) t1.1.leaf (⟨x4.Id,x5.1.Queue⟩:Ent4_IntListUInt8),t1.1.noticed,t1.1.gone⟩:Looker)).bind λk1=>
 some (.inl (k1,w64 (t1.2+1)))
 else
 some (.inr t1.1)
theorem xq(s:State)(label:Int)(t1:Looker×Int):Lo (jW s label t1) (lM s label t1):=by
 unfold jW lM
 repeat' (first | (with_reducible first | exact gC _ _ | apply ag | apply ai | refine aj ?_ _ | exact ah _) | (intro _) | exact af | (dsimp only))
def j7(s:State)(label:Int)(x:List Share)(t:Looker×Int):Option ((Looker×Int) ⊕ Looker):=
 bif decide (t.2<(x.length:Int))then
 (inb t.2 x.length).bind λi=>
 (x[i]?).bind λx1=>
 (bY s x1.Path label).bind λx2=>
 some (.inl ((⟨⟨⟨t.1.s.Conf.Labels,t.1.s.Conf.Queues⟩,t.1.s.Nodes,t.1.s.Apps,t.1.s.Conts,t.1.s.Slots,t.1.s.Plans,t.1.s.Now,t.1.s.Epoch,t.1.s.Seq⟩,t.1.label,mput (λx3=>x1.Path == x3.k) t.1.over (⟨x1.Path,w64 (x2.Mem - x1.Mem)⟩:Ent0_ListUInt8Int),t.1.leaf,t.1.noticed,t.1.gone⟩:Looker),w64 (t.2+1)))
 else
 some (.inr t.1)
theorem xJ(s:State)(label:Int)(x:List Share)(t:Looker×Int):Lo (j7 s label x t) (mN s label x t):=by
 unfold j7 mN
 repeat' (first | (with_reducible first | exact cI _ _ _ | apply ag | apply ai | refine aj ?_ _ | exact ah _) | (intro _) | exact af | (dsimp only))
def nC(s:State)(label:Int):Option Looker:=
 (fZ s label).bind λx=>
 (itr 4096 (j7 s label x) ((⟨⟨⟨s.Conf.Labels,s.Conf.Queues⟩,s.Nodes,s.Apps,s.Conts,s.Slots,s.Plans,s.Now,s.Epoch,s.Seq⟩,label,[],[],[],0⟩:Looker),0)).bind λk=>
 (itr 4096 (jW s label) (k,0)).bind λk2=>
 some k2
theorem AQ(s:State)(label:Int):Lo (nC s label) (m0 s label):=by
 unfold nC m0
 repeat' (first | (with_reducible first | exact mG _ _ | exact xJ _ _ _ _ | exact xq _ _ _ | apply ag | apply ai | refine aj ?_ _ | exact ah _) | (intro _) | exact af | (dsimp only))
def dN(k:Looker)(path:List UInt8)(x:Vec)(x1:Vec)(x2:App)(t1:Int):Option (Int ⊕ (Int ⊕ Unit)):=
 bif decide (t1<(x2.Asks.length:Int))then
 (idx x2.Asks t1).bind λx4=>
 (
  bif x4.Label == k.label then
  some (decide ((w64 (x.Mem+x4.Size.Mem))≤x1.Mem))
  else
  some false).bind λq1=>
 bif q1 then
  (iS k.s path k.label).bind λx5=>
  some (.inr (.inl (imin x5.Mem (w64 (x1.Mem - x.Mem)))))
 else
  some (.inl (w64 (t1+1)))
 else
 some (.inr (.inr ()))
theorem pW(k:Looker)(path:List UInt8)(x:Vec)(x1:Vec)(x2:App)(t1:Int):Lo (dN k path x x1 x2 t1) (eQ k path x x1 x2 t1):=by
 unfold dN eQ
 repeat' (first | (with_reducible first | exact rK _ _ _ | apply ag | apply ai | refine aj ?_ _ | exact ah _) | (intro _) | exact af | (dsimp only))
def dP(k:Looker)(path:List UInt8)(x:Vec)(x1:Vec)(t:Int):Option (Int ⊕ (Int ⊕ Unit)):=
 bif decide (t<(k.s.Apps.length:Int))then
 (
  (idx k.s.Apps t).bind λx2=>
  (
  (cJ x2).bind λx3=>
  bif ! x3 then
   some true
  else
   some (! (x2.Queue == path))).bind λq=>
  bif q then
  some (.inl ())
  else
  (itr 4096 (dN k path x x1 x2) 0).bind λq0=>
  match q0 with
  | .inl q2=>
   some (.inr q2)
  | .inr _=>
   some (.inl ()):Option (Unit ⊕ Int)).bind λq0=>
 match q0 with
 | .inl _=>
  some (.inl (w64 (t+1)))
 | .inr q3=>
  some (.inr (.inl q3))
 else
 some (.inr (.inr ()))
theorem pU(k:Looker)(path:List UInt8)(x:Vec)(x1:Vec)(t:Int):Lo (dP k path x x1 t) (eP k path x x1 t):=by
 unfold dP eP
 repeat' (first | (with_reducible first | exact pW _ _ _ _ _ _ | apply az | apply aC | apply aA | apply ag | apply ai | refine aj ?_ _ | exact ah _) | (intro _) | exact af | (dsimp only))
def fE(k:Looker)(path:List UInt8):Option (Int×Looker):=
 (bY k.s path k.label).bind λx=>
 (dB k.s path k.label).bind λx1=>
 (itr 4096 (dP k path x x1) 0).bind λq0=>
 match q0 with
 | .inl q4=>
 some (q4,k)
 | .inr _=>
 some (0,k)
theorem sC(k:Looker)(path:List UInt8):Lo (fE k path) (dW k path):=by
 unfold fE dW
 repeat' (first | (with_reducible first | exact cI _ _ _ | exact fW _ _ _ | exact pU _ _ _ _ _ | apply az | apply aC | apply aA | apply ag | apply ai | refine aj ?_ _ | exact ah _) | (intro _) | exact af | (dsimp only))
def er(x:List Share)(t:Looker×Int×Int):Option ((Looker×Int×Int) ⊕ ((Looker×Int))):=
 bif decide (t.2.2<(x.length:Int))then
 (inb t.2.2 x.length).bind λi=>
 (x[i]?).bind λx1=>
 (fE t.1 x1.Path).bind λx2=>
 let sum:=w64 (t.2.1+x2.1)
 some (.inl (x2.2,sum,w64 (t.2.2+1)))
 else
 some (.inr (t.1,t.2.1))
theorem qS(x:List Share)(t:Looker×Int×Int):Lo (er x t) (fG x t):=by
 unfold er fG
 repeat' (first | (with_reducible first | exact sC _ _ | apply ag | apply ai | refine aj ?_ _ | exact ah _) | (intro _) | exact af | (dsimp only))
def gx(k:Looker):Option (Int×Looker):=
 (fZ k.s k.label).bind λx=>
 (itr 4096 (er x) (k,0,0)).bind λq=>
 (eV q.1.s q.1.label).bind λx3=>
 (bY q.1.s ([114,111,111,116]:List UInt8) q.1.label).bind λx4=>
 some (w64 (q.2 - (imax (w64 (x3.Mem - x4.Mem)) 0)),q.1)
theorem tk(k:Looker):Lo (gx k) (ez k):=by
 unfold gx ez
 repeat' (first | (with_reducible first | exact mG _ _ | exact qS _ _ | exact jE _ _ | exact cI _ _ _ | apply ag | apply ai | refine aj ?_ _ | exact ah _) | (intro _) | exact af | (dsimp only))
def gm(k:Looker):Option (Cont×Bool×Looker):=
 (itr 4096 (km k) ([],0)).bind λbest1=>
 (rngc (ω:=Obj) (Obj.deferred none) (λ_=>some ([]:List UInt8)) (kw k) best1).bind λfound1=>
 let e7:=mget (λx8=>found1 == x8.k) best1 (⟨found1,⟨0,0,0,⟨0,0⟩,0,0,false,0⟩⟩:Ent1_ListUInt8Cont)
 let is1:=mhas (λx8=>found1 == x8.k) best1
 some (e7.v,is1,k)
theorem tp(k:Looker):Lo (gm k) (eA k):=by
 unfold gm eA
 repeat' (first | (with_reducible first | refine LM ?_ (λ_ _ _ _=>rfl) (λ_ _=>rfl) _ | apply ag | apply ai | refine aj ?_ _ | exact ah _) | (intro _) | exact af | (dsimp only))
def jS(need:Int×Looker)(t:Looker×List Int):Option ((Looker×List Int) ⊕ List Int):=
 bif decide (t.1.gone<need.1)then
 (gm t.1).bind λx=>
 bif ! x.2.1 then
  some (.inr t.2)
 else
  (cg x.2.2 x.1).bind λx1=>
  (app 8 t.2 [x.1.Id]).bind λl=>
  some (.inl (x1,l))
 else
 some (.inr t.2)
theorem xy(need:Int×Looker)(t:Looker×List Int):Lo (jS need t) (mW need t):=by
 unfold jS mW
 repeat' (first | (with_reducible first | exact tp _ | apply ag | apply ai | refine aj ?_ _ | exact ah _) | (intro _) | exact af | (dsimp only))
def nE(s:State)(label:Int):Option (List Int):=
 (nC s label).bind λk=>
 (gx k).bind λneed=>
 (itr 4096 (jS need) (need.2,[])).bind λout=>
 some out
theorem z_(s:State)(label:Int):Lo (nE s label) (mf s label):=by
 unfold nE mf
 repeat' (first | (with_reducible first | exact AQ _ _ | exact tk _ | exact xy _ _ | apply ag | apply ai | refine aj ?_ _ | exact ah _) | (intro _) | exact af | (dsimp only))
def bB(a:Int)(b:Int)(t:List Int×Int):Option ((List Int×Int) ⊕ List Int):=
 bif decide (t.2<b)then
 (itr 4096 (du a) (t.1,t.2)).bind λdata1=>
 some (.inl (data1,w64 (t.2+1)))
 else
 some (.inr t.1)
theorem iI(a:Int)(b:Int)(t:List Int×Int):Lo (bB a b t) (bM a b t):=by
 unfold bB bM
 repeat' (first | (with_reducible first | apply ag | apply ai | refine aj ?_ _ | exact ah _) | (intro _) | exact af | (dsimp only))
def bP(data:List Int)(a:Int)(b:Int):Option (List Int):=
 (itr 4096 (bB a b) (data,w64 (a+1))).bind λdata2=>
 some data2
theorem jM(data:List Int)(a:Int)(b:Int):Lo (bP data a b) (be data a b):=by
 unfold bP be
 repeat' (first | (with_reducible first | exact iI _ _ _ | apply ag | apply ai | refine aj ?_ _ | exact ah _) | (intro _) | exact af | (dsimp only))
def bU(a:Int)(b:Int)(limit:Int)(data1:List Int):Option (List Int ⊕ List Int):=
 bif decide ((w64 (b - a))≤12)then
 (bP data1 a b).bind λx=>
 some (.inr x)
 else
 bif limit == 0 then
  none
 else
  none
theorem j9(a:Int)(b:Int)(limit:Int)(data1:List Int):Lo (bU a b limit data1) (ck a b limit data1):=by
 unfold bU ck
 repeat' (first | (with_reducible first | exact jM _ _ _ | apply ag | apply ai | refine aj ?_ _ | exact ah _) | (intro _) | exact af | (dsimp only))
def cw(self:(List Int)→Int→Int→Int→Option (List Int))(data:List Int)(a:Int)(b:Int)(limit:Int):Option (List Int):=
 (itr 4096 (bU a b limit) data).bind λdata2=>
 some data2
theorem lJ(self self_':(List Int)→Int→Int→Int→Option (List Int))(h_self:∀(a0:(List Int)) (a1:Int) (a2:Int) (a3:Int),Lo (self a0 a1 a2 a3) (self_' a0 a1 a2 a3))(data:List Int)(a:Int)(b:Int)(limit:Int):Lo (cw self data a b limit) (cS self_' data a b limit):=by
 unfold cw cS
 repeat' (first | (with_reducible first | exact j9 _ _ _ _ | refine h_self _ _ _ _ | apply ag | apply ai | refine aj ?_ _ | exact ah _) | (intro _) | exact af | (dsimp only))
def bz:Nat→(List Int)→Int→Int→Int→Option (List Int)
 | 0=>λ_ _ _ _=>none
 | n+1=>cw (bz n)
theorem eG:∀(n:Nat),∀(a0:List Int)(a1:Int)(a2:Int)(a3:Int),Lo (bz n a0 a1 a2 a3) (a9 n a0 a1 a2 a3)
 | 0=>λ_ _ _ _=>af
 | n+1=>λa0 a1 a2 a3=>lJ (bz n) (a9 n) (eG n) a0 a1 a2 a3
def cU(a0:List Int)(a1:Int)(a2:Int)(a3:Int):Option (List Int):=bz 64 a0 a1 a2 a3
theorem ni(a0:List Int)(a1:Int)(a2:Int)(a3:Int):Lo (cU a0 a1 a2 a3) (bZ a0 a1 a2 a3):=by
 unfold cU bZ
 repeat' (first | (with_reducible first | refine eG _ _ _ _ _ | apply ag | apply ai | refine aj ?_ _ | exact ah _) | (intro _) | exact af | (dsimp only))
def eh(x:List Int):Option (List Int):=
 (y8 (IntKind.u64.wrap (x.length:Int))).bind λx1=>
 (cU x 0 (x.length:Int) x1).bind λx2=>
 some x2
theorem qv(x:List Int):Lo (eh x) (cY x):=by
 unfold eh cY
 repeat' (first | (with_reducible first | exact ni _ _ _ _ | apply ag | apply ai | refine aj ?_ _ | exact ah _) | (intro _) | exact af | (dsimp only))
def jb(s:State)(t3:State)(t4:List Int×Int):Option ((List Int×Int) ⊕ List Int):=
 bif decide (t4.2<(s.Conts.length:Int))then
 (
  (idx s.Conts t4.2).bind λx5=>
  (jG t3.Conts (λa'=>mY a'.1 x5)).bind λx6=>
  bif ! x6 then
  (app 8 t4.1 [x5.Id]).bind λl=>
  some l
  else
  some t4.1).bind λgone=>
 some (.inl (gone,w64 (t4.2+1)))
 else
 some (.inr t4.1)
theorem vO(s:State)(t3:State)(t4:List Int×Int):Lo (jb s t3 t4) (kX s t3 t4):=by
 unfold jb kX
 repeat' (first | (with_reducible first | refine sN _ _ _ ?_ | apply ag | apply ai | refine aj ?_ _ | exact ah _) | (intro _) | exact af | (dsimp only))
def jc(x2:List Int)(t1:State×Int):Option ((State×Int) ⊕ State):=
 bif decide (t1.2<(x2.length:Int))then
 (inb t1.2 x2.length).bind λi=>
 (x2[i]?).bind λx3=>
 (fA t1.1.Conts (λa'=>lN a'.1 x3)).bind λi1=>
 (inb i1 t1.1.Conts.length).bind λi2=>
 (t1.1.Conts[i2]?).bind λx4=>
 some (.inl ((⟨⟨t1.1.Conf.Labels,t1.1.Conf.Queues⟩,t1.1.Nodes,t1.1.Apps,List.set t1.1.Conts i2 (⟨x4.Id,x4.App,x4.Node,⟨x4.Size.Mem,x4.Size.Cores⟩,x4.Prio,x4.Label,x4.Master,imax t1.1.Now 1⟩:Cont),t1.1.Slots,t1.1.Plans,t1.1.Now,t1.1.Epoch,t1.1.Seq⟩:State),w64 (t1.2+1)))
 else
 some (.inr t1.1)
theorem vM(x2:List Int)(t1:State×Int):Lo (jc x2 t1) (kQ x2 t1):=by
 unfold jc kQ
 repeat' (first | (with_reducible first | refine ju _ _ _ ?_ | apply ag | apply ai | refine aj ?_ _ | exact ah _) | (intro _) | exact af | (dsimp only))
def iW(s:State)(t:State×Int):Option ((State×Int) ⊕ State):=
 bif decide (t.2<(s.Conf.Labels.length:Int))then
 (oj t.1 t.2).bind λx1=>
 (nE x1 t.2).bind λx2=>
 (itr 4096 (jc x2) (x1,0)).bind λt2=>
 some (.inl (t2,w64 (t.2+1)))
 else
 some (.inr t.1)
theorem wi(s:State)(t:State×Int):Lo (iW s t) (kL s t):=by
 unfold iW kL
 repeat' (first | (with_reducible first | exact zQ _ _ | exact z_ _ _ | exact vM _ _ | apply ag | apply ai | refine aj ?_ _ | exact ah _) | (intro _) | exact af | (dsimp only))
def ms(s:State):Option (State×List Int):=
 (bX s []).bind λx=>
 (itr 4096 (iW s) (x,0)).bind λt3=>
 (itr 4096 (jb s t3) ([],0)).bind λgone1=>
 (eh gone1).bind λx7=>
 some (t3,x7)
theorem zf(s:State):Lo (ms s) (kJ s):=by
 unfold ms kJ
 repeat' (first | (with_reducible first | exact gv _ _ | exact wi _ _ | exact vO _ _ _ | exact qv _ | apply ag | apply ai | refine aj ?_ _ | exact ah _) | (intro _) | exact af | (dsimp only))
def fy(t:Step)(was:List Cont)(x5:State×List Int)(t3:Output×Int):Option ((Output×Int) ⊕ Output):=
 bif decide (t3.2<(was.length:Int))then
 (
  (inb t3.2 was.length).bind λi2=>
  (was[i2]?).bind λx6=>
  (cp (⟨⟨⟨x5.1.Conf.Labels,x5.1.Conf.Queues⟩,x5.1.Nodes,x5.1.Apps,x5.1.Conts,x5.1.Slots,x5.1.Plans,x5.1.Now,x5.1.Epoch,x5.1.Seq⟩,⟨t.x.Kind,t.x.Id,t.x.Beat,t.x.N,t.x.Text,⟨t.x.Node.Id,t.x.Node.Label,t.x.Node.Rack,⟨t.x.Node.Cap.Mem,t.x.Node.Cap.Cores⟩,t.x.Node.Seen,t.x.Node.Beat,t.x.Node.Up⟩,⟨t.x.App.Id,t.x.App.State,t.x.App.Queue,t.x.App.User,t.x.App.Prio,⟨t.x.App.Master.Mem,t.x.App.Master.Cores⟩,t.x.App.Asks,t.x.App.Seen,t.x.App.Beat,t.x.App.Grants,t.x.App.Kills,t.x.App.Told,t.x.App.Lost⟩,t.x.Asks,t.x.Ids,⟨t.x.Plan.Id,t.x.Plan.Label,t.x.Plan.From,t.x.Plan.Until,⟨t.x.Plan.Need.Mem,t.x.Plan.Need.Cores⟩⟩⟩⟩:Step) [x6.Id]).bind λx7=>
  bif(x7.length:Int) == 0 then
  (app 8 t3.1.Gone [x6.Id]).bind λl=>
  some (⟨t3.1.Err,t3.1.Conts,t3.1.Ids,l,t3.1.N⟩:Output)
  else
  some t3.1).bind λout=>
 some (.inl (out,w64 (t3.2+1)))
 else
 some (.inr t3.1)
theorem sD(t:Step)(was:List Cont)(x5:State×List Int)(t3:Output×Int):Lo (fy t was x5 t3) (gV t was x5 t3):=by
 unfold fy gV
 repeat' (first | (with_reducible first | exact lF _ _ | apply ag | apply ai | refine aj ?_ _ | exact ah _) | (intro _) | exact af | (dsimp only))
def iJ(t:Step):Option (Output×Step):=
 (
 bif decide (t.x.N<1)then
  some true
 else
  some (decide (t.x.N>100))).bind λq=>
 bif q then
 none
 else
 bif decide (t.s.Now>(w64 (1000000000 - t.x.N)))then
  none
 else
  (bf t.s.Conts).bind λwas=>
  (oz (⟨⟨t.s.Conf.Labels,t.s.Conf.Queues⟩,t.s.Nodes,t.s.Apps,t.s.Conts,t.s.Slots,t.s.Plans,w64 (t.s.Now+t.x.N),t.s.Epoch,t.s.Seq⟩:State)).bind λx=>
  (itr 4096 (mg x) 0).bind λ_=>
  (pV (⟨⟨t.s.Conf.Labels,t.s.Conf.Queues⟩,t.s.Nodes,t.s.Apps,t.s.Conts,t.s.Slots,t.s.Plans,w64 (t.s.Now+t.x.N),t.s.Epoch,t.s.Seq⟩:State)).bind λx2=>
  (itr 4096 (ng x2) 0).bind λ_=>
  (mz t.s.Plans (λa'=>none)).bind λx4=>
  (ms (⟨⟨t.s.Conf.Labels,t.s.Conf.Queues⟩,t.s.Nodes,t.s.Apps,t.s.Conts,t.s.Slots,x4,w64 (t.s.Now+t.x.N),t.s.Epoch,t.s.Seq⟩:State)).bind λx5=>
  (itr 4096 (fy t was x5) ((⟨0,[],[],[],0⟩:Output),0)).bind λout1=>
  some (out1,(⟨⟨⟨x5.1.Conf.Labels,x5.1.Conf.Queues⟩,x5.1.Nodes,x5.1.Apps,x5.1.Conts,x5.1.Slots,x5.1.Plans,x5.1.Now,x5.1.Epoch,x5.1.Seq⟩,⟨t.x.Kind,t.x.Id,t.x.Beat,t.x.N,t.x.Text,⟨t.x.Node.Id,t.x.Node.Label,t.x.Node.Rack,⟨t.x.Node.Cap.Mem,t.x.Node.Cap.Cores⟩,t.x.Node.Seen,t.x.Node.Beat,t.x.Node.Up⟩,⟨t.x.App.Id,t.x.App.State,t.x.App.Queue,t.x.App.User,t.x.App.Prio,⟨t.x.App.Master.Mem,t.x.App.Master.Cores⟩,t.x.App.Asks,t.x.App.Seen,t.x.App.Beat,t.x.App.Grants,t.x.App.Kills,t.x.App.Told,t.x.App.Lost⟩,t.x.Asks,t.x.Ids,⟨t.x.Plan.Id,t.x.Plan.Label,t.x.Plan.From,t.x.Plan.Until,⟨t.x.Plan.Need.Mem,t.x.Plan.Need.Cores⟩⟩⟩⟩:Step))
theorem uH(t:Step):Lo (iJ t) (fR t):=by
 unfold iJ fR
 repeat' (first | (with_reducible first | exact Ar _ | exact A7 _ | refine zk _ _ _ ?_ | exact zf _ | exact sD _ _ _ _ | apply ag | apply ai | refine aj ?_ _ | exact ah _) | (intro _) | exact af | (dsimp only))
def kh(t:Step):Option (Output×Step):=
 bif t.x.Kind == 1 then
 (ef t).bind λx=>
 some (x.1,x.2)
 else
 bif t.x.Kind == 2 then
  (kV t.s t.x.Node).bind λx1=>
  (dh t x1.1 x1.2).bind λx2=>
  some (x2.1,x2.2)
 else
  bif t.x.Kind == 3 then
  (iA t).bind λx3=>
  some (x3.1,x3.2)
  else
  bif t.x.Kind == 4 then
   (qa t.s t.x.App).bind λx4=>
   (dh t x4.1 x4.2).bind λx5=>
   some (x5.1,x5.2)
  else
   bif t.x.Kind == 5 then
   (gi t).bind λx6=>
   some (x6.1,x6.2)
   else
   bif t.x.Kind == 6 then
    none
   else
    bif t.x.Kind == 7 then
    none
    else
    bif t.x.Kind == 8 then
     (iJ t).bind λx7=>
     some (x7.1,x7.2)
    else
     bif t.x.Kind == 9 then
     none
     else
     bif t.x.Kind == 10 then
      none
     else
      bif t.x.Kind == 11 then
      none
      else
      none
theorem wI(t:Step):Lo (kh t) (iO t):=by
 unfold kh iO
 repeat' (first | (with_reducible first | exact qT _ | exact yn _ _ | exact vm _ | exact Bu _ _ | exact tv _ | exact uH _ | apply ag | apply ai | refine aj ?_ _ | exact ah _) | (intro _) | exact af | (dsimp only))
def jK(s:State)(x:Input):Option (State×Output):=
 (bX s []).bind λx1=>
 (kh (⟨⟨⟨x1.Conf.Labels,x1.Conf.Queues⟩,x1.Nodes,x1.Apps,x1.Conts,x1.Slots,x1.Plans,x1.Now,x1.Epoch,x1.Seq⟩,⟨x.Kind,x.Id,x.Beat,x.N,x.Text,⟨x.Node.Id,x.Node.Label,x.Node.Rack,⟨x.Node.Cap.Mem,x.Node.Cap.Cores⟩,x.Node.Seen,x.Node.Beat,x.Node.Up⟩,⟨x.App.Id,x.App.State,x.App.Queue,x.App.User,x.App.Prio,⟨x.App.Master.Mem,x.App.Master.Cores⟩,x.App.Asks,x.App.Seen,x.App.Beat,x.App.Grants,x.App.Kills,x.App.Told,x.App.Lost⟩,x.Asks,x.Ids,⟨x.Plan.Id,x.Plan.Label,x.Plan.From,x.Plan.Until,⟨x.Plan.Need.Mem,x.Plan.Need.Cores⟩⟩⟩⟩:Step)).bind λx2=>
 bif x2.1.Err != 0 then
 (bX s []).bind λx3=>
 some (x3,x2.1)
 else
 (bX x2.2.s []).bind λx4=>
 some (x4,x2.1)
theorem sV(s:State)(x:Input):Lo (jK s x) (jl s x):=by
 unfold jK jl
 repeat' (first | (with_reducible first | exact gv _ _ | exact wI _ | apply ag | apply ai | refine aj ?_ _ | exact ah _) | (intro _) | exact af | (dsimp only))
def fI(t:State×Int):Option ((State×Int) ⊕ (Bool ⊕ State)):=
 bif decide (t.2<([(⟨2,0,0,0,[],⟨1,0,0,⟨1,1⟩,0,0,false⟩,⟨0,0,[],0,0,⟨0,0⟩,[],0,0,[],[],[],[]⟩,[],[],⟨0,0,0,0,⟨0,0⟩⟩⟩:Input),(⟨4,0,0,0,[],⟨0,0,0,⟨0,0⟩,0,0,false⟩,⟨2,0,([114,111,111,116]:List UInt8),0,0,⟨1,1⟩,[],0,0,[],[],[],[]⟩,[],[],⟨0,0,0,0,⟨0,0⟩⟩⟩:Input),(⟨3,1,1,0,[],⟨0,0,0,⟨0,0⟩,0,0,false⟩,⟨0,0,[],0,0,⟨0,0⟩,[],0,0,[],[],[],[]⟩,[],[],⟨0,0,0,0,⟨0,0⟩⟩⟩:Input)].length:Int))then
 (inb t.2 [(⟨2,0,0,0,[],⟨1,0,0,⟨1,1⟩,0,0,false⟩,⟨0,0,[],0,0,⟨0,0⟩,[],0,0,[],[],[],[]⟩,[],[],⟨0,0,0,0,⟨0,0⟩⟩⟩:Input),(⟨4,0,0,0,[],⟨0,0,0,⟨0,0⟩,0,0,false⟩,⟨2,0,([114,111,111,116]:List UInt8),0,0,⟨1,1⟩,[],0,0,[],[],[],[]⟩,[],[],⟨0,0,0,0,⟨0,0⟩⟩⟩:Input),(⟨3,1,1,0,[],⟨0,0,0,⟨0,0⟩,0,0,false⟩,⟨0,0,[],0,0,⟨0,0⟩,[],0,0,[],[],[],[]⟩,[],[],⟨0,0,0,0,⟨0,0⟩⟩⟩:Input)].length).bind λi=>
 ([(⟨2,0,0,0,[],⟨1,0,0,⟨1,1⟩,0,0,false⟩,⟨0,0,[],0,0,⟨0,0⟩,[],0,0,[],[],[],[]⟩,[],[],⟨0,0,0,0,⟨0,0⟩⟩⟩:Input),(⟨4,0,0,0,[],⟨0,0,0,⟨0,0⟩,0,0,false⟩,⟨2,0,([114,111,111,116]:List UInt8),0,0,⟨1,1⟩,[],0,0,[],[],[],[]⟩,[],[],⟨0,0,0,0,⟨0,0⟩⟩⟩:Input),(⟨3,1,1,0,[],⟨0,0,0,⟨0,0⟩,0,0,false⟩,⟨0,0,[],0,0,⟨0,0⟩,[],0,0,[],[],[],[]⟩,[],[],⟨0,0,0,0,⟨0,0⟩⟩⟩:Input)][i]?).bind λx1=>
 (jK t.1 x1).bind λx2=>
 bif x2.2.Err != 0 then
  some (.inr (.inl false))
 else
  some (.inl (x2.1,w64 (t.2+1)))
 else
 some (.inr (.inr (t.1)))
theorem sy(t:State×Int):Lo (fI t) (gS t):=by
 unfold fI gS
 repeat' (first | (with_reducible first | exact sV _ _ | apply ag | apply ai | refine aj ?_ _ | exact ah _) | (intro _) | exact af | (dsimp only))
def iD:Option Bool:=
 (kq).bind λx=>
 (itr 4096 fI (x,0)).bind λq0=>
 match q0 with
 | .inl q=>
 some q
 | .inr s=>
 bif(s.Conts.length:Int) == 1 then
  (inb 0 s.Conts.length).bind λi1=>
  (s.Conts[i1]?).bind λx3=>
  bif x3.Master then
  (iN s).bind λx4=>
  some x4
  else
  some false
 else
  some false
theorem vg:Lo (iD) (fT):=by
 unfold iD fT
 repeat' (first | (with_reducible first | exact sy _ | exact rS _ | apply az | apply aC | apply aA | apply ag | apply ai | refine aj ?_ _ | exact ah _) | (intro _) | exact af | (dsimp only))
def gX(l:List Input)(t:State×State×Int):Option ((State×State×Int) ⊕ ((State×Bool) ⊕ (State×State))):=
 bif decide (t.2.2<(l.length:Int))then
 (idx l t.2.2).bind λx=>
 (jK t.1 x).bind λx1=>
 bif x1.2.Err != 0 then
  some (.inr (.inl (t.1,false)))
 else
  some (.inl (x1.1,t.2.1,w64 (t.2.2+1)))
 else
 some (.inr (.inr (t.1,t.2.1)))
theorem tX(l:List Input)(t:State×State×Int):Lo (gX l t) (je l t):=by
 unfold gX je
 repeat' (first | (with_reducible first | exact sV _ _ | apply ag | apply ai | refine aj ?_ _ | exact ah _) | (intro _) | exact af | (dsimp only))
def cH(s:State)(l:List Input):Option (State×Bool):=
 (itr 4096 (gX l) (s,(⟨⟨[],[]⟩,[],[],[],[],[],0,0,0⟩:State),0)).bind λq0=>
 match q0 with
 | .inl q=>
 some (q.1,q.2)
 | .inr q1=>
 some (q1.1,true)
theorem jo(s:State)(l:List Input):Lo (cH s l) (cv s l):=by
 unfold cH cv
 repeat' (first | (with_reducible first | exact tX _ _ | apply az | apply aC | apply aA | apply ag | apply ai | refine aj ?_ _ | exact ah _) | (intro _) | exact af | (dsimp only))
def gY(s:State)(id_:Int):Option (App×Bool):=
 (itr 4096 (lD s id_) ((⟨0,0,[],0,0,⟨0,0⟩,[],0,0,[],[],[],[]⟩:App),0)).bind λq0=>
 match q0 with
 | .inl q=>
 some (q.1,q.2)
 | .inr q1=>
 some ((⟨0,0,[],0,0,⟨0,0⟩,[],0,0,[],[],[],[]⟩:App),false)
theorem tR(s:State)(id_:Int):Lo (gY s id_) (fx s id_):=by
 unfold gY fx
 repeat' (first | (with_reducible first | apply az | apply aC | apply aA | apply ag | apply ai | refine aj ?_ _ | exact ah _) | (intro _) | exact af | (dsimp only))
def g9(path:List UInt8):Option (List UInt8):=
 let k:=w64 ((path.length:Int) - 1)
 (itr 4096 (lq path) k).bind λk2=>
 bif decide (k2<0)then
 some ([]:List UInt8)
 else
 (slc path 0 k2).bind λs=>
 some s
theorem ug(path:List UInt8):Lo (g9 path) (fk path):=by
 unfold g9 fk
 repeat' (first | (with_reducible first | apply ag | apply ai | refine aj ?_ _ | exact ah _) | (intro _) | exact af | (dsimp only))
def gM(t:List UInt8×List (List UInt8)):Option ((List UInt8×List (List UInt8)) ⊕ List (List UInt8)):=
 bif ! (t.1 == ([]:List UInt8))then
 (app 16 t.2 [t.1]).bind λl=>
 (g9 t.1).bind λpath1=>
 some (.inl (path1,l))
 else
 some (.inr t.2)
theorem uv(t:List UInt8×List (List UInt8)):Lo (gM t) (ji t):=by
 unfold gM ji
 repeat' (first | (with_reducible first | exact ug _ | apply ag | apply ai | refine aj ?_ _ | exact ah _) | (intro _) | exact af | (dsimp only))
def jT(path:List UInt8):Option (List (List UInt8)):=
 (itr 4096 gM (path,[])).bind λl1=>
 some l1
theorem xt(path:List UInt8):Lo (jT path) (iR path):=by
 unfold jT iR
 repeat' (first | (with_reducible first | exact uv _ | apply ag | apply ai | refine aj ?_ _ | exact ah _) | (intro _) | exact af | (dsimp only))
def gn(leaf:List UInt8)(path:List UInt8):Option Bool:=
 (jT leaf).bind λup=>
 (itr 4096 (kC path up) 0).bind λq0=>
 match q0 with
 | .inl q=>
 some q
 | .inr _=>
 some false
theorem tA(leaf:List UInt8)(path:List UInt8):Lo (gn leaf path) (eF leaf path):=by
 unfold gn eF
 repeat' (first | (with_reducible first | exact xt _ | apply az | apply aC | apply aA | apply ag | apply ai | refine aj ?_ _ | exact ah _) | (intro _) | exact af | (dsimp only))
def eO(s:State)(path:List UInt8)(label:Int)(all:Bool)(user:Int)(t:Vec×Int):Option ((Vec×Int) ⊕ Vec):=
 bif decide (t.2<(s.Conts.length:Int))then
 (
  (idx s.Conts t.2).bind λx=>
  (gY s x.App).bind λx1=>
  (
  bif x1.2 then
   (idx s.Conts t.2).bind λx2=>
   bif x2.Label == label then
   (gn x1.1.Queue path).bind λx3=>
   bif x3 then
    bif all then
    some true
    else
    some (x1.1.User == user)
   else
    some false
   else
   some false
  else
   some false).bind λq=>
  bif q then
  (idx s.Conts t.2).bind λx4=>
  (jR t.1 x4.Size).bind λx5=>
  some x5
  else
  some t.1).bind λv=>
 some (.inl (v,w64 (t.2+1)))
 else
 some (.inr t.1)
theorem rn(s:State)(path:List UInt8)(label:Int)(all:Bool)(user:Int)(t:Vec×Int):Lo (eO s path label all user t) (fV s path label all user t):=by
 unfold eO fV
 repeat' (first | (with_reducible first | exact tR _ _ | exact tA _ _ | apply ag | apply ai | refine aj ?_ _ | exact ah _) | (intro _) | exact af | (dsimp only))
def gL(s:State)(path:List UInt8)(label:Int)(all:Bool)(user:Int):Option Vec:=
 (itr 4096 (eO s path label all user) ((⟨0,0⟩:Vec),0)).bind λv1=>
 some v1
theorem ua(s:State)(path:List UInt8)(label:Int)(all:Bool)(user:Int):Lo (gL s path label all user) (fp s path label all user):=by
 unfold gL fp
 repeat' (first | (with_reducible first | exact rn _ _ _ _ _ _ | apply ag | apply ai | refine aj ?_ _ | exact ah _) | (intro _) | exact af | (dsimp only))
def co(s:State)(path:List UInt8)(label:Int):Option Vec:=
 (gL s path label true 0).bind λx=>
 some x
theorem uz(s:State)(path:List UInt8)(label:Int):Lo (co s path label) (b_ s path label):=by
 unfold co b_
 repeat' (first | (with_reducible first | exact ua _ _ _ _ _ | apply ag | apply ai | refine aj ?_ _ | exact ah _) | (intro _) | exact af | (dsimp only))
def cN(q1:State×Int)(t1:State×Bool×Int):Option ((State×Bool×Int) ⊕ ((State×Bool))):=
 (
 bif decide (t1.2.2<11)then
  some t1.2.1
 else
  some false).bind λq2=>
 bif q2 then
 (cH t1.1 [(⟨8,0,0,1,[],⟨0,0,0,⟨0,0⟩,0,0,false⟩,⟨0,0,[],0,0,⟨0,0⟩,[],0,0,[],[],[],[]⟩,[],[],⟨0,0,0,0,⟨0,0⟩⟩⟩:Input),(⟨5,1,w64 (2+t1.2.2),0,[],⟨0,0,0,⟨0,0⟩,0,0,false⟩,⟨0,0,[],0,0,⟨0,0⟩,[],0,0,[],[],[],[]⟩,[],[],⟨0,0,0,0,⟨0,0⟩⟩⟩:Input),(⟨5,2,w64 (2+t1.2.2),0,[],⟨0,0,0,⟨0,0⟩,0,0,false⟩,⟨0,0,[],0,0,⟨0,0⟩,[],0,0,[],[],[],[]⟩,[],[],⟨0,0,0,0,⟨0,0⟩⟩⟩:Input),(⟨3,1,w64 (q1.2+t1.2.2),0,[],⟨0,0,0,⟨0,0⟩,0,0,false⟩,⟨0,0,[],0,0,⟨0,0⟩,[],0,0,[],[],[],[]⟩,[],[],⟨0,0,0,0,⟨0,0⟩⟩⟩:Input)]).bind λx13=>
 some (.inl (x13.1,x13.2,w64 (t1.2.2+1)))
 else
 some (.inr (t1.1,t1.2.1))
theorem mL(q1:State×Int)(t1:State×Bool×Int):Lo (cN q1 t1) (dm q1 t1):=by
 unfold cN dm
 repeat' (first | (with_reducible first | exact jo _ _ | apply ag | apply ai | refine aj ?_ _ | exact ah _) | (intro _) | exact af | (dsimp only))
def cM(t:State×Int):Option ((State×Int) ⊕ ((State×Int))):=
 bif decide (t.2<12)then
 (cH t.1 [(⟨3,1,t.2,0,[],⟨0,0,0,⟨0,0⟩,0,0,false⟩,⟨0,0,[],0,0,⟨0,0⟩,[],0,0,[],[],[],[]⟩,[],[],⟨0,0,0,0,⟨0,0⟩⟩⟩:Input)]).bind λx9=>
 some (.inl (x9.1,w64 (t.2+1)))
 else
 some (.inr (t.1,t.2))
theorem nf(t:State×Int):Lo (cM t) (dj t):=by
 unfold cM dj
 repeat' (first | (with_reducible first | exact jo _ _ | apply ag | apply ai | refine aj ?_ _ | exact ah _) | (intro _) | exact af | (dsimp only))
def aa(units:Int)(wanted:Int)(first:Bool):Option Bool:=
 (iD).bind λx=>
 bif ! x then
 some false
 else
 (av units 8).bind λx1=>
 let units1:=w64 (2*(w64 (3+x1)))
 (av wanted (w64 ((w64 (Int.tdiv units1 2)) - 1))).bind λx2=>
 (
  bif first then
  some (([114,111,111,116,46,98]:List UInt8),([114,111,111,116,46,97]:List UInt8))
  else
  some (([114,111,111,116,46,97]:List UInt8),([114,111,111,116,46,98]:List UInt8))).bind λq=>
 (kq).bind λx3=>
 (iZ 5000).bind λx4=>
 (cT).bind λx5=>
 (cT).bind λx6=>
 (dJ 40).bind λx7=>
 (cH x3 [(⟨1,0,0,0,x4,⟨0,0,0,⟨0,0⟩,0,0,false⟩,⟨0,0,[],0,0,⟨0,0⟩,[],0,0,[],[],[],[]⟩,[],[],⟨0,0,0,0,⟨0,0⟩⟩⟩:Input),(⟨2,0,0,0,[],⟨1,0,0,⟨units1,units1⟩,0,0,false⟩,⟨0,0,[],0,0,⟨0,0⟩,[],0,0,[],[],[],[]⟩,[],[],⟨0,0,0,0,⟨0,0⟩⟩⟩:Input),(⟨4,0,0,0,[],⟨0,0,0,⟨0,0⟩,0,0,false⟩,⟨1,0,q.1,0,0,⟨x5.Mem,x5.Cores⟩,[],0,0,[],[],[],[]⟩,[],[],⟨0,0,0,0,⟨0,0⟩⟩⟩:Input),(⟨4,0,0,0,[],⟨0,0,0,⟨0,0⟩,0,0,false⟩,⟨2,0,q.2,0,0,⟨x6.Mem,x6.Cores⟩,[],0,0,[],[],[],[]⟩,[],[],⟨0,0,0,0,⟨0,0⟩⟩⟩:Input),(⟨3,1,1,0,[],⟨0,0,0,⟨0,0⟩,0,0,false⟩,⟨0,0,[],0,0,⟨0,0⟩,[],0,0,[],[],[],[]⟩,[],[],⟨0,0,0,0,⟨0,0⟩⟩⟩:Input),(⟨5,1,1,0,[],⟨0,0,0,⟨0,0⟩,0,0,false⟩,⟨0,0,[],0,0,⟨0,0⟩,[],0,0,[],[],[],[]⟩,x7,[],⟨0,0,0,0,⟨0,0⟩⟩⟩:Input)]).bind λx8=>
 bif ! x8.2 then
  some false
 else
  (itr 4096 cM (x8.1,2)).bind λq1=>
  (co q1.1 q.1 0).bind λx10=>
  bif x10.Mem != (w64 (units1 - 1))then
  some false
  else
  (dJ (w64 (1+x2))).bind λx11=>
  (cH q1.1 [(⟨5,2,1,0,[],⟨0,0,0,⟨0,0⟩,0,0,false⟩,⟨0,0,[],0,0,⟨0,0⟩,[],0,0,[],[],[],[]⟩,x11,[],⟨0,0,0,0,⟨0,0⟩⟩⟩:Input)]).bind λx12=>
  (itr 4096 (cN q1) (x12.1,x12.2,0)).bind λq3=>
  bif q3.2 then
   (co q3.1 q.2 0).bind λx14=>
   bif x14.Mem == (w64 (1+(w64 (1+x2))))then
   (co q3.1 q.1 0).bind λx15=>
   bif x15.Mem == (w64 ((w64 (units1 - 1)) - (w64 (1+x2))))then
    (iN q3.1).bind λx16=>
    some x16
   else
    some false
   else
   some false
  else
   some false
theorem aH(units:Int)(wanted:Int)(first:Bool):Lo (aa units wanted first) (ak units wanted first):=by
 unfold aa ak
 repeat' (first | (with_reducible first | exact vg  | exact jo _ _ | exact nf _ | exact uz _ _ _ | exact mL _ _ | exact rS _ | apply ag | apply ai | refine aj ?_ _ | exact ah _) | (intro _) | exact af | (dsimp only))
end Go.Fx.D
