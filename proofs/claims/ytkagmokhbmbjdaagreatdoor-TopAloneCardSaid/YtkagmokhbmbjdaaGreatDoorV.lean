/-
  The same functions with a bound on the rounds of their loops;that they give what the others give (printed by a program). Conditions: none.
-/
import Derived.Test.YtkagmokhbmbjdaaGreatDoorD
import Derived.Test.YtkagmokhbmbjdaaGreatDoorFxD
namespace Go.Fx.D
open Go Go.Fx
set_option linter.unusedVariables false
set_option linter.unusedSimpArgs false
set_option maxRecDepth 100000
def lV(l:List (List UInt8)):Option Int:=
 (itr 4096 (pR l) ([],0)).bind λq0=>
 match q0 with
 | .inl q1=>
 some q1
 | .inr was=>
 bif decide ((was.length:Int)<(l.length:Int))then
  some 7
 else
  some 0
theorem wT(l:List (List UInt8)):Lo (lV l) (kW l):=by
 unfold lV kW
 repeat' (first | (with_reducible first | apply aw | apply ax | apply ay | apply ag | apply aj | refine ai ?_ _ | exact ah _) | (intro _) | exact ae | (dsimp only))
def b7(s:List UInt8)(c:Int):Option Int:=
 let i:=w64 ((s.length:Int) - 1)
 (itr 4096 (dU s c) i).bind λq0=>
 match q0 with
 | .inl q=>
 some q
 | .inr _=>
 some (-1)
theorem jL(s:List UInt8)(c:Int):Lo (b7 s c) (bw s c):=by
 unfold b7 bw
 repeat' (first | (with_reducible first | apply aw | apply ax | apply ay | apply ag | apply aj | refine ai ?_ _ | exact ah _) | (intro _) | exact ae | (dsimp only))
def fS(s:List UInt8)(substr:List UInt8):Option Int:=
 bif(substr.length:Int) == 0 then
 some (s.length:Int)
 else
 bif(substr.length:Int) == 1 then
  (idx substr 0).bind λch=>
  (b7 s (ch.toNat:Int)).bind λx=>
  some x
 else
  bif(substr.length:Int) == (s.length:Int)then
  bif substr == s then
   some 0
  else
   some (-1)
  else
  bif decide ((substr.length:Int)>(s.length:Int))then
   some (-1)
  else
   none
theorem qt(s:List UInt8)(substr:List UInt8):Lo (fS s substr) (em s substr):=by
 unfold fS em
 repeat' (first | (with_reducible first | exact jL _ _ | apply ag | apply aj | refine ai ?_ _ | exact ah _) | (intro _) | exact ae | (dsimp only))
def gh(path:List UInt8):Option (List UInt8×Bool):=
 (fS path ([46]:List UInt8)).bind λi=>
 bif decide (i<0)then
 some (([]:List UInt8),false)
 else
 (slc path 0 i).bind λs=>
 some (s,true)
theorem lM(path:List UInt8):Lo (gh path) (gG path):=by
 unfold gh gG
 repeat' (first | (with_reducible first | exact qt _ _ | apply ag | apply aj | refine ai ?_ _ | exact ah _) | (intro _) | exact ae | (dsimp only))
def gu(s:List UInt8)(sep:List UInt8)(sepSave:Int)(n:Int):Option (List (List UInt8)):=
 bif n == 0 then
 some []
 else
 bif sep == ([]:List UInt8)then
  none
 else
  (
  bif decide (n<0)then
   (mo s sep).bind λx=>
   some (w64 (x+1))
  else
   some n).bind λn1=>
  let n2:=imin n1 (w64 ((s.length:Int)+1))
  (mkl 16 n2 n2 []).bind λl=>
  (itr 4096 (jX sep sepSave n2) (s,l,0)).bind λq=>
  (inb q.2.2 q.2.1.length).bind λi1=>
  (q.2.1[i1]?).bind λx2=>
  (inS 0 (w64 (q.2.2+1)) (List.set q.2.1 i1 q.1).length).bind λp=>
  some (List.take p.2 (List.set q.2.1 i1 q.1))
theorem rF(s:List UInt8)(sep:List UInt8)(sepSave:Int)(n:Int):Lo (gu s sep sepSave n) (eT s sep sepSave n):=by
 unfold gu eT
 repeat' (first | (with_reducible first | apply ag | apply aj | refine ai ?_ _ | exact ah _) | (intro _) | exact ae | (dsimp only))
def dF(s:List UInt8)(sep:List UInt8):Option (List (List UInt8)):=
 (gu s sep 0 (-1)).bind λx=>
 some x
theorem iy(s:List UInt8)(sep:List UInt8):Lo (dF s sep) (dC s sep):=by
 unfold dF dC
 repeat' (first | (with_reducible first | exact rF _ _ _ _ | apply ag | apply aj | refine ai ?_ _ | exact ah _) | (intro _) | exact ae | (dsimp only))
def a7(s:List (List UInt8))(f:(TupT fam [.str]→Option Bool))(t:Int):Option (Int ⊕ (Int ⊕ Unit)):=
 bif decide (t<(s.length:Int))then
 (idx s t).bind λx=>
 (f (x,())).bind λr=>
 bif r then
  some (.inr (.inl t))
 else
  some (.inl (w64 (t+1)))
 else
 some (.inr (.inr ()))
theorem fw(s:List (List UInt8))(f f_':(TupT fam [.str]→Option Bool))(h_f:∀a,Lo (f a) (f_' a))(t:Int):Lo (a7 s f t) (bi s f_' t):=by
 unfold a7 bi
 repeat' (first | (with_reducible first | exact h_f _ | apply ag | apply aj | refine ai ?_ _ | exact ah _) | (intro _) | exact ae | (dsimp only))
def aR(s:List (List UInt8))(f:(TupT fam [.str]→Option Bool)):Option Int:=
 (itr 4096 (a7 s f) 0).bind λq0=>
 match q0 with
 | .inl q=>
 some q
 | .inr _=>
 some (-1)
theorem cu(s:List (List UInt8))(f f_':(TupT fam [.str]→Option Bool))(h_f:∀a,Lo (f a) (f_' a)):Lo (aR s f) (aL s f_'):=by
 unfold aR aL
 repeat' (first | (with_reducible first | refine fw _ _ _ ?_ _ | exact h_f _ | apply aw | apply ax | apply ay | apply ag | apply aj | refine ai ?_ _ | exact ah _) | (intro _) | exact ae | (dsimp only))
def aY(s:List (List UInt8))(f:(TupT fam [.str]→Option Bool)):Option Bool:=
 (aR s f).bind λx=>
 some (decide (x≥0))
theorem fy(s:List (List UInt8))(f f_':(TupT fam [.str]→Option Bool))(h_f:∀a,Lo (f a) (f_' a)):Lo (aY s f) (aQ s f_'):=by
 unfold aY aQ
 repeat' (first | (with_reducible first | refine cu _ _ _ ?_ | exact h_f _ | apply ag | apply aj | refine ai ?_ _ | exact ah _) | (intro _) | exact ae | (dsimp only))
def mi(s:List UInt8):Option Bool:=
 (dF s ([46]:List UInt8)).bind λl=>
 (inb 0 l.length).bind λi=>
 (l[i]?).bind λx=>
 bif x == ([114,111,111,116]:List UInt8)then
 bif decide ((l.length:Int)≤4)then
  (aY l (λa'=>lN a'.1)).bind λx1=>
  some (! x1)
 else
  some false
 else
 some false
theorem wS(s:List UInt8):Lo (mi s) (kP s):=by
 unfold mi kP
 repeat' (first | (with_reducible first | exact iy _ _ | refine fy _ _ _ ?_ | apply ag | apply aj | refine ai ?_ _ | exact ah _) | (intro _) | exact ae | (dsimp only))
def mn(s:List Cap)(f:(TupT fam [.st 1]→Option Bool))(t:Int):Option (Int ⊕ (Int ⊕ Unit)):=
 bif decide (t<(s.length:Int))then
 (idx s t).bind λx=>
 (f (x,())).bind λr=>
 bif r then
  some (.inr (.inl t))
 else
  some (.inl (w64 (t+1)))
 else
 some (.inr (.inr ()))
theorem wD(s:List Cap)(f f_':(TupT fam [.st 1]→Option Bool))(h_f:∀a,Lo (f a) (f_' a))(t:Int):Lo (mn s f t) (pE s f_' t):=by
 unfold mn pE
 repeat' (first | (with_reducible first | exact h_f _ | apply ag | apply aj | refine ai ?_ _ | exact ah _) | (intro _) | exact ae | (dsimp only))
def qW(s:List Cap)(f:(TupT fam [.st 1]→Option Bool)):Option Int:=
 (itr 4096 (mn s f) 0).bind λq0=>
 match q0 with
 | .inl q=>
 some q
 | .inr _=>
 some (-1)
theorem Aj(s:List Cap)(f f_':(TupT fam [.st 1]→Option Bool))(h_f:∀a,Lo (f a) (f_' a)):Lo (qW s f) (qv s f_'):=by
 unfold qW qv
 repeat' (first | (with_reducible first | refine wD _ _ _ ?_ _ | exact h_f _ | apply aw | apply ax | apply ay | apply ag | apply aj | refine ai ?_ _ | exact ah _) | (intro _) | exact ae | (dsimp only))
def kC(s:List Cap)(f:(TupT fam [.st 1]→Option Bool)):Option Bool:=
 (qW s f).bind λx=>
 some (decide (x≥0))
theorem vT(s:List Cap)(f f_':(TupT fam [.st 1]→Option Bool))(h_f:∀a,Lo (f a) (f_' a)):Lo (kC s f) (jg s f_'):=by
 unfold kC jg
 repeat' (first | (with_reducible first | refine Aj _ _ _ ?_ | exact h_f _ | apply ag | apply aj | refine ai ?_ _ | exact ah _) | (intro _) | exact ae | (dsimp only))
def ph(l:List Cap):Option Bool:=
 (kC l (λa'=>pq a'.1)).bind λx=>
 some (! x)
theorem zN(l:List Cap):Lo (ph l) (oO l):=by
 unfold ph oO
 repeat' (first | (with_reducible first | refine vT _ _ _ ?_ | apply ag | apply aj | refine ai ?_ _ | exact ah _) | (intro _) | exact ae | (dsimp only))
def iB(c:Conf)(t:List Ent0_ListUInt8Int×List UInt8×Int):Option ((List Ent0_ListUInt8Int×List UInt8×Int) ⊕ (Int ⊕ Unit)):=
 bif decide (t.2.2<(c.Queues.length:Int))then
 (idx c.Queues t.2.2).bind λx=>
 (gh x.Path).bind λx1=>
 (mi x.Path).bind λx2=>
 bif ! x2 then
  some (.inr (.inl 12))
 else
  (
  bif decide (t.2.2>0)then
   some (strLe x.Path t.2.1)
  else
   some false).bind λq=>
  bif q then
  some (.inr (.inl 7))
  else
  (
   bif x1.2 then
   let e:=mget (λx3=>x1.1 == x3.k) t.1 (⟨x1.1,0⟩:Ent0_ListUInt8Int)
   some (e.v == 0)
   else
   some false).bind λq1=>
  bif q1 then
   some (.inr (.inl 12))
  else
   (
   bif decide (x.User<1)then
    some true
   else
    bif decide (x.User>1000000)then
    some true
    else
    bif(x.Caps.length:Int) != (c.Labels.length:Int)then
     some true
    else
     (ph x.Caps).bind λx4=>
     some (! x4)).bind λq2=>
   bif q2 then
   some (.inr (.inl 1))
   else
   let e1:=mget (λx5=>x.Path == x5.k) t.1 (⟨x.Path,0⟩:Ent0_ListUInt8Int)
   some (.inl (mput (λx6=>x.Path == x6.k) t.1 (⟨x.Path,w64 (e1.v+1)⟩:Ent0_ListUInt8Int),x.Path,w64 (t.2.2+1)))
 else
 some (.inr (.inr ()))
theorem tJ(c:Conf)(t:List Ent0_ListUInt8Int×List UInt8×Int):Lo (iB c t) (kD c t):=by
 unfold iB kD
 repeat' (first | (with_reducible first | exact lM _ | exact wS _ | exact zN _ | apply ag | apply aj | refine ai ?_ _ | exact ah _) | (intro _) | exact ae | (dsimp only))
def lR(c:Conf):Option Int:=
 (itr 4096 (iB c) ([],([]:List UInt8),0)).bind λq0=>
 match q0 with
 | .inl q3=>
 some q3
 | .inr _=>
 some 0
theorem wj(c:Conf):Lo (lR c) (kN c):=by
 unfold lR kN
 repeat' (first | (with_reducible first | exact tJ _ _ | apply aw | apply ax | apply ay | apply ag | apply aj | refine ai ?_ _ | exact ah _) | (intro _) | exact ae | (dsimp only))
def kJ(c:Conf)(path:List UInt8)(t:List (List UInt8)×Int):Option ((List (List UInt8)×Int) ⊕ List (List UInt8)):=
 bif decide (t.2<(c.Queues.length:Int))then
 (
  (idx c.Queues t.2).bind λx=>
  (gh x.Path).bind λx1=>
  (
  bif x1.2 then
   some (x1.1 == path)
  else
   some false).bind λq=>
  bif q then
  (app 16 t.1 [x.Path]).bind λl=>
  some l
  else
  some t.1).bind λout=>
 some (.inl (out,w64 (t.2+1)))
 else
 some (.inr t.1)
theorem vv(c:Conf)(path:List UInt8)(t:List (List UInt8)×Int):Lo (kJ c path t) (nU c path t):=by
 unfold kJ nU
 repeat' (first | (with_reducible first | exact lM _ | apply ag | apply aj | refine ai ?_ _ | exact ah _) | (intro _) | exact ae | (dsimp only))
def ii(c:Conf)(path:List UInt8):Option (List (List UInt8)):=
 (itr 4096 (kJ c path) ([],0)).bind λout1=>
 some out1
theorem m9(c:Conf)(path:List UInt8):Lo (ii c path) (iS c path):=by
 unfold ii iS
 repeat' (first | (with_reducible first | exact vv _ _ _ | apply ag | apply aj | refine ai ?_ _ | exact ah _) | (intro _) | exact ae | (dsimp only))
def jy(s:List Queue)(f:(TupT fam [.st 2]→Option Bool))(t:Int):Option (Int ⊕ (Int ⊕ Unit)):=
 bif decide (t<(s.length:Int))then
 (idx s t).bind λx=>
 (f (x,())).bind λr=>
 bif r then
  some (.inr (.inl t))
 else
  some (.inl (w64 (t+1)))
 else
 some (.inr (.inr ()))
theorem uO(s:List Queue)(f f_':(TupT fam [.st 2]→Option Bool))(h_f:∀a,Lo (f a) (f_' a))(t:Int):Lo (jy s f t) (l_ s f_' t):=by
 unfold jy l_
 repeat' (first | (with_reducible first | exact h_f _ | apply ag | apply aj | refine ai ?_ _ | exact ah _) | (intro _) | exact ae | (dsimp only))
def m_(s:List Queue)(f:(TupT fam [.st 2]→Option Bool)):Option Int:=
 (itr 4096 (jy s f) 0).bind λq0=>
 match q0 with
 | .inl q=>
 some q
 | .inr _=>
 some (-1)
theorem yc(s:List Queue)(f f_':(TupT fam [.st 2]→Option Bool))(h_f:∀a,Lo (f a) (f_' a)):Lo (m_ s f) (mL s f_'):=by
 unfold m_ mL
 repeat' (first | (with_reducible first | refine uO _ _ _ ?_ _ | exact h_f _ | apply aw | apply ax | apply ay | apply ag | apply aj | refine ai ?_ _ | exact ah _) | (intro _) | exact ae | (dsimp only))
def d6(c:Conf)(path:List UInt8):Option (Queue×Bool):=
 (m_ c.Queues (λa'=>pe a'.1 path)).bind λi=>
 bif decide (i<0)then
 some ((⟨[],[],0⟩:Queue),false)
 else
 (idx c.Queues i).bind λx=>
 (ep x.Caps).bind λx1=>
 some ((⟨x.Path,x1,x.User⟩:Queue),true)
theorem go(c:Conf)(path:List UInt8):Lo (d6 c path) (eN c path):=by
 unfold d6 eN
 repeat' (first | (with_reducible first | refine yc _ _ _ ?_ | apply ag | apply aj | refine ai ?_ _ | exact ah _) | (intro _) | exact ae | (dsimp only))
def kF(c:Conf)(kids:List (List UInt8))(t2:Int)(t3:Int×Int):Option ((Int×Int) ⊕ Int):=
 bif decide (t3.2<(kids.length:Int))then
 (inb t3.2 kids.length).bind λi=>
 (kids[i]?).bind λx3=>
 (d6 c x3).bind λx4=>
 (inb t2 x4.1.Caps.length).bind λi1=>
 (x4.1.Caps[i1]?).bind λx5=>
 let sum:=w64 (t3.1+x5.Least)
 some (.inl (sum,w64 (t3.2+1)))
 else
 some (.inr t3.1)
theorem wh(c:Conf)(kids:List (List UInt8))(t2:Int)(t3:Int×Int):Lo (kF c kids t2 t3) (ot c kids t2 t3):=by
 unfold kF ot
 repeat' (first | (with_reducible first | exact go _ _ | apply ag | apply aj | refine ai ?_ _ | exact ah _) | (intro _) | exact ae | (dsimp only))
def j9(c:Conf)(kids:List (List UInt8))(t2:Int):Option (Int ⊕ (Int ⊕ Unit)):=
 bif decide (t2<(c.Labels.length:Int))then
 (itr 4096 (kF c kids t2) (0,0)).bind λsum1=>
 (
  bif decide ((kids.length:Int)>0)then
  some (sum1 != 10000)
  else
  some false).bind λq2=>
 bif q2 then
  some (.inr (.inl 13))
 else
  some (.inl (w64 (t2+1)))
 else
 some (.inr (.inr ()))
theorem wd(c:Conf)(kids:List (List UInt8))(t2:Int):Lo (j9 c kids t2) (nX c kids t2):=by
 unfold j9 nX
 repeat' (first | (with_reducible first | exact wh _ _ _ _ | apply ag | apply aj | refine ai ?_ _ | exact ah _) | (intro _) | exact ae | (dsimp only))
def kK(c:Conf)(t1:Int):Option (Int ⊕ (Int ⊕ Unit)):=
 bif decide (t1<(c.Queues.length:Int))then
 (idx c.Queues t1).bind λx2=>
 (ii c x2.Path).bind λkids=>
 (itr 4096 (j9 c kids) 0).bind λq0=>
 match q0 with
 | .inl q3=>
  some (.inr (.inl q3))
 | .inr _=>
  some (.inl (w64 (t1+1)))
 else
 some (.inr (.inr ()))
theorem vu(c:Conf)(t1:Int):Lo (kK c t1) (oy c t1):=by
 unfold kK oy
 repeat' (first | (with_reducible first | exact m9 _ _ | exact wd _ _ _ | apply aw | apply ax | apply ay | apply ag | apply aj | refine ai ?_ _ | exact ah _) | (intro _) | exact ae | (dsimp only))
def pB(c:Conf):Option Int:=
 (idx c.Queues 0).bind λx=>
 (itr 4096 (sE x) 0).bind λq0=>
 match q0 with
 | .inl q1=>
 some q1
 | .inr _=>
 (itr 4096 (kK c) 0).bind λq0=>
 match q0 with
 | .inl q4=>
  some q4
 | .inr _=>
  some 0
theorem yP(c:Conf):Lo (pB c) (oM c):=by
 unfold pB oM
 repeat' (first | (with_reducible first | exact vu _ _ | apply aw | apply ax | apply ay | apply ag | apply aj | refine ai ?_ _ | exact ah _) | (intro _) | exact ae | (dsimp only))
def jb(c:Conf):Option Int:=
 (
 bif(c.Labels.length:Int) == 0 then
  some true
 else
  bif decide ((c.Labels.length:Int)>3)then
  some true
  else
  some (decide ((c.Queues.length:Int)>16))).bind λq=>
 bif q then
 some 4
 else
 (lV c.Labels).bind λe=>
 bif e != 0 then
  some e
 else
  (
  bif(c.Queues.length:Int) == 0 then
   some true
  else
   (idx c.Queues 0).bind λx=>
   some (! (x.Path == ([114,111,111,116]:List UInt8)))).bind λq1=>
  bif q1 then
  some 12
  else
  (lR c).bind λe1=>
  bif e1 != 0 then
   some e1
  else
   (pB c).bind λx1=>
   some x1
theorem ri(c:Conf):Lo (jb c) (jl c):=by
 unfold jb jl
 repeat' (first | (with_reducible first | exact wT _ | exact wj _ | exact yP _ | apply ag | apply aj | refine ai ?_ _ | exact ah _) | (intro _) | exact ae | (dsimp only))
def lS(s:List Vec)(f:(TupT fam [.st 0]→Option Bool))(t:Int):Option (Int ⊕ (Int ⊕ Unit)):=
 bif decide (t<(s.length:Int))then
 (idx s t).bind λx=>
 (f (x,())).bind λr=>
 bif r then
  some (.inr (.inl t))
 else
  some (.inl (w64 (t+1)))
 else
 some (.inr (.inr ()))
theorem wY(s:List Vec)(f f_':(TupT fam [.st 0]→Option Bool))(h_f:∀a,Lo (f a) (f_' a))(t:Int):Lo (lS s f t) (pz s f_' t):=by
 unfold lS pz
 repeat' (first | (with_reducible first | exact h_f _ | apply ag | apply aj | refine ai ?_ _ | exact ah _) | (intro _) | exact ae | (dsimp only))
def qr(s:List Vec)(f:(TupT fam [.st 0]→Option Bool)):Option Int:=
 (itr 4096 (lS s f) 0).bind λq0=>
 match q0 with
 | .inl q=>
 some q
 | .inr _=>
 some (-1)
theorem Ai(s:List Vec)(f f_':(TupT fam [.st 0]→Option Bool))(h_f:∀a,Lo (f a) (f_' a)):Lo (qr s f) (qY s f_'):=by
 unfold qr qY
 repeat' (first | (with_reducible first | refine wY _ _ _ ?_ _ | exact h_f _ | apply aw | apply ax | apply ay | apply ag | apply aj | refine ai ?_ _ | exact ah _) | (intro _) | exact ae | (dsimp only))
def lI(s:List Vec)(f:(TupT fam [.st 0]→Option Bool)):Option Bool:=
 (qr s f).bind λx=>
 some (decide (x≥0))
theorem wO(s:List Vec)(f f_':(TupT fam [.st 0]→Option Bool))(h_f:∀a,Lo (f a) (f_' a)):Lo (lI s f) (kY s f_'):=by
 unfold lI kY
 repeat' (first | (with_reducible first | refine Ai _ _ _ ?_ | exact h_f _ | apply ag | apply aj | refine ai ?_ _ | exact ah _) | (intro _) | exact ae | (dsimp only))
def dq(k:Look)(t3:List Vec×Int):Option ((List Vec×Int) ⊕ List Vec):=
 bif decide (t3.2<(k.s.Apps.length:Int))then
 (idx k.s.Apps t3.2).bind λx3=>
 (app 16 t3.1 [x3.Master]).bind λl6=>
 (itr 4096 (iO x3) (l6,0)).bind λl8=>
 some (.inl (l8,w64 (t3.2+1)))
 else
 some (.inr t3.1)
theorem nx(k:Look)(t3:List Vec×Int):Lo (dq k t3) (er k t3):=by
 unfold dq er
 repeat' (first | (with_reducible first | apply ag | apply aj | refine ai ?_ _ | exact ah _) | (intro _) | exact ae | (dsimp only))
def fg(k:Look):Option Bool:=
 (itr 4096 (iV k) ([],0)).bind λl1=>
 (itr 4096 (iK k) (l1,0)).bind λl3=>
 (itr 4096 (iU k) (l3,0)).bind λl5=>
 (itr 4096 (dq k) (l5,0)).bind λl9=>
 (lI l9 (λa'=>fq a'.1)).bind λx5=>
 some (! x5)
theorem p_(k:Look):Lo (fg k) (dR k):=by
 unfold fg dR
 repeat' (first | (with_reducible first | exact nx _ _ | refine wO _ _ _ ?_ | apply ag | apply aj | refine ai ?_ _ | exact ah _) | (intro _) | exact ae | (dsimp only))
def gy(n:Int)(id_:(TupT fam [.int .i64]→Option Int))(i:Int):Option (Int ⊕ (Bool ⊕ Unit)):=
 bif decide (i<n)then
 (id_ (w64 (i - 1),())).bind λr=>
 (id_ (i,())).bind λr1=>
 bif decide (r≥r1)then
  some (.inr (.inl false))
 else
  some (.inl (w64 (i+1)))
 else
 some (.inr (.inr ()))
theorem rG(n:Int)(id_ id__':(TupT fam [.int .i64]→Option Int))(h_id_:∀a,Lo (id_ a) (id__' a))(i:Int):Lo (gy n id_ i) (iE n id__' i):=by
 unfold gy iE
 repeat' (first | (with_reducible first | exact h_id_ _ | apply ag | apply aj | refine ai ?_ _ | exact ah _) | (intro _) | exact ae | (dsimp only))
def bY(n:Int)(most:Int)(id_:(TupT fam [.int .i64]→Option Int)):Option Bool:=
 (itr 4096 (gy n id_) 1).bind λq0=>
 match q0 with
 | .inl q=>
 some q
 | .inr _=>
 some (decide (n≤most))
theorem uC(n:Int)(most:Int)(id_ id__':(TupT fam [.int .i64]→Option Int))(h_id_:∀a,Lo (id_ a) (id__' a)):Lo (bY n most id_) (bZ n most id__'):=by
 unfold bY bZ
 repeat' (first | (with_reducible first | refine rG _ _ _ ?_ _ | exact h_id_ _ | apply aw | apply ax | apply ay | apply ag | apply aj | refine ai ?_ _ | exact ah _) | (intro _) | exact ae | (dsimp only))
def eG(k:Look):Option Bool:=
 (bY (k.s.Nodes.length:Int) 12 (λa'=>ew a'.1 k.s)).bind λx=>
 bif x then
 (bY (k.s.Apps.length:Int) 16 (λa'=>eD a'.1 k.s)).bind λx1=>
 bif x1 then
  (bY (k.s.Conts.length:Int) 200 (λa'=>eu a'.1 k.s)).bind λx2=>
  bif x2 then
  (bY (k.s.Slots.length:Int) 12 (λa'=>eJ a'.1 k.s)).bind λx3=>
  bif x3 then
   (bY (k.s.Plans.length:Int) 12 (λa'=>et a'.1 k.s)).bind λx4=>
   some x4
  else
   some false
  else
  some false
 else
  some false
 else
 some false
theorem pb(k:Look):Lo (eG k) (dg k):=by
 unfold eG dg
 repeat' (first | (with_reducible first | refine uC _ _ _ _ ?_ | apply ag | apply aj | refine ai ?_ _ | exact ah _) | (intro _) | exact ae | (dsimp only))
def ky(s:List Cont)(f:(TupT fam [.st 7]→Option Bool))(t:Int):Option (Int ⊕ (Int ⊕ Unit)):=
 bif decide (t<(s.length:Int))then
 (idx s t).bind λx=>
 (f (x,())).bind λr=>
 bif r then
  some (.inr (.inl t))
 else
  some (.inl (w64 (t+1)))
 else
 some (.inr (.inr ()))
theorem u9(s:List Cont)(f f_':(TupT fam [.st 7]→Option Bool))(h_f:∀a,Lo (f a) (f_' a))(t:Int):Lo (ky s f t) (nA s f_' t):=by
 unfold ky nA
 repeat' (first | (with_reducible first | exact h_f _ | apply ag | apply aj | refine ai ?_ _ | exact ah _) | (intro _) | exact ae | (dsimp only))
def ij(s:List Cont)(f:(TupT fam [.st 7]→Option Bool)):Option Int:=
 (itr 4096 (ky s f) 0).bind λq0=>
 match q0 with
 | .inl q=>
 some q
 | .inr _=>
 some (-1)
theorem nI(s:List Cont)(f f_':(TupT fam [.st 7]→Option Bool))(h_f:∀a,Lo (f a) (f_' a)):Lo (ij s f) (iT s f_'):=by
 unfold ij iT
 repeat' (first | (with_reducible first | refine u9 _ _ _ ?_ _ | exact h_f _ | apply aw | apply ax | apply ay | apply ag | apply aj | refine ai ?_ _ | exact ah _) | (intro _) | exact ae | (dsimp only))
def jZ(s:List Cont)(f:(TupT fam [.st 7]→Option Bool)):Option Bool:=
 (ij s f).bind λx=>
 some (decide (x≥0))
theorem vo(s:List Cont)(f f_':(TupT fam [.st 7]→Option Bool))(h_f:∀a,Lo (f a) (f_' a)):Lo (jZ s f) (jc s f_'):=by
 unfold jZ jc
 repeat' (first | (with_reducible first | refine nI _ _ _ ?_ | exact h_f _ | apply ag | apply aj | refine ai ?_ _ | exact ah _) | (intro _) | exact ae | (dsimp only))
def kt(l:List Cont)(holds:(TupT fam [.st 7]→Option Bool)):Option Bool:=(jZ l (λx=>(holds x).bind λr=>some (!r))).bind λr=>some (!r)
theorem vJ(l:List Cont)(holds holds_':(TupT fam [.st 7]→Option Bool))(h_holds:∀a,Lo (holds a) (holds_' a)):Lo (kt l holds) (jM l holds_'):=by
 unfold kt jM
 repeat' (first | (with_reducible first | refine vo _ _ _ ?_ | exact h_holds _ | apply ag | apply aj | refine ai ?_ _ | exact ah _) | (intro _) | exact ae | (dsimp only))
def mj(s:List App)(f:(TupT fam [.st 6]→Option Bool))(t:Int):Option (Int ⊕ (Int ⊕ Unit)):=
 bif decide (t<(s.length:Int))then
 (idx s t).bind λx=>
 (f (x,())).bind λr=>
 bif r then
  some (.inr (.inl t))
 else
  some (.inl (w64 (t+1)))
 else
 some (.inr (.inr ()))
theorem wq(s:List App)(f f_':(TupT fam [.st 6]→Option Bool))(h_f:∀a,Lo (f a) (f_' a))(t:Int):Lo (mj s f t) (pg s f_' t):=by
 unfold mj pg
 repeat' (first | (with_reducible first | exact h_f _ | apply ag | apply aj | refine ai ?_ _ | exact ah _) | (intro _) | exact ae | (dsimp only))
def jt(s:List App)(f:(TupT fam [.st 6]→Option Bool)):Option Int:=
 (itr 4096 (mj s f) 0).bind λq0=>
 match q0 with
 | .inl q=>
 some q
 | .inr _=>
 some (-1)
theorem pI(s:List App)(f f_':(TupT fam [.st 6]→Option Bool))(h_f:∀a,Lo (f a) (f_' a)):Lo (jt s f) (ko s f_'):=by
 unfold jt ko
 repeat' (first | (with_reducible first | refine wq _ _ _ ?_ _ | exact h_f _ | apply aw | apply ax | apply ay | apply ag | apply aj | refine ai ?_ _ | exact ah _) | (intro _) | exact ae | (dsimp only))
def iQ(s:State)(id_:Int):Option Int:=
 (jt s.Apps (λa'=>sm a'.1 id_)).bind λx=>
 some x
theorem mX(s:State)(id_:Int):Lo (iQ s id_) (j8 s id_):=by
 unfold iQ j8
 repeat' (first | (with_reducible first | refine pI _ _ _ ?_ | apply ag | apply aj | refine ai ?_ _ | exact ah _) | (intro _) | exact ae | (dsimp only))
def fC(s:State)(id_:Int):Option (App×Bool):=
 (iQ s id_).bind λi=>
 bif decide (i<0)then
 some ((⟨0,0,[],0,0,⟨0,0⟩,[],0,0,[],[],[],[]⟩:App),false)
 else
 (idx s.Apps i).bind λx=>
 (iG x).bind λx1=>
 some (x1,true)
theorem jh(s:State)(id_:Int):Lo (fC s id_) (gw s id_):=by
 unfold fC gw
 repeat' (first | (with_reducible first | exact mX _ _ | apply ag | apply aj | refine ai ?_ _ | exact ah _) | (intro _) | exact ae | (dsimp only))
def kj(s:List Node)(f:(TupT fam [.st 4]→Option Bool))(t:Int):Option (Int ⊕ (Int ⊕ Unit)):=
 bif decide (t<(s.length:Int))then
 (idx s t).bind λx=>
 (f (x,())).bind λr=>
 bif r then
  some (.inr (.inl t))
 else
  some (.inl (w64 (t+1)))
 else
 some (.inr (.inr ()))
theorem u4(s:List Node)(f f_':(TupT fam [.st 4]→Option Bool))(h_f:∀a,Lo (f a) (f_' a))(t:Int):Lo (kj s f t) (nk s f_' t):=by
 unfold kj nk
 repeat' (first | (with_reducible first | exact h_f _ | apply ag | apply aj | refine ai ?_ _ | exact ah _) | (intro _) | exact ae | (dsimp only))
def kU(s:List Node)(f:(TupT fam [.st 4]→Option Bool)):Option Int:=
 (itr 4096 (kj s f) 0).bind λq0=>
 match q0 with
 | .inl q=>
 some q
 | .inr _=>
 some (-1)
theorem sy(s:List Node)(f f_':(TupT fam [.st 4]→Option Bool))(h_f:∀a,Lo (f a) (f_' a)):Lo (kU s f) (ll s f_'):=by
 unfold kU ll
 repeat' (first | (with_reducible first | refine u4 _ _ _ ?_ _ | exact h_f _ | apply aw | apply ax | apply ay | apply ag | apply aj | refine ai ?_ _ | exact ah _) | (intro _) | exact ae | (dsimp only))
def jC(s:State)(id_:Int):Option Int:=
 (kU s.Nodes (λa'=>nL id_ a'.1)).bind λx=>
 some x
theorem pG(s:State)(id_:Int):Lo (jC s id_) (kq s id_):=by
 unfold jC kq
 repeat' (first | (with_reducible first | refine sy _ _ _ ?_ | apply ag | apply aj | refine ai ?_ _ | exact ah _) | (intro _) | exact ae | (dsimp only))
def eo(s:State)(id_:Int):Option (Node×Bool):=
 (jC s id_).bind λi=>
 bif decide (i<0)then
 some ((⟨0,0,0,⟨0,0⟩,0,0,false⟩:Node),false)
 else
 (idx s.Nodes i).bind λx=>
 some (x,true)
theorem ir(s:State)(id_:Int):Lo (eo s id_) (fm s id_):=by
 unfold eo fm
 repeat' (first | (with_reducible first | exact pG _ _ | apply ag | apply aj | refine ai ?_ _ | exact ah _) | (intro _) | exact ae | (dsimp only))
def fP(k:Look)(c:Cont):Option Bool:=
 (fC k.s c.App).bind λx=>
 (eo k.s c.Node).bind λx1=>
 bif x.2 then
 (gv x.1).bind λx2=>
 bif x2 then
  bif x1.2 then
  bif x1.1.Up then
   bif x1.1.Label == c.Label then
   bif decide (c.Notice≥0)then
    some (decide (c.Notice≤(imax k.s.Now 1)))
   else
    some false
   else
   some false
  else
   some false
  else
  some false
 else
  some false
 else
 some false
theorem qE(k:Look)(c:Cont):Lo (fP k c) (d7 k c):=by
 unfold fP d7
 repeat' (first | (with_reducible first | exact jh _ _ | exact ir _ _ | apply ag | apply aj | refine ai ?_ _ | exact ah _) | (intro _) | exact ae | (dsimp only))
def kh(s:List Node)(f:(TupT fam [.st 4]→Option Bool)):Option Bool:=
 (kU s f).bind λx=>
 some (decide (x≥0))
theorem we(s:List Node)(f f_':(TupT fam [.st 4]→Option Bool))(h_f:∀a,Lo (f a) (f_' a)):Lo (kh s f) (je s f_'):=by
 unfold kh je
 repeat' (first | (with_reducible first | refine sy _ _ _ ?_ | exact h_f _ | apply ag | apply aj | refine ai ?_ _ | exact ah _) | (intro _) | exact ae | (dsimp only))
def kw(l:List Node)(holds:(TupT fam [.st 4]→Option Bool)):Option Bool:=(kh l (λx=>(holds x).bind λr=>some (!r))).bind λr=>some (!r)
theorem vq(l:List Node)(holds holds_':(TupT fam [.st 4]→Option Bool))(h_holds:∀a,Lo (holds a) (holds_' a)):Lo (kw l holds) (iZ l holds_'):=by
 unfold kw iZ
 repeat' (first | (with_reducible first | refine we _ _ _ ?_ | exact h_holds _ | apply ag | apply aj | refine ai ?_ _ | exact ah _) | (intro _) | exact ae | (dsimp only))
def fM(k:Look)(n:Node):Option Bool:=
 (itr 4096 (jQ k n) ((⟨0,0⟩:Vec),0)).bind λq0=>
 match q0 with
 | .inl q1=>
 some q1
 | .inr sum1=>
 (bJ sum1 n.Cap).bind λx2=>
 some x2
theorem qQ(k:Look)(n:Node):Lo (fM k n) (eg k n):=by
 unfold fM eg
 repeat' (first | (with_reducible first | apply aw | apply ax | apply ay | apply ag | apply aj | refine ai ?_ _ | exact ah _) | (intro _) | exact ae | (dsimp only))
def lZ(s:List App)(f:(TupT fam [.st 6]→Option Bool)):Option Bool:=
 (jt s f).bind λx=>
 some (decide (x≥0))
theorem wA(s:List App)(f f_':(TupT fam [.st 6]→Option Bool))(h_f:∀a,Lo (f a) (f_' a)):Lo (lZ s f) (kR s f_'):=by
 unfold lZ kR
 repeat' (first | (with_reducible first | refine pI _ _ _ ?_ | exact h_f _ | apply ag | apply aj | refine ai ?_ _ | exact ah _) | (intro _) | exact ae | (dsimp only))
def lH(l:List App)(holds:(TupT fam [.st 6]→Option Bool)):Option Bool:=(lZ l (λx=>(holds x).bind λr=>some (!r))).bind λr=>some (!r)
theorem wl(l:List App)(holds holds_':(TupT fam [.st 6]→Option Bool))(h_holds:∀a,Lo (holds a) (holds_' a)):Lo (lH l holds) (kX l holds_'):=by
 unfold lH kX
 repeat' (first | (with_reducible first | refine wA _ _ _ ?_ | exact h_holds _ | apply ag | apply aj | refine ai ?_ _ | exact ah _) | (intro _) | exact ae | (dsimp only))
def ia(c:Conf)(path:List UInt8):Option Bool:=
 (d6 c path).bind λx=>
 bif x.2 then
 (ii c path).bind λx1=>
 some ((x1.length:Int) == 0)
 else
 some false
theorem nR(c:Conf)(path:List UInt8):Lo (ia c path) (iJ c path):=by
 unfold ia iJ
 repeat' (first | (with_reducible first | exact go _ _ | exact m9 _ _ | apply ag | apply aj | refine ai ?_ _ | exact ah _) | (intro _) | exact ae | (dsimp only))
def gp(k:Look)(a:App):Option Bool:=
 (itr 4096 (jV k a) (0,0,0)).bind λq2=>
 (
 bif a.State == 1 then
  bif decide (q2.2>0)then
  some (.inr false)
  else
  some (.inl ())
 else
  bif a.State == 2 then
  bif q2.1 != 1 then
   some (.inr false)
  else
   some (.inl ())
  else
  some (.inr true):Option (Unit ⊕ Bool)).bind λq0=>
 match q0 with
 | .inl _=>
 (ia k.s.Conf a.Queue).bind λx1=>
 some x1
 | .inr q3=>
 some q3
theorem rC(k:Look)(a:App):Lo (gp k a) (eZ k a):=by
 unfold gp eZ
 repeat' (first | (with_reducible first | exact nR _ _ | apply aw | apply ax | apply ay | apply ag | apply aj | refine ai ?_ _ | exact ah _) | (intro _) | exact ae | (dsimp only))
def kb(s:List Slot)(f:(TupT fam [.st 8]→Option Bool))(t:Int):Option (Int ⊕ (Int ⊕ Unit)):=
 bif decide (t<(s.length:Int))then
 (idx s t).bind λx=>
 (f (x,())).bind λr=>
 bif r then
  some (.inr (.inl t))
 else
  some (.inl (w64 (t+1)))
 else
 some (.inr (.inr ()))
theorem vS(s:List Slot)(f f_':(TupT fam [.st 8]→Option Bool))(h_f:∀a,Lo (f a) (f_' a))(t:Int):Lo (kb s f t) (nE s f_' t):=by
 unfold kb nE
 repeat' (first | (with_reducible first | exact h_f _ | apply ag | apply aj | refine ai ?_ _ | exact ah _) | (intro _) | exact ae | (dsimp only))
def kM(s:List Slot)(f:(TupT fam [.st 8]→Option Bool)):Option Int:=
 (itr 4096 (kb s f) 0).bind λq0=>
 match q0 with
 | .inl q=>
 some q
 | .inr _=>
 some (-1)
theorem rU(s:List Slot)(f f_':(TupT fam [.st 8]→Option Bool))(h_f:∀a,Lo (f a) (f_' a)):Lo (kM s f) (lu s f_'):=by
 unfold kM lu
 repeat' (first | (with_reducible first | refine vS _ _ _ ?_ _ | exact h_f _ | apply aw | apply ax | apply ay | apply ag | apply aj | refine ai ?_ _ | exact ah _) | (intro _) | exact ae | (dsimp only))
def j_(s:List Slot)(f:(TupT fam [.st 8]→Option Bool)):Option Bool:=
 (kM s f).bind λx=>
 some (decide (x≥0))
theorem vZ(s:List Slot)(f f_':(TupT fam [.st 8]→Option Bool))(h_f:∀a,Lo (f a) (f_' a)):Lo (j_ s f) (jm s f_'):=by
 unfold j_ jm
 repeat' (first | (with_reducible first | refine rU _ _ _ ?_ | exact h_f _ | apply ag | apply aj | refine ai ?_ _ | exact ah _) | (intro _) | exact ae | (dsimp only))
def kL(l:List Slot)(holds:(TupT fam [.st 8]→Option Bool)):Option Bool:=(j_ l (λx=>(holds x).bind λr=>some (!r))).bind λr=>some (!r)
theorem vk(l:List Slot)(holds holds_':(TupT fam [.st 8]→Option Bool))(h_holds:∀a,Lo (holds a) (holds_' a)):Lo (kL l holds) (ji l holds_'):=by
 unfold kL ji
 repeat' (first | (with_reducible first | refine vZ _ _ _ ?_ | exact h_holds _ | apply ag | apply aj | refine ai ?_ _ | exact ah _) | (intro _) | exact ae | (dsimp only))
def jB(s:State):Option Bool:=
 (jb s.Conf).bind λx=>
 bif x == 0 then
 (fg (⟨⟨⟨s.Conf.Labels,s.Conf.Queues⟩,s.Nodes,s.Apps,s.Conts,s.Slots,s.Plans,s.Now,s.Epoch,s.Seq⟩⟩:Look)).bind λx1=>
 bif x1 then
  (eG (⟨⟨⟨s.Conf.Labels,s.Conf.Queues⟩,s.Nodes,s.Apps,s.Conts,s.Slots,s.Plans,s.Now,s.Epoch,s.Seq⟩⟩:Look)).bind λx2=>
  bif x2 then
  (kt s.Conts (λa'=>fP (⟨⟨⟨s.Conf.Labels,s.Conf.Queues⟩,s.Nodes,s.Apps,s.Conts,s.Slots,s.Plans,s.Now,s.Epoch,s.Seq⟩⟩:Look) a'.1)).bind λx3=>
  bif x3 then
   (kw s.Nodes (λa'=>fM (⟨⟨⟨s.Conf.Labels,s.Conf.Queues⟩,s.Nodes,s.Apps,s.Conts,s.Slots,s.Plans,s.Now,s.Epoch,s.Seq⟩⟩:Look) a'.1)).bind λx4=>
   bif x4 then
   (lH s.Apps (λa'=>gp (⟨⟨⟨s.Conf.Labels,s.Conf.Queues⟩,s.Nodes,s.Apps,s.Conts,s.Slots,s.Plans,s.Now,s.Epoch,s.Seq⟩⟩:Look) a'.1)).bind λx5=>
   bif x5 then
    (kL s.Slots (λa'=>g9 (⟨⟨⟨s.Conf.Labels,s.Conf.Queues⟩,s.Nodes,s.Apps,s.Conts,s.Slots,s.Plans,s.Now,s.Epoch,s.Seq⟩⟩:Look) a'.1)).bind λx6=>
    some x6
   else
    some false
   else
   some false
  else
   some false
  else
  some false
 else
  some false
 else
 some false
theorem uW(s:State):Lo (jB s) (ip s):=by
 unfold jB ip
 repeat' (first | (with_reducible first | exact ri _ | exact p_ _ | exact pb _ | refine vJ _ _ _ ?_ | exact qE _ _ | refine vq _ _ _ ?_ | exact qQ _ _ | refine wl _ _ _ ?_ | exact rC _ _ | refine vk _ _ _ ?_ | apply ag | apply aj | refine ai ?_ _ | exact ah _) | (intro _) | exact ae | (dsimp only))
def mV(s:State):Option State:=
 (aA s.Conf.Labels).bind λx=>
 (cA s.Conf.Queues).bind λx1=>
 (itr 4096 (ua x1) (x1,0,0)).bind λq=>
 bif Nat.ble q.1.length q.2.1 then
 (cz s.Nodes).bind λx5=>
 (cC s.Conts).bind λx6=>
 (cB s.Slots).bind λx7=>
 (gr s.Plans).bind λx8=>
 (da s.Apps).bind λx9=>
 (itr 4096 (ui x9) (x9,0,0)).bind λq1=>
 bif Nat.ble q1.1.length q1.2.1 then
  some (⟨⟨x,q.1⟩,x5,q1.1,x6,x7,x8,s.Now,s.Epoch,s.Seq⟩:State)
 else
  none
 else
 none
theorem Ad(s:State):Lo (mV s) (oh s):=by
 unfold mV oh
 repeat' (first | (with_reducible first | apply ag | apply aj | refine ai ?_ _ | exact ah _) | (intro _) | exact ae | (dsimp only))
def jP(s:State):Option State:=
 (aA s.Conf.Labels).bind λx=>
 (cA s.Conf.Queues).bind λx1=>
 (itr 4096 (ro x1) (x1,0)).bind λq=>
 (cz s.Nodes).bind λx5=>
 (cC s.Conts).bind λx6=>
 (cB s.Slots).bind λx7=>
 (gr s.Plans).bind λx8=>
 (da s.Apps).bind λx9=>
 (itr 4096 (rj x9) (x9,0)).bind λq1=>
 some (⟨⟨x,q⟩,x5,q1,x6,x7,x8,s.Now,s.Epoch,s.Seq⟩:State)
theorem rn(s:State):Lo (jP s) (jG s):=by
 unfold jP jG
 repeat' (first | (with_reducible first | apply ag | apply aj | refine ai ?_ _ | exact ah _) | (intro _) | exact ae | (dsimp only))
def kE(ids:List Int)(x:State)(t:Int):Option (Int ⊕ Unit):=
 bif decide (t<(ids.length:Int))then
 (idx ids t).bind λx1=>
 (ij x.Conts (λa'=>pd a'.1 x1)).bind λk=>
 bif decide (k<0)then
  some (.inl (w64 (t+1)))
 else
  (inb k x.Conts.length).bind λi=>
  (x.Conts[i]?).bind λx2=>
  (iQ x x2.App).bind λi1=>
  (
  bif decide (i1≥0)then
   some x2.Master
  else
   some false).bind λq=>
  bif q then
  none
  else
  none
 else
 some (.inr ())
theorem vj(ids:List Int)(x:State)(t:Int):Lo (kE ids x t) (m0 ids x t):=by
 unfold kE m0
 repeat' (first | (with_reducible first | refine nI _ _ _ ?_ | exact mX _ _ | apply ag | apply aj | refine ai ?_ _ | exact ah _) | (intro _) | exact ae | (dsimp only))
def ca(s:State)(ids:List Int):Option State:=
 (mV s).bind λx=>
 (itr 4096 (kE ids x) 0).bind λ_=>
 (mV x).bind λx3=>
 some x3
theorem jq(s:State)(ids:List Int):Lo (ca s ids) (c9 s ids):=by
 unfold ca c9
 repeat' (first | (with_reducible first | exact Ad _ | exact vj _ _ _ | apply ag | apply aj | refine ai ?_ _ | exact ah _) | (intro _) | exact ae | (dsimp only))
def fG(r:Reader)(w:List (List UInt8)):Option (Int×Reader):=
 bif decide ((r.c.Queues.length:Int)≥16)then
 some (4,r)
 else
 bif(w.length:Int) != (w64 (3+(r.c.Labels.length:Int)))then
  some (6,r)
 else
  (idx w 2).bind λx=>
  (ib x).bind λx1=>
  (idx w 1).bind λx2=>
  (slc w 3 (w.length:Int)).bind λl=>
  (itr 4096 (i_ l) (x1.2,(⟨x2,[],x1.1⟩:Queue),0)).bind λq=>
  bif ! q.1 then
  some (6,r)
  else
  (app 48 r.c.Queues [q.2]).bind λl2=>
  some (0,(⟨⟨r.c.Labels,l2⟩,r.seen⟩:Reader))
theorem qD(r:Reader)(w:List (List UInt8)):Lo (fG r w) (en r w):=by
 unfold fG en
 repeat' (first | (with_reducible first | apply ag | apply aj | refine ai ?_ _ | exact ah _) | (intro _) | exact ae | (dsimp only))
def gx(r:Reader)(w:List (List UInt8)):Option (Int×Reader):=
 bif(w.length:Int) == 0 then
 some (0,r)
 else
 (
  bif ! r.seen then
  (idx w 0).bind λx=>
  some (x == ([108,97,98,101,108,115]:List UInt8))
  else
  some false).bind λq=>
 bif q then
  bif decide ((w.length:Int)>3)then
  some (4,(⟨⟨r.c.Labels,r.c.Queues⟩,true⟩:Reader))
  else
  (mkl 16 (w.length:Int) (w.length:Int) []).bind λl=>
  (inS 1 (l.length:Int) l.length).bind λp=>
  (slc w 1 (w.length:Int)).bind λl1=>
  some (0,(⟨⟨cpy l p.1 p.2 l1,r.c.Queues⟩,true⟩:Reader))
 else
  (
  bif ! r.seen then
   some true
  else
   (idx w 0).bind λx1=>
   some (! (x1 == ([113,117,101,117,101]:List UInt8)))).bind λq1=>
  bif q1 then
  some (6,r)
  else
  (fG r w).bind λx2=>
  some (x2.1,x2.2)
theorem rP(r:Reader)(w:List (List UInt8)):Lo (gx r w) (eP r w):=by
 unfold gx eP
 repeat' (first | (with_reducible first | exact qD _ _ | apply ag | apply aj | refine ai ?_ _ | exact ah _) | (intro _) | exact ae | (dsimp only))
def aV(del:(TupT fam [.str]→Option Bool))(t:List (List UInt8)×Int×Int):Option ((List (List UInt8)×Int×Int) ⊕ ((List (List UInt8)×Int))):=
 bif decide (t.2.2<(t.1.length:Int))then
 (
  (inb t.2.2 t.1.length).bind λi1=>
  (t.1[i1]?).bind λx=>
  (del (x,())).bind λr=>
  bif ! r then
  (inb t.2.1 t.1.length).bind λi2=>
  (t.1[i2]?).bind λx1=>
  some (List.set t.1 i2 x,w64 (t.2.1+1))
  else
  some (t.1,t.2.1)).bind λq=>
 some (.inl (q.1,q.2,w64 (t.2.2+1)))
 else
 some (.inr (t.1,t.2.1))
theorem eQ(del del_':(TupT fam [.str]→Option Bool))(h_del:∀a,Lo (del a) (del_' a))(t:List (List UInt8)×Int×Int):Lo (aV del t) (ba del_' t):=by
 unfold aV ba
 repeat' (first | (with_reducible first | exact h_del _ | apply ag | apply aj | refine ai ?_ _ | exact ah _) | (intro _) | exact ae | (dsimp only))
def bh(s:List (List UInt8))(del:(TupT fam [.str]→Option Bool)):Option (List (List UInt8)):=
 (aR s del).bind λi=>
 bif i == (-1)then
 some s
 else
 (itr 4096 (aV del) (s,i,w64 (i+1))).bind λq1=>
 (inS q1.2 (q1.1.length:Int) q1.1.length).bind λp=>
 (inS 0 q1.2 (cpy q1.1 p.1 p.2 (List.replicate p.2 [])).length).bind λp1=>
 some (List.take p1.2 (cpy q1.1 p.1 p.2 (List.replicate p.2 [])))
theorem fZ(s:List (List UInt8))(del del_':(TupT fam [.str]→Option Bool))(h_del:∀a,Lo (del a) (del_' a)):Lo (bh s del) (aS s del_'):=by
 unfold bh aS
 repeat' (first | (with_reducible first | refine cu _ _ _ ?_ | refine eQ _ _ ?_ _ | exact h_del _ | apply ag | apply aj | refine ai ?_ _ | exact ah _) | (intro _) | exact ae | (dsimp only))
def nO(line:List UInt8):Option (List (List UInt8)):=
 (dF line ([32]:List UInt8)).bind λx=>
 (bh x (λa'=>nc a'.1)).bind λx1=>
 some x1
theorem yf(line:List UInt8):Lo (nO line) (mW line):=by
 unfold nO mW
 repeat' (first | (with_reducible first | exact iy _ _ | refine fZ _ _ _ ?_ | apply ag | apply aj | refine ai ?_ _ | exact ah _) | (intro _) | exact ae | (dsimp only))
def jW(a:Int)(cmp:(TupT fam [.st 2,.st 2]→Option Int))(t1:List Queue×Int):Option ((List Queue×Int) ⊕ List Queue):=none
theorem qS(a:Int)(cmp cmp_':(TupT fam [.st 2,.st 2]→Option Int))(h_cmp:∀a,Lo (cmp a) (cmp_' a))(t1:List Queue×Int):Lo (jW a cmp t1) (my a cmp_' t1):=ae
def fJ(a:Int)(b:Int)(cmp:(TupT fam [.st 2,.st 2]→Option Int))(t:List Queue×Int):Option ((List Queue×Int) ⊕ List Queue):=
 bif decide (t.2<b)then
 (itr 4096 (jW a cmp) (t.1,t.2)).bind λdata1=>
 some (.inl (data1,w64 (t.2+1)))
 else
 some (.inr t.1)
theorem qF(a:Int)(b:Int)(cmp cmp_':(TupT fam [.st 2,.st 2]→Option Int))(h_cmp:∀a,Lo (cmp a) (cmp_' a))(t:List Queue×Int):Lo (fJ a b cmp t) (gS a b cmp_' t):=by
 unfold fJ gS
 repeat' (first | (with_reducible first | refine qS _ _ _ ?_ _ | exact h_cmp _ | apply ag | apply aj | refine ai ?_ _ | exact ah _) | (intro _) | exact ae | (dsimp only))
def eX(data:List Queue)(a:Int)(b:Int)(cmp:(TupT fam [.st 2,.st 2]→Option Int)):Option (List Queue):=
 (itr 4096 (fJ a b cmp) (data,w64 (a+1))).bind λdata2=>
 some data2
theorem mu(data:List Queue)(a:Int)(b:Int)(cmp cmp_':(TupT fam [.st 2,.st 2]→Option Int))(h_cmp:∀a,Lo (cmp a) (cmp_' a)):Lo (eX data a b cmp) (eK data a b cmp_'):=by
 unfold eX eK
 repeat' (first | (with_reducible first | refine qF _ _ _ _ ?_ _ | exact h_cmp _ | apply ag | apply aj | refine ai ?_ _ | exact ah _) | (intro _) | exact ae | (dsimp only))
def mZ(a0:List Queue)(a1:Int)(a2:Int)(a3:Int)(a4:(TupT fam [.st 2,.st 2]→Option Int)):Option (List Queue):=none
theorem tT(a0:List Queue)(a1:Int)(a2:Int)(a3:Int)(a4 a4_':(TupT fam [.st 2,.st 2]→Option Int))(h_a4:∀a,Lo (a4 a) (a4_' a)):Lo (mZ a0 a1 a2 a3 a4) (gH a0 a1 a2 a3 a4_'):=ae
def jT(n:Int)(cmp:(TupT fam [.st 2,.st 2]→Option Int))(t1:List Queue×Int)(t2:List Queue×Int×Int):Option ((List Queue×Int×Int) ⊕ ((List Queue×Int))):=none
theorem qG(n:Int)(cmp cmp_':(TupT fam [.st 2,.st 2]→Option Int))(h_cmp:∀a,Lo (cmp a) (cmp_' a))(t1:List Queue×Int)(t2:List Queue×Int×Int):Lo (jT n cmp t1 t2) (mv n cmp_' t1 t2):=ae
def fH(n:Int)(cmp:(TupT fam [.st 2,.st 2]→Option Int))(t1:List Queue×Int):Option ((List Queue×Int) ⊕ List Queue):=
 bif decide (t1.2<n)then
 (itr 4096 (jT n cmp t1) (t1.1,0,w64 (2*t1.2))).bind λq1=>
 (
  let m:=w64 (q1.2+t1.2)
  bif decide (m<n)then
  (mZ q1.1 q1.2 m n cmp).bind λx3=>
  some x3
  else
  some q1.1).bind λdata1=>
 some (.inl (data1,w64 (t1.2*2)))
 else
 some (.inr t1.1)
theorem qp(n:Int)(cmp cmp_':(TupT fam [.st 2,.st 2]→Option Int))(h_cmp:∀a,Lo (cmp a) (cmp_' a))(t1:List Queue×Int):Lo (fH n cmp t1) (gW n cmp_' t1):=by
 unfold fH gW
 repeat' (first | (with_reducible first | refine qG _ _ _ ?_ _ _ | refine tT _ _ _ _ _ _ ?_ | exact h_cmp _ | apply ag | apply aj | refine ai ?_ _ | exact ah _) | (intro _) | exact ae | (dsimp only))
def fN(n:Int)(cmp:(TupT fam [.st 2,.st 2]→Option Int))(t:List Queue×Int×Int):Option ((List Queue×Int×Int) ⊕ ((List Queue×Int))):=
 bif decide (t.2.2≤n)then
 (eX t.1 t.2.1 t.2.2 cmp).bind λx=>
 some (.inl (x,t.2.2,w64 (t.2.2+20)))
 else
 some (.inr (t.1,t.2.1))
theorem qO(n:Int)(cmp cmp_':(TupT fam [.st 2,.st 2]→Option Int))(h_cmp:∀a,Lo (cmp a) (cmp_' a))(t:List Queue×Int×Int):Lo (fN n cmp t) (gY n cmp_' t):=by
 unfold fN gY
 repeat' (first | (with_reducible first | refine mu _ _ _ _ _ ?_ | exact h_cmp _ | apply ag | apply aj | refine ai ?_ _ | exact ah _) | (intro _) | exact ae | (dsimp only))
def iF(data:List Queue)(n:Int)(cmp:(TupT fam [.st 2,.st 2]→Option Int)):Option (List Queue):=
 (itr 4096 (fN n cmp) (data,0,20)).bind λq=>
 (eX q.1 q.2 n cmp).bind λx1=>
 (itr 4096 (fH n cmp) (x1,20)).bind λdata2=>
 some data2
theorem tK(data:List Queue)(n:Int)(cmp cmp_':(TupT fam [.st 2,.st 2]→Option Int))(h_cmp:∀a,Lo (cmp a) (cmp_' a)):Lo (iF data n cmp) (gK data n cmp_'):=by
 unfold iF gK
 repeat' (first | (with_reducible first | refine qO _ _ _ ?_ _ | refine mu _ _ _ _ _ ?_ | refine qp _ _ _ ?_ _ | exact h_cmp _ | apply ag | apply aj | refine ai ?_ _ | exact ah _) | (intro _) | exact ae | (dsimp only))
def iH(x:List Queue)(cmp:(TupT fam [.st 2,.st 2]→Option Int)):Option (List Queue):=
 (iF x (x.length:Int) cmp).bind λx1=>
 some x1
theorem tW(x:List Queue)(cmp cmp_':(TupT fam [.st 2,.st 2]→Option Int))(h_cmp:∀a,Lo (cmp a) (cmp_' a)):Lo (iH x cmp) (gM x cmp_'):=by
 unfold iH gM
 repeat' (first | (with_reducible first | refine tK _ _ _ _ ?_ | exact h_cmp _ | apply ag | apply aj | refine ai ?_ _ | exact ah _) | (intro _) | exact ae | (dsimp only))
def jd(x:List (List UInt8))(t:Conf×Reader×Int):Option ((Conf×Reader×Int) ⊕ ((Conf×Int) ⊕ (Conf×Reader))):=
 bif decide (t.2.2<(x.length:Int))then
 (inb t.2.2 x.length).bind λi=>
 (x[i]?).bind λx1=>
 (nO x1).bind λx2=>
 (gx t.2.1 x2).bind λe=>
 bif e.1 != 0 then
  some (.inr (.inl ((⟨[],[]⟩:Conf),e.1)))
 else
  some (.inl (t.1,e.2,w64 (t.2.2+1)))
 else
 some (.inr (.inr (t.1,t.2.1)))
theorem uR(x:List (List UInt8))(t:Conf×Reader×Int):Lo (jd x t) (lP x t):=by
 unfold jd lP
 repeat' (first | (with_reducible first | exact yf _ | exact rP _ _ | apply ag | apply aj | refine ai ?_ _ | exact ah _) | (intro _) | exact ae | (dsimp only))
def om(s:List UInt8):Option (Conf×Int):=
 bif decide ((s.length:Int)>2000)then
 some ((⟨[],[]⟩:Conf),5)
 else
 (dF s ([10]:List UInt8)).bind λx=>
 (itr 4096 (jd x) ((⟨[],[]⟩:Conf),(⟨⟨[],[]⟩,false⟩:Reader),0)).bind λq0=>
 match q0 with
 | .inl q=>
  some (q.1,q.2)
 | .inr q1=>
  bif ! q1.2.seen then
  some ((⟨[],[]⟩:Conf),6)
  else
  (iH q1.2.c.Queues (λa'=>ou a'.1 a'.2.1)).bind λx3=>
  (itr 4096 (rt x3) (q1.1,0)).bind λq0=>
  match q0 with
  | .inl q3=>
   some (q3.1,q3.2)
  | .inr q4=>
   some ((⟨q1.2.c.Labels,x3⟩:Conf),0)
theorem xX(s:List UInt8):Lo (om s) (mH s):=by
 unfold om mH
 repeat' (first | (with_reducible first | exact iy _ _ | exact uR _ _ | refine tW _ _ _ ?_ | apply aw | apply ax | apply ay | apply ag | apply aj | refine ai ?_ _ | exact ah _) | (intro _) | exact ae | (dsimp only))
def bM(s1:List (List UInt8))(s2:List (List UInt8)):Option Bool:=
 bif(s1.length:Int) != (s2.length:Int)then
 some false
 else
 (itr 4096 (de s1 s2) 0).bind λq0=>
 match q0 with
 | .inl q=>
  some q
 | .inr _=>
  some true
theorem iz(s1:List (List UInt8))(s2:List (List UInt8)):Lo (bM s1 s2) (bf s1 s2):=by
 unfold bM bf
 repeat' (first | (with_reducible first | apply aw | apply ax | apply ay | apply ag | apply aj | refine ai ?_ _ | exact ah _) | (intro _) | exact ae | (dsimp only))
def cm(t:Step)(x:Conf×Int)(t1:Int):Option (Int ⊕ Unit):=
 bif decide (t1<(t.s.Apps.length:Int))then
 (idx t.s.Apps t1).bind λx2=>
 (
  (gv x2).bind λx3=>
  bif x3 then
  (ia x.1 x2.Queue).bind λx4=>
  some (! x4)
  else
  some false).bind λq1=>
 bif q1 then
  none
 else
  some (.inl (w64 (t1+1)))
 else
 some (.inr ())
theorem kz(t:Step)(x:Conf×Int)(t1:Int):Lo (cm t x t1) (cM t x t1):=by
 unfold cm cM
 repeat' (first | (with_reducible first | exact nR _ _ | apply ag | apply aj | refine ai ?_ _ | exact ah _) | (intro _) | exact ae | (dsimp only))
def dd(t:Step):Option (Output×Step):=
 (om t.x.Text).bind λx=>
 (
 bif x.2 == 0 then
  (jb x.1).bind λe=>
  some e
 else
  some x.2).bind λe1=>
 bif e1 != 0 then
 none
 else
 (
  bif decide ((t.s.Conf.Labels.length:Int)>(x.1.Labels.length:Int))then
  some true
  else
  (inS 0 (t.s.Conf.Labels.length:Int) x.1.Labels.length).bind λp=>
  (bM t.s.Conf.Labels (sub x.1.Labels p.1 p.2)).bind λx1=>
  some (! x1)).bind λq=>
 bif q then
  none
 else
  (itr 4096 (cm t x) 0).bind λ_=>
  some ((⟨0,[],[],[],0⟩:Output),(⟨⟨⟨x.1.Labels,x.1.Queues⟩,t.s.Nodes,t.s.Apps,t.s.Conts,t.s.Slots,t.s.Plans,t.s.Now,t.s.Epoch,t.s.Seq⟩,⟨t.x.Kind,t.x.Id,t.x.Beat,t.x.N,t.x.Text,⟨t.x.Node.Id,t.x.Node.Label,t.x.Node.Rack,⟨t.x.Node.Cap.Mem,t.x.Node.Cap.Cores⟩,t.x.Node.Seen,t.x.Node.Beat,t.x.Node.Up⟩,⟨t.x.App.Id,t.x.App.State,t.x.App.Queue,t.x.App.User,t.x.App.Prio,⟨t.x.App.Master.Mem,t.x.App.Master.Cores⟩,t.x.App.Asks,t.x.App.Seen,t.x.App.Beat,t.x.App.Grants,t.x.App.Kills,t.x.App.Told,t.x.App.Lost⟩,t.x.Asks,t.x.Ids,⟨t.x.Plan.Id,t.x.Plan.Label,t.x.Plan.From,t.x.Plan.Until,⟨t.x.Plan.Need.Mem,t.x.Plan.Need.Cores⟩⟩⟩⟩:Step))
theorem mU(t:Step):Lo (dd t) (b_ t):=by
 unfold dd b_
 repeat' (first | (with_reducible first | exact xX _ | exact ri _ | exact iz _ _ | exact kz _ _ _ | apply ag | apply aj | refine ai ?_ _ | exact ah _) | (intro _) | exact ae | (dsimp only))
def kT(s:State):Option State:=
 (aA s.Conf.Labels).bind λx=>
 (cA s.Conf.Queues).bind λx1=>
 (itr 4096 (sG x1) (x1,0)).bind λq=>
 (cz s.Nodes).bind λx5=>
 (cC s.Conts).bind λx6=>
 (cB s.Slots).bind λx7=>
 (gr s.Plans).bind λx8=>
 (da s.Apps).bind λx9=>
 (itr 4096 (rZ x9) (x9,0)).bind λq1=>
 some (⟨⟨x,q⟩,x5,q1,x6,x7,x8,s.Now,s.Epoch,s.Seq⟩:State)
theorem sH(s:State):Lo (kT s) (lk s):=by
 unfold kT lk
 repeat' (first | (with_reducible first | apply ag | apply aj | refine ai ?_ _ | exact ah _) | (intro _) | exact ae | (dsimp only))
def iC(s:State)(n:Node):Option (State×Int):=
 (kT s).bind λx=>
 (jC x n.Id).bind λi=>
 (
 (bj n.Id 999).bind λx1=>
 bif ! x1 then
  some true
 else
  (bj n.Label (w64 ((x.Conf.Labels.length:Int) - 1))).bind λx2=>
  bif ! x2 then
  some true
  else
  (bj n.Rack 99).bind λx3=>
  bif ! x3 then
   some true
  else
   (bj n.Cap.Mem 1073741824).bind λx4=>
   bif ! x4 then
   some true
   else
   (bj n.Cap.Cores 1073741824).bind λx5=>
   some (! x5)).bind λq=>
 bif q then
 some (x,1)
 else
 (
  bif decide (i≥0)then
  (inb i x.Nodes.length).bind λi1=>
  (x.Nodes[i1]?).bind λx6=>
  some x6.Up
  else
  some false).bind λq1=>
 bif q1 then
  some (x,7)
 else
  (
  bif decide (i<0)then
   some (decide ((x.Nodes.length:Int)≥12))
  else
   some false).bind λq2=>
  bif q2 then
  some (x,4)
  else
  bif decide (i≥0)then
   (inb i x.Nodes.length).bind λi2=>
   (x.Nodes[i2]?).bind λx7=>
   some ((⟨⟨x.Conf.Labels,x.Conf.Queues⟩,List.set x.Nodes i2 (⟨n.Id,n.Label,n.Rack,⟨n.Cap.Mem,n.Cap.Cores⟩,x.Now,0,true⟩:Node),x.Apps,x.Conts,x.Slots,x.Plans,x.Now,x.Epoch,x.Seq⟩:State),0)
  else
   (itr 4096 (mB n x) 0).bind λk1=>
   (lJ x.Nodes k1 [(⟨n.Id,n.Label,n.Rack,⟨n.Cap.Mem,n.Cap.Cores⟩,x.Now,0,true⟩:Node)]).bind λx9=>
   some ((⟨⟨x.Conf.Labels,x.Conf.Queues⟩,x9,x.Apps,x.Conts,x.Slots,x.Plans,x.Now,x.Epoch,x.Seq⟩:State),0)
theorem tL(s:State)(n:Node):Lo (iC s n) (gC s n):=by
 unfold iC gC
 repeat' (first | (with_reducible first | exact sH _ | exact pG _ _ | apply ag | apply aj | refine ai ?_ _ | exact ah _) | (intro _) | exact ae | (dsimp only))
def cI(t:Step)(node:Int):Option (List Int):=
 (itr 4096 (li t node) ([],0)).bind λout1=>
 some out1
theorem sx(t:Step)(node:Int):Lo (cI t node) (cw t node):=by
 unfold cI cw
 repeat' (first | (with_reducible first | apply ag | apply aj | refine ai ?_ _ | exact ah _) | (intro _) | exact ae | (dsimp only))
def oq(s:State)(id_:Int)(beat:Int):Option (State×Int):=
 (kT s).bind λx=>
 (jC x id_).bind λi=>
 bif decide (i<0)then
 some (x,2)
 else
 (inb i x.Nodes.length).bind λi1=>
 (x.Nodes[i1]?).bind λx1=>
 bif ! x1.Up then
  some (x,18)
 else
  (
  bif decide (beat<0)then
   some true
  else
   (inb i x.Nodes.length).bind λi2=>
   (x.Nodes[i2]?).bind λx2=>
   some (decide (beat<x2.Beat))).bind λq=>
  bif q then
  some (x,15)
  else
  (inb i x.Nodes.length).bind λi3=>
  (x.Nodes[i3]?).bind λx3=>
  bif decide ((w64 (beat - x3.Beat))>1)then
   some (x,1)
  else
   (inb i x.Nodes.length).bind λi4=>
   (x.Nodes[i4]?).bind λx4=>
   (inb i (List.set x.Nodes i4 (⟨x4.Id,x4.Label,x4.Rack,⟨x4.Cap.Mem,x4.Cap.Cores⟩,x.Now,x4.Beat,x4.Up⟩:Node)).length).bind λi5=>
   ((List.set x.Nodes i4 (⟨x4.Id,x4.Label,x4.Rack,⟨x4.Cap.Mem,x4.Cap.Cores⟩,x.Now,x4.Beat,x4.Up⟩:Node))[i5]?).bind λx5=>
   some ((⟨⟨x.Conf.Labels,x.Conf.Queues⟩,List.set (List.set x.Nodes i4 (⟨x4.Id,x4.Label,x4.Rack,⟨x4.Cap.Mem,x4.Cap.Cores⟩,x.Now,x4.Beat,x4.Up⟩:Node)) i5 (⟨x5.Id,x5.Label,x5.Rack,⟨x5.Cap.Mem,x5.Cap.Cores⟩,x5.Seen,beat,x5.Up⟩:Node),x.Apps,x.Conts,x.Slots,x.Plans,x.Now,x.Epoch,x.Seq⟩:State),0)
theorem xS(s:State)(id_:Int)(beat:Int):Lo (oq s id_ beat) (mP s id_ beat):=by
 unfold oq mP
 repeat' (first | (with_reducible first | exact sH _ | exact pG _ _ | apply ag | apply aj | refine ai ?_ _ | exact ah _) | (intro _) | exact ae | (dsimp only))
def bG(s:List Int)(f:(TupT fam [.int .i64]→Option Bool))(t:Int):Option (Int ⊕ (Int ⊕ Unit)):=
 bif decide (t<(s.length:Int))then
 (idx s t).bind λx=>
 (f (x,())).bind λr=>
 bif r then
  some (.inr (.inl t))
 else
  some (.inl (w64 (t+1)))
 else
 some (.inr (.inr ()))
theorem hJ(s:List Int)(f f_':(TupT fam [.int .i64]→Option Bool))(h_f:∀a,Lo (f a) (f_' a))(t:Int):Lo (bG s f t) (bS s f_' t):=by
 unfold bG bS
 repeat' (first | (with_reducible first | exact h_f _ | apply ag | apply aj | refine ai ?_ _ | exact ah _) | (intro _) | exact ae | (dsimp only))
def bg(s:List Int)(f:(TupT fam [.int .i64]→Option Bool)):Option Int:=
 (itr 4096 (bG s f) 0).bind λq0=>
 match q0 with
 | .inl q=>
 some q
 | .inr _=>
 some (-1)
theorem dK(s:List Int)(f f_':(TupT fam [.int .i64]→Option Bool))(h_f:∀a,Lo (f a) (f_' a)):Lo (bg s f) (aU s f_'):=by
 unfold bg aU
 repeat' (first | (with_reducible first | refine hJ _ _ _ ?_ _ | exact h_f _ | apply aw | apply ax | apply ay | apply ag | apply aj | refine ai ?_ _ | exact ah _) | (intro _) | exact ae | (dsimp only))
def cZ(del:(TupT fam [.int .i64]→Option Bool))(t:List Int×Int×Int):Option ((List Int×Int×Int) ⊕ ((List Int×Int))):=none
theorem gQ(del del_':(TupT fam [.int .i64]→Option Bool))(h_del:∀a,Lo (del a) (del_' a))(t:List Int×Int×Int):Lo (cZ del t) (dn del_' t):=ae
def bT(s:List Int)(del:(TupT fam [.int .i64]→Option Bool)):Option (List Int):=
 (bg s del).bind λi=>
 bif i == (-1)then
 some s
 else
 (itr 4096 (cZ del) (s,i,w64 (i+1))).bind λq1=>
 (inS q1.2 (q1.1.length:Int) q1.1.length).bind λp=>
 (inS 0 q1.2 (cpy q1.1 p.1 p.2 (List.replicate p.2 0)).length).bind λp1=>
 some (List.take p1.2 (cpy q1.1 p.1 p.2 (List.replicate p.2 0)))
theorem iX(s:List Int)(del del_':(TupT fam [.int .i64]→Option Bool))(h_del:∀a,Lo (del a) (del_' a)):Lo (bT s del) (br s del_'):=by
 unfold bT br
 repeat' (first | (with_reducible first | refine dK _ _ _ ?_ | refine gQ _ _ ?_ _ | exact h_del _ | apply ag | apply aj | refine ai ?_ _ | exact ah _) | (intro _) | exact ae | (dsimp only))
def nP(s:State)(id_:Int):Option Vec:=
 (itr 4096 (rA s id_) ((⟨0,0⟩:Vec),0)).bind λout1=>
 some out1
theorem xV(s:State)(id_:Int):Lo (nP s id_) (mK s id_):=by
 unfold nP mK
 repeat' (first | (with_reducible first | apply ag | apply aj | refine ai ?_ _ | exact ah _) | (intro _) | exact ae | (dsimp only))
def nK(s:State)(id_:Int):Option Vec:=
 (eo s id_).bind λx=>
 (
 bif ! x.2 then
  some true
 else
  some (! x.1.Up)).bind λq=>
 bif q then
 some (⟨0,0⟩:Vec)
 else
 (nP s id_).bind λx1=>
 some (⟨imax (w64 (x.1.Cap.Mem - x1.Mem)) 0,imax (w64 (x.1.Cap.Cores - x1.Cores)) 0⟩:Vec)
theorem xZ(s:State)(id_:Int):Lo (nK s id_) (mN s id_):=by
 unfold nK mN
 repeat' (first | (with_reducible first | exact ir _ _ | exact xV _ _ | apply ag | apply aj | refine ai ?_ _ | exact ah _) | (intro _) | exact ae | (dsimp only))
def gq(v:View)(c:Cont):Option (App×Bool):=
 (itr 4096 (jU v c) ((⟨0,0,[],0,0,⟨0,0⟩,[],0,0,[],[],[],[]⟩:App),0)).bind λq0=>
 match q0 with
 | .inl q=>
 some (q.1,q.2)
 | .inr q1=>
 some ((⟨0,0,[],0,0,⟨0,0⟩,[],0,0,[],[],[],[]⟩:App),false)
theorem rH(v:View)(c:Cont):Lo (gq v c) (fa v c):=by
 unfold gq fa
 repeat' (first | (with_reducible first | apply aw | apply ax | apply ay | apply ag | apply aj | refine ai ?_ _ | exact ah _) | (intro _) | exact ae | (dsimp only))
def eV(v:View)(t:Vec×Int):Option ((Vec×Int) ⊕ Vec):=
 bif decide (t.2<(v.s.Conts.length:Int))then
 (
  (idx v.s.Conts t.2).bind λx=>
  (gq v x).bind λx1=>
  (
  bif x1.2 then
   bif x.Label == v.label then
   (ki v x1.1).bind λx2=>
   some x2
   else
   some false
  else
   some false).bind λq=>
  bif q then
  (dX t.1 x.Size).bind λx3=>
  some x3.1
  else
  some t.1).bind λout=>
 some (.inl (out,w64 (t.2+1)))
 else
 some (.inr t.1)
theorem qd(v:View)(t:Vec×Int):Lo (eV v t) (f_ v t):=by
 unfold eV f_
 repeat' (first | (with_reducible first | exact rH _ _ | apply ag | apply aj | refine ai ?_ _ | exact ah _) | (intro _) | exact ae | (dsimp only))
def eh(v:View):Option Vec:=
 (itr 4096 (eV v) ((⟨0,0⟩:Vec),0)).bind λout1=>
 some out1
theorem lw(v:View):Lo (eh v) (dP v):=by
 unfold eh dP
 repeat' (first | (with_reducible first | exact qd _ _ | apply ag | apply aj | refine ai ?_ _ | exact ah _) | (intro _) | exact ae | (dsimp only))
def gc(s:State)(path:List UInt8)(label:Int):Option Vec:=
 (eh (⟨⟨⟨s.Conf.Labels,s.Conf.Queues⟩,s.Nodes,s.Apps,s.Conts,s.Slots,s.Plans,s.Now,s.Epoch,s.Seq⟩,path,label,(-1)⟩:View)).bind λx=>
 some x
theorem mf(s:State)(path:List UInt8)(label:Int):Lo (gc s path label) (gN s path label):=by
 unfold gc gN
 repeat' (first | (with_reducible first | exact lw _ | apply ag | apply aj | refine ai ?_ _ | exact ah _) | (intro _) | exact ae | (dsimp only))
def kQ(l:List Vec):Option Vec:=
 (itr 4096 (sd l) ((⟨0,0⟩:Vec),0)).bind λout=>
 some out
theorem sV(l:List Vec):Lo (kQ l) (lv l):=by
 unfold kQ lv
 repeat' (first | (with_reducible first | apply ag | apply aj | refine ai ?_ _ | exact ah _) | (intro _) | exact ae | (dsimp only))
def iq(s:State)(label:Int):Option Vec:=
 (itr 4096 (qj s label) ([],0)).bind λl2=>
 (kQ l2).bind λx1=>
 some x1
theorem qb(s:State)(label:Int):Lo (iq s label) (ig s label):=by
 unfold iq ig
 repeat' (first | (with_reducible first | exact sV _ | apply ag | apply aj | refine ai ?_ _ | exact ah _) | (intro _) | exact ae | (dsimp only))
def m6(t:List UInt8×List (List UInt8)):Option ((List UInt8×List (List UInt8)) ⊕ List (List UInt8)):=
 bif ! (t.1 == ([]:List UInt8))then
 (app 16 t.2 [t.1]).bind λl=>
 (gh t.1).bind λx=>
 some (.inl (x.1,l))
 else
 some (.inr t.2)
theorem xO(t:List UInt8×List (List UInt8)):Lo (m6 t) (qN t):=by
 unfold m6 qN
 repeat' (first | (with_reducible first | exact lM _ | apply ag | apply aj | refine ai ?_ _ | exact ah _) | (intro _) | exact ae | (dsimp only))
def oF(path:List UInt8):Option (List (List UInt8)):=
 (itr 4096 m6 (path,[])).bind λout=>
 some out
theorem vp(path:List UInt8):Lo (oF path) (pJ path):=by
 unfold oF pJ
 repeat' (first | (with_reducible first | exact xO _ | apply ag | apply aj | refine ai ?_ _ | exact ah _) | (intro _) | exact ae | (dsimp only))
def jx(s:State)(label:Int)(part:(TupT fam [.st 1]→Option Int))(up:List (List UInt8))(t:Vec×Vec×Int):Option ((Vec×Vec×Int) ⊕ (Vec ⊕ (Vec×Vec))):=
 bif decide (t.2.2≥0)then
 (inb t.2.2 up.length).bind λi1=>
 (up[i1]?).bind λx2=>
 (d6 s.Conf x2).bind λx3=>
 (
  bif ! x3.2 then
  some true
  else
  bif decide (label<0)then
   some true
  else
   some (decide (label≥(x3.1.Caps.length:Int)))).bind λq=>
 bif q then
  some (.inr (.inl (⟨0,0⟩:Vec)))
 else
  (inb label x3.1.Caps.length).bind λi2=>
  (x3.1.Caps[i2]?).bind λx4=>
  (part (x4,())).bind λr=>
  (jr t.2.1 r).bind λx5=>
  some (.inl (t.1,x5.1,w64 (t.2.2 - 1)))
 else
 some (.inr (.inr (t.1,t.2.1)))
theorem uS(s:State)(label:Int)(part part_':(TupT fam [.st 1]→Option Int))(h_part:∀a,Lo (part a) (part_' a))(up:List (List UInt8))(t:Vec×Vec×Int):Lo (jx s label part up t) (ml s label part_' up t):=by
 unfold jx ml
 repeat' (first | (with_reducible first | exact go _ _ | exact h_part _ | apply ag | apply aj | refine ai ?_ _ | exact ah _) | (intro _) | exact ae | (dsimp only))
def jD(s:State)(path:List UInt8)(label:Int)(part:(TupT fam [.st 1]→Option Int)):Option Vec:=
 (oF path).bind λup=>
 (d6 s.Conf path).bind λx=>
 bif ! x.2 then
 some (⟨0,0⟩:Vec)
 else
 (iq s label).bind λx1=>
 let i:=w64 ((up.length:Int) - 2)
 (itr 4096 (jx s label part up) ((⟨0,0⟩:Vec),x1,i)).bind λq0=>
 match q0 with
 | .inl q1=>
  some q1
 | .inr q2=>
  some q2.2
theorem rz(s:State)(path:List UInt8)(label:Int)(part part_':(TupT fam [.st 1]→Option Int))(h_part:∀a,Lo (part a) (part_' a)):Lo (jD s path label part) (iY s path label part_'):=by
 unfold jD iY
 repeat' (first | (with_reducible first | exact vp _ | exact go _ _ | exact qb _ _ | refine uS _ _ _ _ ?_ _ _ | exact h_part _ | apply aw | apply ax | apply ay | apply ag | apply aj | refine ai ?_ _ | exact ah _) | (intro _) | exact ae | (dsimp only))
def ft(s:State)(path:List UInt8)(label:Int):Option Vec:=
 (jD s path label (λa'=>eY a'.1)).bind λx=>
 some x
theorem kH(s:State)(path:List UInt8)(label:Int):Lo (ft s path label) (fD s path label):=by
 unfold ft fD
 repeat' (first | (with_reducible first | refine rz _ _ _ _ _ ?_ | apply ag | apply aj | refine ai ?_ _ | exact ah _) | (intro _) | exact ae | (dsimp only))
def e_(t:Attempt)(a:App)(x:Ask):Option Bool:=
 (gc t.s a.Queue t.n.Label).bind λx1=>
 (dX x1 x.Size).bind λx2=>
 bif x2.2 == 0 then
 (ft t.s a.Queue t.n.Label).bind λx3=>
 (bJ x2.1 x3).bind λx4=>
 some x4
 else
 some false
theorem pQ(t:Attempt)(a:App)(x:Ask):Lo (e_ t a x) (dG t a x):=by
 unfold e_ dG
 repeat' (first | (with_reducible first | exact mf _ _ _ | exact kH _ _ _ | apply ag | apply aj | refine ai ?_ _ | exact ah _) | (intro _) | exact ae | (dsimp only))
def iD(s:State)(path:List UInt8)(label:Int)(user:Int):Option Vec:=
 bif user == (-1)then
 some (⟨0,0⟩:Vec)
 else
 (eh (⟨⟨⟨s.Conf.Labels,s.Conf.Queues⟩,s.Nodes,s.Apps,s.Conts,s.Slots,s.Plans,s.Now,s.Epoch,s.Seq⟩,path,label,user⟩:View)).bind λx=>
 some x
theorem tQ(s:State)(path:List UInt8)(label:Int)(user:Int):Lo (iD s path label user) (gA s path label user):=by
 unfold iD gA
 repeat' (first | (with_reducible first | exact lw _ | apply ag | apply aj | refine ai ?_ _ | exact ah _) | (intro _) | exact ae | (dsimp only))
def nW(s:State)(path:List UInt8)(label:Int):Option Vec:=
 (d6 s.Conf path).bind λx=>
 (ft s path label).bind λx1=>
 (jr x1 x.1.User).bind λx2=>
 some x2.1
theorem xU(s:State)(path:List UInt8)(label:Int):Lo (nW s path label) (mE s path label):=by
 unfold nW mE
 repeat' (first | (with_reducible first | exact go _ _ | exact kH _ _ _ | apply ag | apply aj | refine ai ?_ _ | exact ah _) | (intro _) | exact ae | (dsimp only))
def eL(t:Attempt)(a:App):Option Bool:=
 (iD t.s a.Queue t.n.Label a.User).bind λx=>
 (nW t.s a.Queue t.n.Label).bind λx1=>
 (bJ x x1).bind λx2=>
 some x2
theorem pc(t:Attempt)(a:App):Lo (eL t a) (dm t a):=by
 unfold eL dm
 repeat' (first | (with_reducible first | exact tQ _ _ _ _ | exact xU _ _ _ | apply ag | apply aj | refine ai ?_ _ | exact ah _) | (intro _) | exact ae | (dsimp only))
def ol(s:State)(path:List UInt8)(label:Int):Option Vec:=
 (jD s path label (λa'=>fO a'.1)).bind λx=>
 some x
theorem x_(s:State)(path:List UInt8)(label:Int):Lo (ol s path label) (mO s path label):=by
 unfold ol mO
 repeat' (first | (with_reducible first | refine rz _ _ _ _ _ ?_ | apply ag | apply aj | refine ai ?_ _ | exact ah _) | (intro _) | exact ae | (dsimp only))
def m7(s:State)(label:Int):Option Vec:=
 (itr 4096 (rg s label) ([],0)).bind λl2=>
 (kQ l2).bind λx1=>
 some x1
theorem ya(s:State)(label:Int):Lo (m7 s label) (mJ s label):=by
 unfold m7 mJ
 repeat' (first | (with_reducible first | exact sV _ | apply ag | apply aj | refine ai ?_ _ | exact ah _) | (intro _) | exact ae | (dsimp only))
def jv(s:State)(label:Int)(size:Vec)(x:List (List UInt8))(t:Int):Option (Int ⊕ (Bool ⊕ Unit)):=
 bif decide (t<(x.length:Int))then
 (inb t x.length).bind λi=>
 (x[i]?).bind λx1=>
 (gc s x1 label).bind λx2=>
 (dX x2 size).bind λx3=>
 (
  bif x3.2 != 0 then
  some true
  else
  (ol s x1 label).bind λx4=>
  (bJ x3.1 x4).bind λx5=>
  some (! x5)).bind λq=>
 bif q then
  some (.inr (.inl false))
 else
  (iq s label).bind λx6=>
  (m7 s label).bind λx7=>
  (
  bif x1 == ([114,111,111,116]:List UInt8)then
   bif ! (((imax (w64 (x6.Mem - x7.Mem)) 0) == x6.Mem)&&((imax (w64 (x6.Cores - x7.Cores)) 0) == x6.Cores))then
   (bJ x3.1 (⟨imax (w64 (x6.Mem - x7.Mem)) 0,imax (w64 (x6.Cores - x7.Cores)) 0⟩:Vec)).bind λx8=>
   some (! x8)
   else
   some false
  else
   some false).bind λq1=>
  bif q1 then
  some (.inr (.inl false))
  else
  some (.inl (w64 (t+1)))
 else
 some (.inr (.inr ()))
theorem uP(s:State)(label:Int)(size:Vec)(x:List (List UInt8))(t:Int):Lo (jv s label size x t) (lK s label size x t):=by
 unfold jv lK
 repeat' (first | (with_reducible first | exact mf _ _ _ | exact x_ _ _ _ | exact qb _ _ | exact ya _ _ | apply ag | apply aj | refine ai ?_ _ | exact ah _) | (intro _) | exact ae | (dsimp only))
def og(s:State)(path:List UInt8)(label:Int)(size:Vec):Option Bool:=
 (oF path).bind λx=>
 (itr 4096 (jv s label size x) 0).bind λq0=>
 match q0 with
 | .inl q2=>
 some q2
 | .inr _=>
 some true
theorem xW(s:State)(path:List UInt8)(label:Int)(size:Vec):Lo (og s path label size) (mG s path label size):=by
 unfold og mG
 repeat' (first | (with_reducible first | exact vp _ | exact uP _ _ _ _ _ | apply aw | apply ax | apply ay | apply ag | apply aj | refine ai ?_ _ | exact ah _) | (intro _) | exact ae | (dsimp only))
def eI(t:Attempt)(a:App)(x:Ask):Option Bool:=
 (og t.s a.Queue t.n.Label x.Size).bind λx1=>
 some x1
theorem pm(t:Attempt)(a:App)(x:Ask):Lo (eI t a x) (dh t a x):=by
 unfold eI dh
 repeat' (first | (with_reducible first | exact xW _ _ _ _ | apply ag | apply aj | refine ai ?_ _ | exact ah _) | (intro _) | exact ae | (dsimp only))
def mC(s:State)(a:App):Option State:=
 (iQ s a.Id).bind λi=>
 bif decide (i≥0)then
 (inb i s.Apps.length).bind λi1=>
 (s.Apps[i1]?).bind λx=>
 some (⟨⟨s.Conf.Labels,s.Conf.Queues⟩,s.Nodes,List.set s.Apps i1 a,s.Conts,s.Slots,s.Plans,s.Now,s.Epoch,s.Seq⟩:State)
 else
 (itr 4096 (ur s a) 0).bind λk1=>
 (na s.Apps k1 [a]).bind λx2=>
 some (⟨⟨s.Conf.Labels,s.Conf.Queues⟩,s.Nodes,x2,s.Conts,s.Slots,s.Plans,s.Now,s.Epoch,s.Seq⟩:State)
theorem ug(s:State)(a:App):Lo (mC s a) (ox s a):=by
 unfold mC ox
 repeat' (first | (with_reducible first | exact mX _ _ | apply ag | apply aj | refine ai ?_ _ | exact ah _) | (intro _) | exact ae | (dsimp only))
def mD(s:State)(a:App):Option State:=
 (jP s).bind λx=>
 (iG a).bind λx1=>
 (mC x x1).bind λx2=>
 some x2
theorem ue(s:State)(a:App):Lo (mD s a) (ng s a):=by
 unfold mD ng
 repeat' (first | (with_reducible first | exact rn _ | exact ug _ _ | apply ag | apply aj | refine ai ?_ _ | exact ah _) | (intro _) | exact ae | (dsimp only))
def gU(s:List Ask)(f:(TupT fam [.st 5]→Option Bool))(t:Int):Option (Int ⊕ (Int ⊕ Unit)):=
 bif decide (t<(s.length:Int))then
 (idx s t).bind λx=>
 (f (x,())).bind λr=>
 bif r then
  some (.inr (.inl t))
 else
  some (.inl (w64 (t+1)))
 else
 some (.inr (.inr ()))
theorem sL(s:List Ask)(f f_':(TupT fam [.st 5]→Option Bool))(h_f:∀a,Lo (f a) (f_' a))(t:Int):Lo (gU s f t) (jk s f_' t):=by
 unfold gU jk
 repeat' (first | (with_reducible first | exact h_f _ | apply ag | apply aj | refine ai ?_ _ | exact ah _) | (intro _) | exact ae | (dsimp only))
def gD(s:List Ask)(f:(TupT fam [.st 5]→Option Bool)):Option Int:=
 (itr 4096 (gU s f) 0).bind λq0=>
 match q0 with
 | .inl q=>
 some q
 | .inr _=>
 some (-1)
theorem oL(s:List Ask)(f f_':(TupT fam [.st 5]→Option Bool))(h_f:∀a,Lo (f a) (f_' a)):Lo (gD s f) (gf s f_'):=by
 unfold gD gf
 repeat' (first | (with_reducible first | refine sL _ _ _ ?_ _ | exact h_f _ | apply aw | apply ax | apply ay | apply ag | apply aj | refine ai ?_ _ | exact ah _) | (intro _) | exact ae | (dsimp only))
def sv(l:List Ask)(prio:Int):Option Int:=
 (gD l (λa'=>sg a'.1 prio)).bind λx=>
 some x
theorem Bz(l:List Ask)(prio:Int):Lo (sv l prio) (tH l prio):=by
 unfold sv tH
 repeat' (first | (with_reducible first | refine oL _ _ _ ?_ | apply ag | apply aj | refine ai ?_ _ | exact ah _) | (intro _) | exact ae | (dsimp only))
def po(l:List Ask)(prio:Int):Option (List Ask×Bool):=
 (nM l).bind λout=>
 (sv out prio).bind λi=>
 bif decide (i<0)then
 some (out,false)
 else
 (inb i out.length).bind λi1=>
 (out[i1]?).bind λx=>
 (inb i (List.set out i1 (⟨x.Prio,x.Label,⟨x.Size.Mem,x.Size.Cores⟩,x.Count,x.Node,x.Rack,0⟩:Ask)).length).bind λi2=>
 ((List.set out i1 (⟨x.Prio,x.Label,⟨x.Size.Mem,x.Size.Cores⟩,x.Count,x.Node,x.Rack,0⟩:Ask))[i2]?).bind λx1=>
 (inb i (List.set out i1 (⟨x.Prio,x.Label,⟨x.Size.Mem,x.Size.Cores⟩,x.Count,x.Node,x.Rack,0⟩:Ask)).length).bind λi3=>
 ((List.set out i1 (⟨x.Prio,x.Label,⟨x.Size.Mem,x.Size.Cores⟩,x.Count,x.Node,x.Rack,0⟩:Ask))[i3]?).bind λx2=>
 (
  (inb i (List.set (List.set out i1 (⟨x.Prio,x.Label,⟨x.Size.Mem,x.Size.Cores⟩,x.Count,x.Node,x.Rack,0⟩:Ask)) i3 (⟨x2.Prio,x2.Label,⟨x2.Size.Mem,x2.Size.Cores⟩,w64 (x1.Count - 1),x2.Node,x2.Rack,x2.Missed⟩:Ask)).length).bind λi4=>
  ((List.set (List.set out i1 (⟨x.Prio,x.Label,⟨x.Size.Mem,x.Size.Cores⟩,x.Count,x.Node,x.Rack,0⟩:Ask)) i3 (⟨x2.Prio,x2.Label,⟨x2.Size.Mem,x2.Size.Cores⟩,w64 (x1.Count - 1),x2.Node,x2.Rack,x2.Missed⟩:Ask))[i4]?).bind λx3=>
  bif decide (x3.Count≤0)then
  (n7 (List.set (List.set out i1 (⟨x.Prio,x.Label,⟨x.Size.Mem,x.Size.Cores⟩,x.Count,x.Node,x.Rack,0⟩:Ask)) i3 (⟨x2.Prio,x2.Label,⟨x2.Size.Mem,x2.Size.Cores⟩,w64 (x1.Count - 1),x2.Node,x2.Rack,x2.Missed⟩:Ask)) i (w64 (i+1))).bind λout1=>
  some out1
  else
  some (List.set (List.set out i1 (⟨x.Prio,x.Label,⟨x.Size.Mem,x.Size.Cores⟩,x.Count,x.Node,x.Rack,0⟩:Ask)) i3 (⟨x2.Prio,x2.Label,⟨x2.Size.Mem,x2.Size.Cores⟩,w64 (x1.Count - 1),x2.Node,x2.Rack,x2.Missed⟩:Ask))).bind λout2=>
 some (out2,true)
theorem yr(l:List Ask)(prio:Int):Lo (po l prio) (oP l prio):=by
 unfold po oP
 repeat' (first | (with_reducible first | exact Bz _ _ | apply ag | apply aj | refine ai ?_ _ | exact ah _) | (intro _) | exact ae | (dsimp only))
def dZ(t:Attempt)(a:App)(x:Ask):Option (Cont×Attempt):=
 (po a.Asks x.Prio).bind λx1=>
 (
 bif a.State == 1 then
  some (⟨a.Id,2,a.Queue,a.User,a.Prio,⟨a.Master.Mem,a.Master.Cores⟩,[],t.s.Now,0,a.Grants,a.Kills,a.Told,a.Lost⟩:App)
 else
  (app 8 a.Grants [w64 ((shlK .i64 t.s.Epoch 20)+(w64 (t.s.Seq+1)))]).bind λl=>
  some (⟨a.Id,a.State,a.Queue,a.User,a.Prio,⟨a.Master.Mem,a.Master.Cores⟩,x1.1,a.Seen,a.Beat,l,a.Kills,a.Told,a.Lost⟩:App)).bind λa1=>
 (mD (⟨⟨t.s.Conf.Labels,t.s.Conf.Queues⟩,t.s.Nodes,t.s.Apps,t.s.Conts,t.s.Slots,t.s.Plans,t.s.Now,t.s.Epoch,w64 (t.s.Seq+1)⟩:State) a1).bind λx2=>
 (itr 4096 (gP t x2) 0).bind λk1=>
 (lQ x2.Conts k1 [(⟨w64 ((shlK .i64 t.s.Epoch 20)+(w64 (t.s.Seq+1))),a.Id,t.n.Id,⟨x.Size.Mem,x.Size.Cores⟩,x.Prio,x.Label,a.State == 1,0⟩:Cont)]).bind λx4=>
 some ((⟨w64 ((shlK .i64 t.s.Epoch 20)+(w64 (t.s.Seq+1))),a.Id,t.n.Id,⟨x.Size.Mem,x.Size.Cores⟩,x.Prio,x.Label,a.State == 1,0⟩:Cont),(⟨⟨⟨x2.Conf.Labels,x2.Conf.Queues⟩,x2.Nodes,x2.Apps,x4,x2.Slots,x2.Plans,x2.Now,x2.Epoch,x2.Seq⟩,⟨t.n.Id,t.n.Label,t.n.Rack,⟨t.n.Cap.Mem,t.n.Cap.Cores⟩,t.n.Seen,t.n.Beat,t.n.Up⟩,⟨t.free.Mem,t.free.Cores⟩⟩:Attempt))
theorem oA(t:Attempt)(a:App)(x:Ask):Lo (dZ t a x) (cQ t a x):=by
 unfold dZ cQ
 repeat' (first | (with_reducible first | exact yr _ _ | exact ue _ _ | apply ag | apply aj | refine ai ?_ _ | exact ah _) | (intro _) | exact ae | (dsimp only))
def eE(t:Attempt):Option (Int×Cont×Bool×Attempt):=
 (kM t.s.Slots (λa'=>none)).bind λi=>
 bif decide (i<0)then
 some (0,(⟨0,0,0,⟨0,0⟩,0,0,false,0⟩:Cont),false,t)
 else
 (inb i t.s.Slots.length).bind λi1=>
 (t.s.Slots[i1]?).bind λx=>
 (fC t.s x.App).bind λx1=>
 none
theorem pj(t:Attempt):Lo (eE t) (dl t):=by
 unfold eE dl
 repeat' (first | (with_reducible first | refine rU _ _ _ ?_ | exact jh _ _ | apply ag | apply aj | refine ai ?_ _ | exact ah _) | (intro _) | exact ae | (dsimp only))
def ma(s:List Load)(f:(TupT fam [.st 15,.st 15]→Option Int)):Option (List Load):=sortG (F:=fam) (.st 15) f s
theorem wu(s:List Load)(f f_':(TupT fam [.st 15,.st 15]→Option Int))(h_f:∀a,Lo (f a) (f_' a)):Lo (ma s f) (k_ s f_'):=by
 unfold ma k_
 repeat' (first | (with_reducible first | refine Dd ?_ _ | exact h_f _ | apply ag | apply aj | refine ai ?_ _ | exact ah _) | (intro _) | exact ae | (dsimp only))
def jo(s:State)(label:Int)(x:List (List UInt8))(t:List Load×Int):Option ((List Load×Int) ⊕ List Load):=
 bif decide (t.2<(x.length:Int))then
 (inb t.2 x.length).bind λi=>
 (x[i]?).bind λx1=>
 (gc s x1 label).bind λx2=>
 (ft s x1 label).bind λx3=>
 (app 48 t.1 [(⟨x1,⟨x2.Mem,x2.Cores⟩,⟨x3.Mem,x3.Cores⟩⟩:Load)]).bind λl=>
 some (.inl (l,w64 (t.2+1)))
 else
 some (.inr t.1)
theorem ux(s:State)(label:Int)(x:List (List UInt8))(t:List Load×Int):Lo (jo s label x t) (md s label x t):=by
 unfold jo md
 repeat' (first | (with_reducible first | exact mf _ _ _ | exact kH _ _ _ | apply ag | apply aj | refine ai ?_ _ | exact ah _) | (intro _) | exact ae | (dsimp only))
def nN(s:State)(path:List UInt8)(label:Int):Option (List (List UInt8)):=
 (ii s.Conf path).bind λx=>
 (itr 4096 (jo s label x) ([],0)).bind λl1=>
 (ma l1 (λa'=>ga a'.1 a'.2.1)).bind λx4=>
 (mkl 16 (x4.length:Int) (x4.length:Int) []).bind λl2=>
 (itr 4096 (rh x4) (l2,0)).bind λout=>
 some out
theorem xQ(s:State)(path:List UInt8)(label:Int):Lo (nN s path label) (mF s path label):=by
 unfold nN mF
 repeat' (first | (with_reducible first | exact m9 _ _ | exact ux _ _ _ _ | refine wu _ _ _ ?_ | apply ag | apply aj | refine ai ?_ _ | exact ah _) | (intro _) | exact ae | (dsimp only))
def lm(s:State)(label:Int)(deep:Int)(self:State→(List UInt8)→Int→Int→Option (List (List UInt8)))(kids:List (List UInt8))(t:List (List UInt8)×Int):Option ((List (List UInt8)×Int) ⊕ List (List UInt8)):=none
theorem rN(s:State)(label:Int)(deep:Int)(self self_':State→(List UInt8)→Int→Int→Option (List (List UInt8)))(h_self:∀(a0:State)(a1:(List UInt8)) (a2:Int) (a3:Int),Lo (self a0 a1 a2 a3) (self_' a0 a1 a2 a3))(kids:List (List UInt8))(t:List (List UInt8)×Int):Lo (lm s label deep self kids t) (oj s label deep self_' kids t):=ae
def jp(self:State→(List UInt8)→Int→Int→Option (List (List UInt8)))(s:State)(path:List UInt8)(label:Int)(deep:Int):Option (List (List UInt8)):=
 (nN s path label).bind λkids=>
 (
 bif(kids.length:Int) == 0 then
  some true
 else
  some (decide (deep>4))).bind λq=>
 bif q then
 some [path]
 else
 (itr 4096 (lm s label deep self kids) ([],0)).bind λout=>
 some out
theorem uQ(self self_':State→(List UInt8)→Int→Int→Option (List (List UInt8)))(h_self:∀(a0:State)(a1:(List UInt8)) (a2:Int) (a3:Int),Lo (self a0 a1 a2 a3) (self_' a0 a1 a2 a3))(s:State)(path:List UInt8)(label:Int)(deep:Int):Lo (jp self s path label deep) (mb self_' s path label deep):=by
 unfold jp mb
 repeat' (first | (with_reducible first | exact xQ _ _ _ | refine rN _ _ _ _ _ ?_ _ _ | refine h_self _ _ _ _ | apply ag | apply aj | refine ai ?_ _ | exact ah _) | (intro _) | exact ae | (dsimp only))
def fW:Nat→State→(List UInt8)→Int→Int→Option (List (List UInt8))
 | 0=>λ_ _ _ _=>none
 | n+1=>jp (fW n)
theorem nV:∀(n:Nat),∀(a0:State)(a1:List UInt8)(a2:Int)(a3:Int),Lo (fW n a0 a1 a2 a3) (fA n a0 a1 a2 a3)
 | 0=>λ_ _ _ _=>ae
 | n+1=>λa0 a1 a2 a3=>uQ (fW n) (fA n) (nV n) a0 a1 a2 a3
def mq(a0:State)(a1:List UInt8)(a2:Int)(a3:Int):Option (List (List UInt8)):=fW 64 a0 a1 a2 a3
theorem wW(a0:State)(a1:List UInt8)(a2:Int)(a3:Int):Lo (mq a0 a1 a2 a3) (la a0 a1 a2 a3):=by
 unfold mq la
 repeat' (first | (with_reducible first | refine nV _ _ _ _ _ | apply ag | apply aj | refine ai ?_ _ | exact ah _) | (intro _) | exact ae | (dsimp only))
def kx(s:State)(label:Int):Option (List (List UInt8)):=
 (mq s ([114,111,111,116]:List UInt8) label 1).bind λx=>
 some x
theorem vg(s:State)(label:Int):Lo (kx s label) (jz s label):=by
 unfold kx jz
 repeat' (first | (with_reducible first | exact wW _ _ _ _ | apply ag | apply aj | refine ai ?_ _ | exact ah _) | (intro _) | exact ae | (dsimp only))
def mA(a:Int)(cmp:(TupT fam [.st 6,.st 6]→Option Int))(t1:List App×Int):Option ((List App×Int) ⊕ List App):=none
theorem sq(a:Int)(cmp cmp_':(TupT fam [.st 6,.st 6]→Option Int))(h_cmp:∀a,Lo (cmp a) (cmp_' a))(t1:List App×Int):Lo (mA a cmp t1) (oS a cmp_' t1):=ae
def gT(a:Int)(b:Int)(cmp:(TupT fam [.st 6,.st 6]→Option Int))(t:List App×Int):Option ((List App×Int) ⊕ List App):=
 bif decide (t.2<b)then
 (itr 4096 (mA a cmp) (t.1,t.2)).bind λdata1=>
 some (.inl (data1,w64 (t.2+1)))
 else
 some (.inr t.1)
theorem sj(a:Int)(b:Int)(cmp cmp_':(TupT fam [.st 6,.st 6]→Option Int))(h_cmp:∀a,Lo (cmp a) (cmp_' a))(t:List App×Int):Lo (gT a b cmp t) (jO a b cmp_' t):=by
 unfold gT jO
 repeat' (first | (with_reducible first | refine sq _ _ _ ?_ _ | exact h_cmp _ | apply ag | apply aj | refine ai ?_ _ | exact ah _) | (intro _) | exact ae | (dsimp only))
def gJ(data:List App)(a:Int)(b:Int)(cmp:(TupT fam [.st 6,.st 6]→Option Int)):Option (List App):=
 (itr 4096 (gT a b cmp) (data,w64 (a+1))).bind λdata2=>
 some data2
theorem oH(data:List App)(a:Int)(b:Int)(cmp cmp_':(TupT fam [.st 6,.st 6]→Option Int))(h_cmp:∀a,Lo (cmp a) (cmp_' a)):Lo (gJ data a b cmp) (gj data a b cmp_'):=by
 unfold gJ gj
 repeat' (first | (with_reducible first | refine sj _ _ _ _ ?_ _ | exact h_cmp _ | apply ag | apply aj | refine ai ?_ _ | exact ah _) | (intro _) | exact ae | (dsimp only))
def qm(a0:List App)(a1:Int)(a2:Int)(a3:Int)(a4:(TupT fam [.st 6,.st 6]→Option Int)):Option (List App):=none
theorem vW(a0:List App)(a1:Int)(a2:Int)(a3:Int)(a4 a4_':(TupT fam [.st 6,.st 6]→Option Int))(h_a4:∀a,Lo (a4 a) (a4_' a)):Lo (qm a0 a1 a2 a3 a4) (jJ a0 a1 a2 a3 a4_'):=ae
def ms(n:Int)(cmp:(TupT fam [.st 6,.st 6]→Option Int))(t1:List App×Int)(t2:List App×Int×Int):Option ((List App×Int×Int) ⊕ ((List App×Int))):=none
theorem sQ(n:Int)(cmp cmp_':(TupT fam [.st 6,.st 6]→Option Int))(h_cmp:∀a,Lo (cmp a) (cmp_' a))(t1:List App×Int)(t2:List App×Int×Int):Lo (ms n cmp t1 t2) (oZ n cmp_' t1 t2):=ae
def gX(n:Int)(cmp:(TupT fam [.st 6,.st 6]→Option Int))(t1:List App×Int):Option ((List App×Int) ⊕ List App):=
 bif decide (t1.2<n)then
 (itr 4096 (ms n cmp t1) (t1.1,0,w64 (2*t1.2))).bind λq1=>
 (
  let m:=w64 (q1.2+t1.2)
  bif decide (m<n)then
  (qm q1.1 q1.2 m n cmp).bind λx3=>
  some x3
  else
  some q1.1).bind λdata1=>
 some (.inl (data1,w64 (t1.2*2)))
 else
 some (.inr t1.1)
theorem r_(n:Int)(cmp cmp_':(TupT fam [.st 6,.st 6]→Option Int))(h_cmp:∀a,Lo (cmp a) (cmp_' a))(t1:List App×Int):Lo (gX n cmp t1) (jA n cmp_' t1):=by
 unfold gX jA
 repeat' (first | (with_reducible first | refine sQ _ _ _ ?_ _ _ | refine vW _ _ _ _ _ _ ?_ | exact h_cmp _ | apply ag | apply aj | refine ai ?_ _ | exact ah _) | (intro _) | exact ae | (dsimp only))
def g8(n:Int)(cmp:(TupT fam [.st 6,.st 6]→Option Int))(t:List App×Int×Int):Option ((List App×Int×Int) ⊕ ((List App×Int))):=
 bif decide (t.2.2≤n)then
 (gJ t.1 t.2.1 t.2.2 cmp).bind λx=>
 some (.inl (x,t.2.2,w64 (t.2.2+20)))
 else
 some (.inr (t.1,t.2.1))
theorem r7(n:Int)(cmp cmp_':(TupT fam [.st 6,.st 6]→Option Int))(h_cmp:∀a,Lo (cmp a) (cmp_' a))(t:List App×Int×Int):Lo (g8 n cmp t) (jK n cmp_' t):=by
 unfold g8 jK
 repeat' (first | (with_reducible first | refine oH _ _ _ _ _ ?_ | exact h_cmp _ | apply ag | apply aj | refine ai ?_ _ | exact ah _) | (intro _) | exact ae | (dsimp only))
def km(data:List App)(n:Int)(cmp:(TupT fam [.st 6,.st 6]→Option Int)):Option (List App):=
 (itr 4096 (g8 n cmp) (data,0,20)).bind λq=>
 (gJ q.1 q.2 n cmp).bind λx1=>
 (itr 4096 (gX n cmp) (x1,20)).bind λdata2=>
 some data2
theorem vQ(data:List App)(n:Int)(cmp cmp_':(TupT fam [.st 6,.st 6]→Option Int))(h_cmp:∀a,Lo (cmp a) (cmp_' a)):Lo (km data n cmp) (jI data n cmp_'):=by
 unfold km jI
 repeat' (first | (with_reducible first | refine r7 _ _ _ ?_ _ | refine oH _ _ _ _ _ ?_ | refine r_ _ _ _ ?_ _ | exact h_cmp _ | apply ag | apply aj | refine ai ?_ _ | exact ah _) | (intro _) | exact ae | (dsimp only))
def kn(x:List App)(cmp:(TupT fam [.st 6,.st 6]→Option Int)):Option (List App):=
 (km x (x.length:Int) cmp).bind λx1=>
 some x1
theorem vU(x:List App)(cmp cmp_':(TupT fam [.st 6,.st 6]→Option Int))(h_cmp:∀a,Lo (cmp a) (cmp_' a)):Lo (kn x cmp) (jn x cmp_'):=by
 unfold kn jn
 repeat' (first | (with_reducible first | refine vQ _ _ _ _ ?_ | exact h_cmp _ | apply ag | apply aj | refine ai ?_ _ | exact ah _) | (intro _) | exact ae | (dsimp only))
def oi(s:State)(queue:List UInt8):Option (List Int):=
 (itr 4096 (rq s queue) ([],0)).bind λl2=>
 (kn l2 (λa'=>nh a'.1 a'.2.1)).bind λx2=>
 (mkl 8 (x2.length:Int) (x2.length:Int) 0).bind λl3=>
 (itr 4096 (ru x2) (l3,0)).bind λout=>
 some out
theorem xP(s:State)(queue:List UInt8):Lo (oi s queue) (mI s queue):=by
 unfold oi mI
 repeat' (first | (with_reducible first | refine vU _ _ _ ?_ | apply ag | apply aj | refine ai ?_ _ | exact ah _) | (intro _) | exact ae | (dsimp only))
def cP(first:Bool)(may:(TupT fam [.st 5,.st 4]→Option Bool))(x5:List Ask)(t3:Attempt×Cont×App×Int):Option ((Attempt×Cont×App×Int) ⊕ ((Attempt×Int×Cont) ⊕ (Attempt×Cont))):=
 bif decide (t3.2.2.2<(x5.length:Int))then
 (
  (inb t3.2.2.2 x5.length).bind λi1=>
  (x5[i1]?).bind λx6=>
  (e_ t3.1 t3.2.2.1 x6).bind λdue=>
  (
  (fj t3.1 x6).bind λx7=>
  bif ! x7 then
   some true
  else
   bif first then
   some (! due)
   else
   some false).bind λq=>
  bif q then
  some (.inl (t3.1,t3.2.1,t3.2.2.1))
  else
  (may (x6,t3.1.n,())).bind λr=>
  bif ! r then
   bif first == due then
   none
   else
   some (.inl (t3.1,t3.2.1,t3.2.2.1))
  else
   (eI t3.1 t3.2.2.1 x6).bind λx8=>
   bif ! x8 then
   some (.inl (t3.1,t3.2.1,t3.2.2.1))
   else
   (fU t3.1 x6).bind λx9=>
   bif x9 then
    (dZ t3.1 t3.2.2.1 x6).bind λx10=>
    some (.inr (x10.2,1,x10.1))
   else
    bif first then
    none
    else
    some (.inl (t3.1,t3.2.1,t3.2.2.1)):Option ((Attempt×Cont×App) ⊕ (Attempt×Int×Cont))).bind λq0=>
 match q0 with
 | .inl q1=>
  some (.inl (q1.1,q1.2.1,q1.2.2,w64 (t3.2.2.2+1)))
 | .inr q2=>
  some (.inr (.inl (q2.1,q2.2.1,q2.2.2)))
 else
 some (.inr (.inr (t3.1,t3.2.1)))
theorem lY(first:Bool)(may may_':(TupT fam [.st 5,.st 4]→Option Bool))(h_may:∀a,Lo (may a) (may_' a))(x5:List Ask)(t3:Attempt×Cont×App×Int):Lo (cP first may x5 t3) (dt first may_' x5 t3):=by
 unfold cP dt
 repeat' (first | (with_reducible first | exact pQ _ _ _ | exact pm _ _ _ | exact oA _ _ _ | exact h_may _ | apply aw | apply ax | apply ay | apply ag | apply aj | refine ai ?_ _ | exact ah _) | (intro _) | exact ae | (dsimp only))
def cS(first:Bool)(may:(TupT fam [.st 5,.st 4]→Option Bool))(x1:List Int)(t2:Attempt×Cont×Int):Option ((Attempt×Cont×Int) ⊕ ((Attempt×Int×Cont) ⊕ (Attempt×Cont) ⊕ (Attempt×Cont))):=
 bif decide (t2.2.2<(x1.length:Int))then
 (
  (inb t2.2.2 x1.length).bind λi=>
  (x1[i]?).bind λx2=>
  (fC t2.1.s x2).bind λx3=>
  bif ! x3.2 then
  some (.inr (.inr (t2.1,t2.2.1)))
  else
  (eL t2.1 x3.1).bind λx4=>
  bif ! x4 then
   some (.inl (t2.1,t2.2.1))
  else
   (nC x3.1.Asks).bind λx5=>
   (itr 4096 (cP first may x5) (t2.1,t2.2.1,x3.1,0)).bind λq0=>
   match q0 with
   | .inl q3=>
   some (.inr (.inl (q3.1,q3.2.1,q3.2.2)))
   | .inr q4=>
   some (.inl (q4.1,q4.2)):Option ((Attempt×Cont) ⊕ (Attempt×Int×Cont) ⊕ (Attempt×Cont))).bind λq0=>
 match q0 with
 | .inl q5=>
  some (.inl (q5.1,q5.2,w64 (t2.2.2+1)))
 | .inr (.inl q6)=>
  some (.inr (.inl (q6.1,q6.2.1,q6.2.2)))
 | .inr (.inr q7)=>
  some (.inr (.inr (.inl (q7.1,q7.2))))
 else
 some (.inr (.inr (.inr (t2.1,t2.2.1))))
theorem lW(first:Bool)(may may_':(TupT fam [.st 5,.st 4]→Option Bool))(h_may:∀a,Lo (may a) (may_' a))(x1:List Int)(t2:Attempt×Cont×Int):Lo (cS first may x1 t2) (dz first may_' x1 t2):=by
 unfold cS dz
 repeat' (first | (with_reducible first | exact jh _ _ | exact pc _ _ | refine lY _ _ _ ?_ _ _ | exact h_may _ | apply aw | apply ax | apply ay | apply ag | apply aj | refine ai ?_ _ | exact ah _) | (intro _) | exact ae | (dsimp only))
def cL(leaves:List (List UInt8))(first:Bool)(may:(TupT fam [.st 5,.st 4]→Option Bool))(t1:Attempt×Cont×Int):Option ((Attempt×Cont×Int) ⊕ ((Attempt×Int×Cont) ⊕ (Attempt×Cont))):=
 bif decide (t1.2.2<(leaves.length:Int))then
 (
  (idx leaves t1.2.2).bind λx=>
  (oi t1.1.s x).bind λx1=>
  (itr 4096 (cS first may x1) (t1.1,t1.2.1,0)).bind λq0=>
  match q0 with
  | .inl q8=>
  some (.inr (q8.1,q8.2.1,q8.2.2))
  | .inr (.inl q9)=>
  some (.inl (q9.1,q9.2))
  | .inr (.inr q10)=>
  some (.inl (q10.1,q10.2)):Option ((Attempt×Cont) ⊕ (Attempt×Int×Cont))).bind λq0=>
 match q0 with
 | .inl q11=>
  some (.inl (q11.1,q11.2,w64 (t1.2.2+1)))
 | .inr q12=>
  some (.inr (.inl (q12.1,q12.2.1,q12.2.2)))
 else
 some (.inr (.inr (t1.1,t1.2.1)))
theorem mh(leaves:List (List UInt8))(first:Bool)(may may_':(TupT fam [.st 5,.st 4]→Option Bool))(h_may:∀a,Lo (may a) (may_' a))(t1:Attempt×Cont×Int):Lo (cL leaves first may t1) (dv leaves first may_' t1):=by
 unfold cL dv
 repeat' (first | (with_reducible first | exact xP _ _ | refine lW _ _ _ ?_ _ _ | exact h_may _ | apply aw | apply ax | apply ay | apply ag | apply aj | refine ai ?_ _ | exact ah _) | (intro _) | exact ae | (dsimp only))
def cf(t:Attempt)(leaves:List (List UInt8))(first:Bool)(may:(TupT fam [.st 5,.st 4]→Option Bool)):Option (Int×Cont×Attempt):=
 (itr 4096 (cL leaves first may) (t,(⟨0,0,0,⟨0,0⟩,0,0,false,0⟩:Cont),0)).bind λq0=>
 match q0 with
 | .inl q13=>
 some (q13.2.1,q13.2.2,q13.1)
 | .inr q14=>
 some (0,(⟨0,0,0,⟨0,0⟩,0,0,false,0⟩:Cont),q14.1)
theorem oD(t:Attempt)(leaves:List (List UInt8))(first:Bool)(may may_':(TupT fam [.st 5,.st 4]→Option Bool))(h_may:∀a,Lo (may a) (may_' a)):Lo (cf t leaves first may) (bQ t leaves first may_'):=by
 unfold cf bQ
 repeat' (first | (with_reducible first | refine mh _ _ _ _ ?_ _ | exact h_may _ | apply aw | apply ax | apply ay | apply ag | apply aj | refine ai ?_ _ | exact ah _) | (intro _) | exact ae | (dsimp only))
def du(t:Attempt):Option (Int×Cont×Attempt):=
 (kx t.s t.n.Label).bind λleaves=>
 (cf t leaves true (λa'=>lj a'.1 a'.2.1)).bind λx=>
 bif x.1 != 0 then
 some (x.1,x.2.1,x.2.2)
 else
 (cf x.2.2 leaves false (λa'=>lj a'.1 a'.2.1)).bind λx1=>
 some (x1.1,x1.2.1,x1.2.2)
theorem n_(t:Attempt):Lo (du t) (cy t):=by
 unfold du cy
 repeat' (first | (with_reducible first | exact vg _ _ | refine oD _ _ _ _ _ ?_ | apply ag | apply aj | refine ai ?_ _ | exact ah _) | (intro _) | exact ae | (dsimp only))
def n8(s:State)(node:Int):Option (State×Int×Cont):=
 (ca s []).bind λx=>
 (eo s node).bind λx1=>
 (
 bif ! x1.2 then
  some true
 else
  bif ! x1.1.Up then
  some true
  else
  bif decide ((s.Conts.length:Int)≥200)then
   some true
  else
   some (decide (s.Seq≥1048575))).bind λq=>
 bif q then
 some (x,0,(⟨0,0,0,⟨0,0⟩,0,0,false,0⟩:Cont))
 else
 (nK s node).bind λx2=>
 (eE (⟨⟨⟨x.Conf.Labels,x.Conf.Queues⟩,x.Nodes,x.Apps,x.Conts,x.Slots,x.Plans,x.Now,x.Epoch,x.Seq⟩,⟨x1.1.Id,x1.1.Label,x1.1.Rack,⟨x1.1.Cap.Mem,x1.1.Cap.Cores⟩,x1.1.Seen,x1.1.Beat,x1.1.Up⟩,⟨x2.Mem,x2.Cores⟩⟩:Attempt)).bind λx3=>
 (
  bif ! x3.2.2.1 then
  (du x3.2.2.2).bind λx4=>
  some (x4.1,x4.2.1,x4.2.2)
  else
  some (x3.1,x3.2.1,x3.2.2.2)).bind λq1=>
 (ca q1.2.2.s []).bind λx5=>
 some (x5,q1.1,q1.2.1)
theorem xY(s:State)(node:Int):Lo (n8 s node) (mY s node):=by
 unfold n8 mY
 repeat' (first | (with_reducible first | exact jq _ _ | exact ir _ _ | exact xZ _ _ | exact pj _ | exact n_ _ | apply ag | apply aj | refine ai ?_ _ | exact ah _) | (intro _) | exact ae | (dsimp only))
def iA(node:Int)(t:State×List Cont):Option ((State×List Cont) ⊕ ((State×List Cont))):=
 bif decide ((t.2.length:Int)<3)then
 (n8 t.1 node).bind λx1=>
 bif x1.2.1 != 1 then
  some (.inr (x1.1,t.2))
 else
  (app 72 t.2 [x1.2.2]).bind λl=>
  some (.inl (x1.1,l))
 else
 some (.inr (t.1,t.2))
theorem tR(node:Int)(t:State×List Cont):Lo (iA node t) (kA node t):=by
 unfold iA kA
 repeat' (first | (with_reducible first | exact xY _ _ | apply ag | apply aj | refine ai ?_ _ | exact ah _) | (intro _) | exact ae | (dsimp only))
def lL(s:State)(node:Int):Option (State×List Cont):=
 (ca s []).bind λx=>
 (itr 4096 (iA node) (x,[])).bind λq=>
 some (q.1,q.2)
theorem wR(s:State)(node:Int):Lo (lL s node) (lh s node):=by
 unfold lL lh
 repeat' (first | (with_reducible first | exact jq _ _ | exact tR _ _ | apply ag | apply aj | refine ai ?_ _ | exact ah _) | (intro _) | exact ae | (dsimp only))
def fT(t:Step):Option (Output×Step):=
 (eo t.s t.x.Id).bind λx=>
 (
 bif x.2 then
  bif x.1.Up then
  some (t.x.Beat == x.1.Beat)
  else
  some false
 else
  some false).bind λq=>
 bif q then
 (cI t x.1.Id).bind λx1=>
 some ((⟨0,[],x1,[],0⟩:Output),t)
 else
 (oq t.s t.x.Id t.x.Beat).bind λx2=>
 bif x2.2 != 0 then
  none
 else
  (cI t x.1.Id).bind λx3=>
  (bv t.x.Ids).bind λx4=>
  (bT x4 (λa'=>fQ a'.1 x3)).bind λended=>
  (ca x2.1 ended).bind λx5=>
  (lL x5 x.1.Id).bind λx6=>
  (cI (⟨⟨⟨x6.1.Conf.Labels,x6.1.Conf.Queues⟩,x6.1.Nodes,x6.1.Apps,x6.1.Conts,x6.1.Slots,x6.1.Plans,x6.1.Now,x6.1.Epoch,x6.1.Seq⟩,⟨t.x.Kind,t.x.Id,t.x.Beat,t.x.N,t.x.Text,⟨t.x.Node.Id,t.x.Node.Label,t.x.Node.Rack,⟨t.x.Node.Cap.Mem,t.x.Node.Cap.Cores⟩,t.x.Node.Seen,t.x.Node.Beat,t.x.Node.Up⟩,⟨t.x.App.Id,t.x.App.State,t.x.App.Queue,t.x.App.User,t.x.App.Prio,⟨t.x.App.Master.Mem,t.x.App.Master.Cores⟩,t.x.App.Asks,t.x.App.Seen,t.x.App.Beat,t.x.App.Grants,t.x.App.Kills,t.x.App.Told,t.x.App.Lost⟩,t.x.Asks,t.x.Ids,⟨t.x.Plan.Id,t.x.Plan.Label,t.x.Plan.From,t.x.Plan.Until,⟨t.x.Plan.Need.Mem,t.x.Plan.Need.Cores⟩⟩⟩⟩:Step) x.1.Id).bind λx7=>
  some ((⟨0,[],x7,[],0⟩:Output),(⟨⟨⟨x6.1.Conf.Labels,x6.1.Conf.Queues⟩,x6.1.Nodes,x6.1.Apps,x6.1.Conts,x6.1.Slots,x6.1.Plans,x6.1.Now,x6.1.Epoch,x6.1.Seq⟩,⟨t.x.Kind,t.x.Id,t.x.Beat,t.x.N,t.x.Text,⟨t.x.Node.Id,t.x.Node.Label,t.x.Node.Rack,⟨t.x.Node.Cap.Mem,t.x.Node.Cap.Cores⟩,t.x.Node.Seen,t.x.Node.Beat,t.x.Node.Up⟩,⟨t.x.App.Id,t.x.App.State,t.x.App.Queue,t.x.App.User,t.x.App.Prio,⟨t.x.App.Master.Mem,t.x.App.Master.Cores⟩,t.x.App.Asks,t.x.App.Seen,t.x.App.Beat,t.x.App.Grants,t.x.App.Kills,t.x.App.Told,t.x.App.Lost⟩,t.x.Asks,t.x.Ids,⟨t.x.Plan.Id,t.x.Plan.Label,t.x.Plan.From,t.x.Plan.Until,⟨t.x.Plan.Need.Mem,t.x.Plan.Need.Cores⟩⟩⟩⟩:Step))
theorem q_(t:Step):Lo (fT t) (d_ t):=by
 unfold fT d_
 repeat' (first | (with_reducible first | exact ir _ _ | exact sx _ _ | exact xS _ _ _ | refine iX _ _ _ ?_ | exact jq _ _ | exact wR _ _ | apply ag | apply aj | refine ai ?_ _ | exact ah _) | (intro _) | exact ae | (dsimp only))
def mz(del:(TupT fam [.st 5]→Option Bool))(t:List Ask×Int×Int):Option ((List Ask×Int×Int) ⊕ ((List Ask×Int))):=none
theorem r8(del del_':(TupT fam [.st 5]→Option Bool))(h_del:∀a,Lo (del a) (del_' a))(t:List Ask×Int×Int):Lo (mz del t) (oQ del_' t):=ae
def j6(s:List Ask)(del:(TupT fam [.st 5]→Option Bool)):Option (List Ask):=
 (gD s del).bind λi=>
 bif i == (-1)then
 some s
 else
 (itr 4096 (mz del) (s,i,w64 (i+1))).bind λq1=>
 (inS q1.2 (q1.1.length:Int) q1.1.length).bind λp=>
 (inS 0 q1.2 (cpy q1.1 p.1 p.2 (List.replicate p.2 (⟨0,0,⟨0,0⟩,0,0,0,0⟩:Ask))).length).bind λp1=>
 some (List.take p1.2 (cpy q1.1 p.1 p.2 (List.replicate p.2 (⟨0,0,⟨0,0⟩,0,0,0,0⟩:Ask))))
theorem vI(s:List Ask)(del del_':(TupT fam [.st 5]→Option Bool))(h_del:∀a,Lo (del a) (del_' a)):Lo (j6 s del) (jN s del_'):=by
 unfold j6 jN
 repeat' (first | (with_reducible first | refine oL _ _ _ ?_ | refine r8 _ _ ?_ _ | exact h_del _ | apply ag | apply aj | refine ai ?_ _ | exact ah _) | (intro _) | exact ae | (dsimp only))
def mQ(l:List Ask)(a:Ask):Option (List Ask×Int):=
 (nM l).bind λx=>
 (j6 x (λa'=>qy a'.1 a)).bind λout=>
 bif a.Count == 0 then
 some (out,0)
 else
 bif decide ((out.length:Int)≥8)then
  some ([],4)
 else
  (itr 4096 (uc a out) 0).bind λk1=>
  (nt out k1 [(⟨a.Prio,a.Label,⟨a.Size.Mem,a.Size.Cores⟩,a.Count,a.Node,a.Rack,0⟩:Ask)]).bind λx2=>
  some (x2,0)
theorem ul(l:List Ask)(a:Ask):Lo (mQ l a) (nj l a):=by
 unfold mQ nj
 repeat' (first | (with_reducible first | refine vI _ _ _ ?_ | apply ag | apply aj | refine ai ?_ _ | exact ah _) | (intro _) | exact ae | (dsimp only))
def np(a:App):Option (List Ask):=
 (mQ [] (⟨0,0,⟨a.Master.Mem,a.Master.Cores⟩,1,(-1),(-1),0⟩:Ask)).bind λx=>
 some x.1
theorem yd(a:App):Lo (np a) (mM a):=by
 unfold np mM
 repeat' (first | (with_reducible first | exact ul _ _ | apply ag | apply aj | refine ai ?_ _ | exact ah _) | (intro _) | exact ae | (dsimp only))
def pA(l:List App):Option Int:=
 (itr 4096 (ta l) (0,0)).bind λn1=>
 some n1
theorem zc(l:List App):Lo (pA l) (oU l):=by
 unfold pA oU
 repeat' (first | (with_reducible first | apply ag | apply aj | refine ai ?_ _ | exact ah _) | (intro _) | exact ae | (dsimp only))
def mr(s:State)(a:App):Option (State×Int):=
 (jP s).bind λx=>
 (
 (bC a.Id 0 9999).bind λx1=>
 bif ! x1 then
  some true
 else
  (bC a.User 0 99).bind λx2=>
  bif ! x2 then
  some true
  else
  (bC a.Prio 0 9).bind λx3=>
  bif ! x3 then
   some true
  else
   (bC a.Master.Mem 1 1073741824).bind λx4=>
   bif ! x4 then
   some true
   else
   (bC a.Master.Cores 1 1073741824).bind λx5=>
   some (! x5)).bind λq=>
 bif q then
 some (x,1)
 else
 (iQ x a.Id).bind λx6=>
 bif decide (x6≥0)then
  some (x,7)
 else
  (pA x.Apps).bind λx7=>
  bif decide (x7≥16)then
  some (x,4)
  else
  (ia x.Conf a.Queue).bind λx8=>
  bif ! x8 then
   some (x,19)
  else
   (jt x.Apps (λa'=>rQ a'.1)).bind λk=>
   (
   bif decide ((x.Apps.length:Int)≥16)then
    some (decide (k≥0))
   else
    some false).bind λq1=>
   bif q1 then
   none
   else
   (np (⟨a.Id,1,a.Queue,a.User,a.Prio,⟨a.Master.Mem,a.Master.Cores⟩,[],x.Now,0,[],[],[],[]⟩:App)).bind λx9=>
   (mC x (⟨a.Id,1,a.Queue,a.User,a.Prio,⟨a.Master.Mem,a.Master.Cores⟩,x9,x.Now,0,[],[],[],[]⟩:App)).bind λx10=>
   some (x10,0)
theorem w9(s:State)(a:App):Lo (mr s a) (kV s a):=by
 unfold mr kV
 repeat' (first | (with_reducible first | exact rn _ | exact mX _ _ | exact zc _ | exact nR _ _ | refine pI _ _ _ ?_ | exact yd _ | exact ug _ _ | apply ag | apply aj | refine ai ?_ _ | exact ah _) | (intro _) | exact ae | (dsimp only))
def dA(t:Step)(ids:List Int)(t1:List Cont×Int):Option ((List Cont×Int) ⊕ List Cont):=
 bif decide (t1.2<(ids.length:Int))then
 (idx ids t1.2).bind λx=>
 (itr 4096 (iM t x) (t1.1,0)).bind λout1=>
 some (.inl (out1,w64 (t1.2+1)))
 else
 some (.inr t1.1)
theorem nZ(t:Step)(ids:List Int)(t1:List Cont×Int):Lo (dA t ids t1) (eA t ids t1):=by
 unfold dA eA
 repeat' (first | (with_reducible first | apply ag | apply aj | refine ai ?_ _ | exact ah _) | (intro _) | exact ae | (dsimp only))
def cO(t:Step)(ids:List Int):Option (List Cont):=
 (itr 4096 (dA t ids) ([],0)).bind λout2=>
 some out2
theorem qe(t:Step)(ids:List Int):Lo (cO t ids) (ci t ids):=by
 unfold cO ci
 repeat' (first | (with_reducible first | exact nZ _ _ _ | apply ag | apply aj | refine ai ?_ _ | exact ah _) | (intro _) | exact ae | (dsimp only))
def cg(t:Step)(app_:Int):Option (List Int):=
 (itr 4096 (gO t app_) ([],0)).bind λout1=>
 some out1
theorem oC(t:Step)(app_:Int):Lo (cg t app_) (bU t app_):=by
 unfold cg bU
 repeat' (first | (with_reducible first | apply ag | apply aj | refine ai ?_ _ | exact ah _) | (intro _) | exact ae | (dsimp only))
def bF(s:List Int)(f:(TupT fam [.int .i64]→Option Bool)):Option Bool:=
 (bg s f).bind λx=>
 some (decide (x≥0))
theorem ie(s:List Int)(f f_':(TupT fam [.int .i64]→Option Bool))(h_f:∀a,Lo (f a) (f_' a)):Lo (bF s f) (a9 s f_'):=by
 unfold bF a9
 repeat' (first | (with_reducible first | refine dK _ _ _ ?_ | exact h_f _ | apply ag | apply aj | refine ai ?_ _ | exact ah _) | (intro _) | exact ae | (dsimp only))
def dI(least:Int)(most:Int)(l:List Int):Option Bool:=
 (bF l (λa'=>qP a'.1 least most)).bind λx=>
 some (! x)
theorem Ac(least:Int)(most:Int)(l:List Int):Lo (dI least most l) (fk least most l):=by
 unfold dI fk
 repeat' (first | (with_reducible first | refine ie _ _ _ ?_ | apply ag | apply aj | refine ai ?_ _ | exact ah _) | (intro _) | exact ae | (dsimp only))
def nB(a:Ask)(labels:Int):Option Int:=
 (
 (dI 0 9 [a.Prio]).bind λx=>
 bif ! x then
  some true
 else
  (dI 0 (w64 (labels - 1)) [a.Label]).bind λx1=>
  bif ! x1 then
  some true
  else
  (dI 1 1073741824 [a.Size.Mem,a.Size.Cores]).bind λx2=>
  bif ! x2 then
   some true
  else
   (dI (-1) 999 [a.Node]).bind λx3=>
   bif ! x3 then
   some true
   else
   (dI (-1) 99 [a.Rack]).bind λx4=>
   bif ! x4 then
    some true
   else
    bif a.Node != (-1)then
    some (a.Rack == (-1))
    else
    some false).bind λq=>
 bif q then
 some 1
 else
 (dI 0 50 [a.Count]).bind λx5=>
 bif ! x5 then
  some 4
 else
  some 0
theorem yh(a:Ask)(labels:Int):Lo (nB a labels) (mR a labels):=by
 unfold nB mR
 repeat' (first | (with_reducible first | exact Ac _ _ _ | apply ag | apply aj | refine ai ?_ _ | exact ah _) | (intro _) | exact ae | (dsimp only))
def d5(t:Step)(a:App)(ids:List Int)(t1:Int):Option (Int ⊕ Unit):=
 bif decide (t1<(ids.length:Int))then
 (idx ids t1).bind λx=>
 (ij t.s.Conts (λa'=>fR a'.1 x a)).bind λi=>
 bif decide (i≥0)then
  none
 else
  some (.inl (w64 (t1+1)))
 else
 some (.inr ())
theorem oE(t:Step)(a:App)(ids:List Int)(t1:Int):Lo (d5 t a ids t1) (fh t a ids t1):=by
 unfold d5 fh
 repeat' (first | (with_reducible first | refine nI _ _ _ ?_ | apply ag | apply aj | refine ai ?_ _ | exact ah _) | (intro _) | exact ae | (dsimp only))
def fL(t:Step)(a:App)(ids:List Int):Option (App×Step):=
 (itr 4096 (d5 t a ids) 0).bind λ_=>
 some (a,t)
theorem qu(t:Step)(a:App)(ids:List Int):Lo (fL t a ids) (eb t a ids):=by
 unfold fL eb
 repeat' (first | (with_reducible first | exact oE _ _ _ _ | apply ag | apply aj | refine ai ?_ _ | exact ah _) | (intro _) | exact ae | (dsimp only))
def df(t:Step)(t1:App×Int):Option ((App×Int) ⊕ App):=
 bif decide (t1.2<(t.x.Asks.length:Int))then
 (idx t.x.Asks t1.2).bind λx3=>
 (nB x3 (t.s.Conf.Labels.length:Int)).bind λe=>
 (
  bif e == 0 then
  (mQ t1.1.Asks x3).bind λx4=>
  some ((⟨t1.1.Id,t1.1.State,t1.1.Queue,t1.1.User,t1.1.Prio,⟨t1.1.Master.Mem,t1.1.Master.Cores⟩,x4.1,t1.1.Seen,t1.1.Beat,t1.1.Grants,t1.1.Kills,t1.1.Told,t1.1.Lost⟩:App),x4.2)
  else
  some (t1.1,e)).bind λq=>
 bif q.2 != 0 then
  none
 else
  some (.inl (q.1,w64 (t1.2+1)))
 else
 some (.inr t1.1)
theorem mS(t:Step)(t1:App×Int):Lo (df t t1) (dW t t1):=by
 unfold df dW
 repeat' (first | (with_reducible first | exact yh _ _ | exact ul _ _ | apply ag | apply aj | refine ai ?_ _ | exact ah _) | (intro _) | exact ae | (dsimp only))
def eC(t:Step):Option (Output×Step):=
 (fC t.s t.x.Id).bind λx=>
 bif ! x.2 then
 none
 else
 bif x.1.State != 2 then
  none
 else
  bif decide (t.x.Beat<x.1.Beat)then
  none
  else
  bif decide ((w64 (t.x.Beat - x.1.Beat))>1)then
   none
  else
   bif t.x.Beat == x.1.Beat then
   (cO t x.1.Told).bind λx1=>
   (cg t x.1.Id).bind λx2=>
   some ((⟨0,x1,x2,x.1.Lost,0⟩:Output),t)
   else
   (itr 4096 (df t) (x.1,0)).bind λa=>
   (fL t a t.x.Ids).bind λx5=>
   (cO x5.2 x5.1.Grants).bind λx6=>
   (cg x5.2 x5.1.Id).bind λx7=>
   (bv x5.1.Kills).bind λx8=>
   (mD x5.2.s (⟨x5.1.Id,x5.1.State,x5.1.Queue,x5.1.User,x5.1.Prio,⟨x5.1.Master.Mem,x5.1.Master.Cores⟩,x5.1.Asks,x5.2.s.Now,w64 (x5.1.Beat+1),[],[],x5.1.Grants,x5.1.Kills⟩:App)).bind λx9=>
   some ((⟨0,x6,x7,x8,0⟩:Output),(⟨⟨⟨x9.Conf.Labels,x9.Conf.Queues⟩,x9.Nodes,x9.Apps,x9.Conts,x9.Slots,x9.Plans,x9.Now,x9.Epoch,x9.Seq⟩,⟨x5.2.x.Kind,x5.2.x.Id,x5.2.x.Beat,x5.2.x.N,x5.2.x.Text,⟨x5.2.x.Node.Id,x5.2.x.Node.Label,x5.2.x.Node.Rack,⟨x5.2.x.Node.Cap.Mem,x5.2.x.Node.Cap.Cores⟩,x5.2.x.Node.Seen,x5.2.x.Node.Beat,x5.2.x.Node.Up⟩,⟨x5.2.x.App.Id,x5.2.x.App.State,x5.2.x.App.Queue,x5.2.x.App.User,x5.2.x.App.Prio,⟨x5.2.x.App.Master.Mem,x5.2.x.App.Master.Cores⟩,x5.2.x.App.Asks,x5.2.x.App.Seen,x5.2.x.App.Beat,x5.2.x.App.Grants,x5.2.x.App.Kills,x5.2.x.App.Told,x5.2.x.App.Lost⟩,x5.2.x.Asks,x5.2.x.Ids,⟨x5.2.x.Plan.Id,x5.2.x.Plan.Label,x5.2.x.Plan.From,x5.2.x.Plan.Until,⟨x5.2.x.Plan.Need.Mem,x5.2.x.Plan.Need.Cores⟩⟩⟩⟩:Step))
theorem pD(t:Step):Lo (eC t) (di t):=by
 unfold eC di
 repeat' (first | (with_reducible first | exact jh _ _ | exact qe _ _ | exact oC _ _ | exact mS _ _ | exact qu _ _ _ | exact ue _ _ | apply ag | apply aj | refine ai ?_ _ | exact ah _) | (intro _) | exact ae | (dsimp only))
def gR(t:Step):Option (Output×Step):=
 bif t.x.Kind == 1 then
 (dd t).bind λx=>
 some (x.1,x.2)
 else
 bif t.x.Kind == 2 then
  (iC t.s t.x.Node).bind λx1=>
  (cp t x1.1 x1.2).bind λx2=>
  some (x2.1,x2.2)
 else
  bif t.x.Kind == 3 then
  (fT t).bind λx3=>
  some (x3.1,x3.2)
  else
  bif t.x.Kind == 4 then
   (mr t.s t.x.App).bind λx4=>
   (cp t x4.1 x4.2).bind λx5=>
   some (x5.1,x5.2)
  else
   bif t.x.Kind == 5 then
   (eC t).bind λx6=>
   some (x6.1,x6.2)
   else
   bif t.x.Kind == 6 then
    none
   else
    bif t.x.Kind == 7 then
    none
    else
    bif t.x.Kind == 8 then
     none
    else
     bif t.x.Kind == 9 then
     none
     else
     bif t.x.Kind == 10 then
      none
     else
      bif t.x.Kind == 11 then
      none
      else
      none
theorem sP(t:Step):Lo (gR t) (fY t):=by
 unfold gR fY
 repeat' (first | (with_reducible first | exact mU _ | exact tL _ _ | exact q_ _ | exact w9 _ _ | exact pD _ | apply ag | apply aj | refine ai ?_ _ | exact ah _) | (intro _) | exact ae | (dsimp only))
def gI(s:State)(x:Input):Option (State×Output):=
 (ca s []).bind λx1=>
 (gR (⟨⟨⟨x1.Conf.Labels,x1.Conf.Queues⟩,x1.Nodes,x1.Apps,x1.Conts,x1.Slots,x1.Plans,x1.Now,x1.Epoch,x1.Seq⟩,⟨x.Kind,x.Id,x.Beat,x.N,x.Text,⟨x.Node.Id,x.Node.Label,x.Node.Rack,⟨x.Node.Cap.Mem,x.Node.Cap.Cores⟩,x.Node.Seen,x.Node.Beat,x.Node.Up⟩,⟨x.App.Id,x.App.State,x.App.Queue,x.App.User,x.App.Prio,⟨x.App.Master.Mem,x.App.Master.Cores⟩,x.App.Asks,x.App.Seen,x.App.Beat,x.App.Grants,x.App.Kills,x.App.Told,x.App.Lost⟩,x.Asks,x.Ids,⟨x.Plan.Id,x.Plan.Label,x.Plan.From,x.Plan.Until,⟨x.Plan.Need.Mem,x.Plan.Need.Cores⟩⟩⟩⟩:Step)).bind λx2=>
 bif x2.1.Err != 0 then
 (ca s []).bind λx3=>
 some (x3,x2.1)
 else
 (ca x2.2.s []).bind λx4=>
 some (x4,x2.1)
theorem oR(s:State)(x:Input):Lo (gI s x) (gm s x):=by
 unfold gI gm
 repeat' (first | (with_reducible first | exact jq _ _ | exact sP _ | apply ag | apply aj | refine ai ?_ _ | exact ah _) | (intro _) | exact ae | (dsimp only))
def d4(t:State×Int):Option ((State×Int) ⊕ (Bool ⊕ State)):=
 bif decide (t.2<([(⟨2,0,0,0,[],⟨1,0,0,⟨1,1⟩,0,0,false⟩,⟨0,0,[],0,0,⟨0,0⟩,[],0,0,[],[],[],[]⟩,[],[],⟨0,0,0,0,⟨0,0⟩⟩⟩:Input),(⟨4,0,0,0,[],⟨0,0,0,⟨0,0⟩,0,0,false⟩,⟨2,0,([114,111,111,116]:List UInt8),0,0,⟨1,1⟩,[],0,0,[],[],[],[]⟩,[],[],⟨0,0,0,0,⟨0,0⟩⟩⟩:Input),(⟨3,1,1,0,[],⟨0,0,0,⟨0,0⟩,0,0,false⟩,⟨0,0,[],0,0,⟨0,0⟩,[],0,0,[],[],[],[]⟩,[],[],⟨0,0,0,0,⟨0,0⟩⟩⟩:Input)].length:Int))then
 (inb t.2 [(⟨2,0,0,0,[],⟨1,0,0,⟨1,1⟩,0,0,false⟩,⟨0,0,[],0,0,⟨0,0⟩,[],0,0,[],[],[],[]⟩,[],[],⟨0,0,0,0,⟨0,0⟩⟩⟩:Input),(⟨4,0,0,0,[],⟨0,0,0,⟨0,0⟩,0,0,false⟩,⟨2,0,([114,111,111,116]:List UInt8),0,0,⟨1,1⟩,[],0,0,[],[],[],[]⟩,[],[],⟨0,0,0,0,⟨0,0⟩⟩⟩:Input),(⟨3,1,1,0,[],⟨0,0,0,⟨0,0⟩,0,0,false⟩,⟨0,0,[],0,0,⟨0,0⟩,[],0,0,[],[],[],[]⟩,[],[],⟨0,0,0,0,⟨0,0⟩⟩⟩:Input)].length).bind λi=>
 ([(⟨2,0,0,0,[],⟨1,0,0,⟨1,1⟩,0,0,false⟩,⟨0,0,[],0,0,⟨0,0⟩,[],0,0,[],[],[],[]⟩,[],[],⟨0,0,0,0,⟨0,0⟩⟩⟩:Input),(⟨4,0,0,0,[],⟨0,0,0,⟨0,0⟩,0,0,false⟩,⟨2,0,([114,111,111,116]:List UInt8),0,0,⟨1,1⟩,[],0,0,[],[],[],[]⟩,[],[],⟨0,0,0,0,⟨0,0⟩⟩⟩:Input),(⟨3,1,1,0,[],⟨0,0,0,⟨0,0⟩,0,0,false⟩,⟨0,0,[],0,0,⟨0,0⟩,[],0,0,[],[],[],[]⟩,[],[],⟨0,0,0,0,⟨0,0⟩⟩⟩:Input)][i]?).bind λx1=>
 (gI t.1 x1).bind λx2=>
 bif x2.2.Err != 0 then
  some (.inr (.inl false))
 else
  some (.inl (x2.1,w64 (t.2+1)))
 else
 some (.inr (.inr (t.1)))
theorem oB(t:State×Int):Lo (d4 t) (eS t):=by
 unfold d4 eS
 repeat' (first | (with_reducible first | exact oR _ _ | apply ag | apply aj | refine ai ?_ _ | exact ah _) | (intro _) | exact ae | (dsimp only))
def fK:Option Bool:=
 (h_).bind λx=>
 (itr 4096 d4 (x,0)).bind λq0=>
 match q0 with
 | .inl q=>
 some q
 | .inr s=>
 bif(s.Conts.length:Int) == 1 then
  (inb 0 s.Conts.length).bind λi1=>
  (s.Conts[i1]?).bind λx3=>
  bif x3.Master then
  (jB s).bind λx4=>
  some x4
  else
  some false
 else
  some false
theorem qB:Lo (fK) (d8):=by
 unfold fK d8
 repeat' (first | (with_reducible first | exact oB _ | exact uW _ | apply aw | apply ax | apply ay | apply ag | apply aj | refine ai ?_ _ | exact ah _) | (intro _) | exact ae | (dsimp only))
def fb(l:List Input)(t:State×State×Int):Option ((State×State×Int) ⊕ ((State×Bool) ⊕ (State×State))):=
 bif decide (t.2.2<(l.length:Int))then
 (idx l t.2.2).bind λx=>
 (gI t.1 x).bind λx1=>
 bif x1.2.Err != 0 then
  some (.inr (.inl (t.1,false)))
 else
  some (.inl (x1.1,t.2.1,w64 (t.2.2+1)))
 else
 some (.inr (.inr (t.1,t.2.1)))
theorem pY(l:List Input)(t:State×State×Int):Lo (fb l t) (gg l t):=by
 unfold fb gg
 repeat' (first | (with_reducible first | exact oR _ _ | apply ag | apply aj | refine ai ?_ _ | exact ah _) | (intro _) | exact ae | (dsimp only))
def cF(s:State)(l:List Input):Option (State×Bool):=
 (itr 4096 (fb l) (s,(⟨⟨[],[]⟩,[],[],[],[],[],0,0,0⟩:State),0)).bind λq0=>
 match q0 with
 | .inl q=>
 some (q.1,q.2)
 | .inr q1=>
 some (q1.1,true)
theorem lG(s:State)(l:List Input):Lo (cF s l) (cx s l):=by
 unfold cF cx
 repeat' (first | (with_reducible first | exact pY _ _ | apply aw | apply ax | apply ay | apply ag | apply aj | refine ai ?_ _ | exact ah _) | (intro _) | exact ae | (dsimp only))
def ff(s:State)(id_:Int):Option (App×Bool):=
 (itr 4096 (iP s id_) ((⟨0,0,[],0,0,⟨0,0⟩,[],0,0,[],[],[],[]⟩:App),0)).bind λq0=>
 match q0 with
 | .inl q=>
 some (q.1,q.2)
 | .inr q1=>
 some ((⟨0,0,[],0,0,⟨0,0⟩,[],0,0,[],[],[],[]⟩:App),false)
theorem qo(s:State)(id_:Int):Lo (ff s id_) (dO s id_):=by
 unfold ff dO
 repeat' (first | (with_reducible first | apply aw | apply ax | apply ay | apply ag | apply aj | refine ai ?_ _ | exact ah _) | (intro _) | exact ae | (dsimp only))
def eU(path:List UInt8):Option (List UInt8):=
 let k:=w64 ((path.length:Int) - 1)
 (itr 4096 (iI path) k).bind λk2=>
 bif decide (k2<0)then
 some ([]:List UInt8)
 else
 (slc path 0 k2).bind λs=>
 some s
theorem pV(path:List UInt8):Lo (eU path) (dJ path):=by
 unfold eU dJ
 repeat' (first | (with_reducible first | apply ag | apply aj | refine ai ?_ _ | exact ah _) | (intro _) | exact ae | (dsimp only))
def fp(t:List UInt8×List (List UInt8)):Option ((List UInt8×List (List UInt8)) ⊕ List (List UInt8)):=
 bif ! (t.1 == ([]:List UInt8))then
 (app 16 t.2 [t.1]).bind λl=>
 (eU t.1).bind λpath1=>
 some (.inl (path1,l))
 else
 some (.inr t.2)
theorem qn(t:List UInt8×List (List UInt8)):Lo (fp t) (gn t):=by
 unfold fp gn
 repeat' (first | (with_reducible first | exact pV _ | apply ag | apply aj | refine ai ?_ _ | exact ah _) | (intro _) | exact ae | (dsimp only))
def gV(path:List UInt8):Option (List (List UInt8)):=
 (itr 4096 fp (path,[])).bind λl1=>
 some l1
theorem sA(path:List UInt8):Lo (gV path) (fV path):=by
 unfold gV fV
 repeat' (first | (with_reducible first | exact qn _ | apply ag | apply aj | refine ai ?_ _ | exact ah _) | (intro _) | exact ae | (dsimp only))
def eF(leaf:List UInt8)(path:List UInt8):Option Bool:=
 (gV leaf).bind λup=>
 (itr 4096 (hU path up) 0).bind λq0=>
 match q0 with
 | .inl q=>
 some q
 | .inr _=>
 some false
theorem pu(leaf:List UInt8)(path:List UInt8):Lo (eF leaf path) (dj leaf path):=by
 unfold eF dj
 repeat' (first | (with_reducible first | exact sA _ | apply aw | apply ax | apply ay | apply ag | apply aj | refine ai ?_ _ | exact ah _) | (intro _) | exact ae | (dsimp only))
def dw(s:State)(path:List UInt8)(label:Int)(all:Bool)(user:Int)(t:Vec×Int):Option ((Vec×Int) ⊕ Vec):=
 bif decide (t.2<(s.Conts.length:Int))then
 (
  (idx s.Conts t.2).bind λx=>
  (ff s x.App).bind λx1=>
  (
  bif x1.2 then
   (idx s.Conts t.2).bind λx2=>
   bif x2.Label == label then
   (eF x1.1.Queue path).bind λx3=>
   bif x3 then
    bif all then
    some true
    else
    some (x1.1.User == user)
   else
    some false
   else
   some false
  else
   some false).bind λq=>
  bif q then
  (idx s.Conts t.2).bind λx4=>
  (ef t.1 x4.Size).bind λx5=>
  some x5
  else
  some t.1).bind λv=>
 some (.inl (v,w64 (t.2+1)))
 else
 some (.inr t.1)
theorem nF(s:State)(path:List UInt8)(label:Int)(all:Bool)(user:Int)(t:Vec×Int):Lo (dw s path label all user t) (eH s path label all user t):=by
 unfold dw eH
 repeat' (first | (with_reducible first | exact qo _ _ | exact pu _ _ | apply ag | apply aj | refine ai ?_ _ | exact ah _) | (intro _) | exact ae | (dsimp only))
def fd(s:State)(path:List UInt8)(label:Int)(all:Bool)(user:Int):Option Vec:=
 (itr 4096 (dw s path label all user) ((⟨0,0⟩:Vec),0)).bind λv1=>
 some v1
theorem p8(s:State)(path:List UInt8)(label:Int)(all:Bool)(user:Int):Lo (fd s path label all user) (dS s path label all user):=by
 unfold fd dS
 repeat' (first | (with_reducible first | exact nF _ _ _ _ _ _ | apply ag | apply aj | refine ai ?_ _ | exact ah _) | (intro _) | exact ae | (dsimp only))
def cR(s:State)(path:List UInt8)(label:Int):Option Vec:=
 (fd s path label true 0).bind λx=>
 some x
theorem qg(s:State)(path:List UInt8)(label:Int):Lo (cR s path label) (co s path label):=by
 unfold cR co
 repeat' (first | (with_reducible first | exact p8 _ _ _ _ _ | apply ag | apply aj | refine ai ?_ _ | exact ah _) | (intro _) | exact ae | (dsimp only))
def fI(s:State)(id_:Int):Option Vec:=
 (itr 4096 (jR s id_) ((⟨0,0⟩:Vec),0)).bind λv1=>
 some v1
theorem qM(s:State)(id_:Int):Lo (fI s id_) (d9 s id_):=by
 unfold fI d9
 repeat' (first | (with_reducible first | apply ag | apply aj | refine ai ?_ _ | exact ah _) | (intro _) | exact ae | (dsimp only))
def cN(t:State×Bool×Int):Option ((State×Bool×Int) ⊕ ((State×Bool))):=
 (
 bif decide (t.2.2<5)then
  some t.2.1
 else
  some false).bind λq=>
 bif q then
 (cF t.1 [(⟨3,1,w64 (2+t.2.2),0,[],⟨0,0,0,⟨0,0⟩,0,0,false⟩,⟨0,0,[],0,0,⟨0,0⟩,[],0,0,[],[],[],[]⟩,[],[],⟨0,0,0,0,⟨0,0⟩⟩⟩:Input),(⟨3,2,w64 (1+t.2.2),0,[],⟨0,0,0,⟨0,0⟩,0,0,false⟩,⟨0,0,[],0,0,⟨0,0⟩,[],0,0,[],[],[],[]⟩,[],[],⟨0,0,0,0,⟨0,0⟩⟩⟩:Input)]).bind λx8=>
 some (.inl (x8.1,x8.2,w64 (t.2.2+1)))
 else
 some (.inr (t.1,t.2.1))
theorem lX(t:State×Bool×Int):Lo (cN t) (dB t):=by
 unfold cN dB
 repeat' (first | (with_reducible first | exact lG _ _ | apply ag | apply aj | refine ai ?_ _ | exact ah _) | (intro _) | exact ae | (dsimp only))
def aa(a:Int)(b:Int)(units:Int):Option Bool:=
 (fK).bind λx=>
 bif ! x then
 some false
 else
 (aF a 8).bind λa1=>
 (aF b 8).bind λb1=>
 (aF units 8).bind λx1=>
 (h_).bind λx2=>
 (bE).bind λx3=>
 (cF x2 [(⟨1,0,0,0,([108,97,98,101,108,115,32,103,112,117,10,113,117,101,117,101,32,114,111,111,116,32,49,48,48,48,48,32,49,48,48,48,48,47,49,48,48,48,48,32,49,48,48,48,48,47,49,48,48,48,48,10]:List UInt8),⟨0,0,0,⟨0,0⟩,0,0,false⟩,⟨0,0,[],0,0,⟨0,0⟩,[],0,0,[],[],[],[]⟩,[],[],⟨0,0,0,0,⟨0,0⟩⟩⟩:Input),(⟨2,0,0,0,[],⟨1,0,0,⟨w64 (3+x1),w64 (3+x1)⟩,0,0,false⟩,⟨0,0,[],0,0,⟨0,0⟩,[],0,0,[],[],[],[]⟩,[],[],⟨0,0,0,0,⟨0,0⟩⟩⟩:Input),(⟨2,0,0,0,[],⟨2,1,0,⟨w64 (3+x1),w64 (3+x1)⟩,0,0,false⟩,⟨0,0,[],0,0,⟨0,0⟩,[],0,0,[],[],[],[]⟩,[],[],⟨0,0,0,0,⟨0,0⟩⟩⟩:Input),(⟨4,0,0,0,[],⟨0,0,0,⟨0,0⟩,0,0,false⟩,⟨1,0,([114,111,111,116]:List UInt8),0,0,⟨x3.Mem,x3.Cores⟩,[],0,0,[],[],[],[]⟩,[],[],⟨0,0,0,0,⟨0,0⟩⟩⟩:Input),(⟨3,1,1,0,[],⟨0,0,0,⟨0,0⟩,0,0,false⟩,⟨0,0,[],0,0,⟨0,0⟩,[],0,0,[],[],[],[]⟩,[],[],⟨0,0,0,0,⟨0,0⟩⟩⟩:Input)]).bind λx4=>
 bif ! x4.2 then
  some false
 else
  (bE).bind λx5=>
  (bE).bind λx6=>
  (cF x4.1 [(⟨5,1,1,0,[],⟨0,0,0,⟨0,0⟩,0,0,false⟩,⟨0,0,[],0,0,⟨0,0⟩,[],0,0,[],[],[],[]⟩,[(⟨1,0,⟨x5.Mem,x5.Cores⟩,a1,(-1),(-1),0⟩:Ask),(⟨2,1,⟨x6.Mem,x6.Cores⟩,b1,(-1),(-1),0⟩:Ask)],[],⟨0,0,0,0,⟨0,0⟩⟩⟩:Input)]).bind λx7=>
  (itr 4096 cN (x7.1,x7.2,0)).bind λq1=>
  bif q1.2 then
  (cR q1.1 ([114,111,111,116]:List UInt8) 0).bind λx9=>
  bif x9.Mem == (w64 (1+(imin a1 (w64 ((w64 (3+x1)) - 1)))))then
   (cR q1.1 ([114,111,111,116]:List UInt8) 1).bind λx10=>
   bif x10.Mem == (imin b1 (w64 (3+x1)))then
   (fI q1.1 2).bind λx11=>
   (gZ x11 (⟨w64 (3+x1),w64 (3+x1)⟩:Vec)).bind λx12=>
   some x12
   else
   some false
  else
   some false
  else
  some false
theorem oz(a:Int)(b:Int)(units:Int):Lo (aa a b units) (aP a b units):=by
 unfold aa aP
 repeat' (first | (with_reducible first | exact qB  | exact lG _ _ | exact lX _ | exact qg _ _ _ | exact qM _ _ | apply ag | apply aj | refine ai ?_ _ | exact ah _) | (intro _) | exact ae | (dsimp only))
end Go.Fx.D
