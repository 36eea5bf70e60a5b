/-
  The functions of the program that this law reaches, as functions over plain data (printed by a program). Conditions: none.
-/
import Derived.Test.YtkagmokhbmbjdaaGreatDoorFxD
import Derived.Test.YtkagmokhbmbjdaaGreatDoorA
namespace Go.Fx.D
open Go Go.Fx Go.Proofs
set_option linter.unusedVariables false
noncomputable section
def h_:Option State:=
 some (⟨⟨[([]:List UInt8)],[(⟨([114,111,111,116]:List UInt8),[(⟨10000,10000⟩:Cap)],10000⟩:Queue)]⟩,[],[],[],[],[],0,0,0⟩:State)
def h10:Hint:=.z
noncomputable def sp10:Spec fam:=⟨[],[.v (.st 10) [0,1,2,3,4,5,6]],λ_=>h_⟩
def oY(s:List UInt8):Option Bool:=nameD 12 s
def sp84:Spec fam:=⟨[.v .str []],[.v .bool []],λa=>oY a.1⟩
def pR(l:List (List UInt8))(t:List Ent0_ListUInt8Int×Int):Option ((List Ent0_ListUInt8Int×Int) ⊕ (Int ⊕ List Ent0_ListUInt8Int)):=
 bif decide (t.2<(l.length:Int))then
 (idx l t.2).bind λx=>
 (
  bif t.2 == 0 then
  bif ! (x == ([]:List UInt8))then
   some true
  else
   bif decide (t.2>0)then
   (oY x).bind λx1=>
   some (! x1)
   else
   some false
  else
  bif decide (t.2>0)then
   (oY x).bind λx2=>
   some (! x2)
  else
   some false).bind λq=>
 bif q then
  some (.inr (.inl 12))
 else
  let e:=mget (λx3=>x == x3.k) t.1 (⟨x,0⟩:Ent0_ListUInt8Int)
  some (.inl (mput (λx4=>x == x4.k) t.1 (⟨x,w64 (e.v+1)⟩:Ent0_ListUInt8Int),w64 (t.2+1)))
 else
 some (.inr (.inr (t.1)))
def kW(l:List (List UInt8)):Option Int:=
 (loop (pR l) ([],0)).bind λq0=>
 match q0 with
 | .inl q1=>
 some q1
 | .inr was=>
 bif decide ((was.length:Int)<(l.length:Int))then
  some 7
 else
  some 0
def h38:Hint:=(.s .z (.s .z (.s (.s .z (.b (.l [(3,.row (.st 500) false),(9,.v (.int .i64) [])] [2,3,4,5,6,9,28] [(1,[(2,.v (.int .i64) [])]),(2,[(3,.row (.st 500) false)])] (.s .z (.s .z (.s (.b (.s .z (.s (.s (.j [] [(0,[(28,.v .bool [])])] .z) .z) .z))) .z)))))) .z)))
def sp38:Spec fam:=⟨[.v (.slice (.str)) []],[.v (.int .i64) []],λa=>kW a.1⟩
def dU(s:List UInt8)(c:Int)(i1:Int):Option (Int ⊕ (Int ⊕ Unit)):=
 bif decide (i1≥0)then
 (idx s i1).bind λch=>
 bif(ch.toNat:Int) == c then
  some (.inr (.inl i1))
 else
  some (.inl (w64 (i1 - 1)))
 else
 some (.inr (.inr ()))
def bw(s:List UInt8)(c:Int):Option Int:=
 let i:=w64 ((s.length:Int) - 1)
 (loop (dU s c) i).bind λq0=>
 match q0 with
 | .inl q=>
 some q
 | .inr _=>
 some (-1)
def h189:Hint:=(.s .z (.s (.s .z (.b (.l [(5,.v (.int .i64) [])] [4,5] [(1,[(4,.v (.int .i64) [])]),(2,[])] .z))) .z))
def sp189:Spec fam:=⟨[.v .str [],.v (.int .u8) []],[.v (.int .i64) []],λa=>bw a.1 a.2.1⟩
def hF(_a0:List UInt8)(_a1:List UInt8):Option Int:=none
def sp190:Spec fam:=⟨[.v .str [],.v .str []],[.v (.int .i64) []],λa=>hF a.1 a.2.1⟩
def em(s:List UInt8)(substr:List UInt8):Option Int:=
 bif(substr.length:Int) == 0 then
 some (s.length:Int)
 else
 bif(substr.length:Int) == 1 then
  (idx substr 0).bind λch=>
  (bw s (ch.toNat:Int)).bind λx=>
  some x
 else
  bif(substr.length:Int) == (s.length:Int)then
  bif substr == s then
   some 0
  else
   some (-1)
  else
  bif decide ((substr.length:Int)>(s.length:Int))then
   some (-1)
  else
   none
def h145:Hint:=.z
def sp145:Spec fam:=⟨[.v .str [],.v .str []],[.v (.int .i64) []],λa=>em a.1 a.2.1⟩
def gG(path:List UInt8):Option (List UInt8×Bool):=
 (em path ([46]:List UInt8)).bind λi=>
 bif decide (i<0)then
 some (([]:List UInt8),false)
 else
 (slc path 0 i).bind λs=>
 some (s,true)
def h85:Hint:=.z
def sp85:Spec fam:=⟨[.v .str []],[.v .str [],.v .bool []],λa=>gG a.1⟩
def vz(_a0:List UInt8)(_a1:Int):Option (List (List UInt8)):=none
def sp223:Spec fam:=⟨[.v .str [],.v (.int .i64) []],[.v (.slice (.str)) []],λa=>vz a.1 a.2.1⟩
def mo(s:List UInt8)(sub:List UInt8):Option Int:=cnt1 s sub
def sp224:Spec fam:=⟨[.v .str [],.v .str []],[.v (.int .i64) []],λa=>mo a.1 a.2.1⟩
def iW(s:List UInt8)(c:Int):Option Int:=ixb s c
def sp298:Spec fam:=⟨[.v .str [],.v (.int .u8) []],[.v (.int .i64) []],λa=>iW a.1 a.2.1⟩
def g_(s:List UInt8)(substr:List UInt8):Option Int:=
 (
 bif(substr.length:Int) == 0 then
  some true
 else
  some (substr == s)).bind λq=>
 bif q then
 some 0
 else
 bif(substr.length:Int) == 1 then
  (idx substr 0).bind λch=>
  (iW s (ch.toNat:Int)).bind λx=>
  some x
 else
  bif decide ((substr.length:Int)≥(s.length:Int))then
  some (-1)
  else
  none
def h270:Hint:=(.s .z (.s .z (.s (.b (.s (.j [] [(0,[(16,.v .bool [])])] .z) .z)) .z)))
def sp270:Spec fam:=⟨[.v .str [],.v .str []],[.v (.int .i64) []],λa=>g_ a.1 a.2.1⟩
def rf(s:List UInt8)(substr:List UInt8):Option Int:=
 (g_ s substr).bind λx=>
 some x
def h225:Hint:=.z
def sp225:Spec fam:=⟨[.v .str [],.v .str []],[.v (.int .i64) []],λa=>rf a.1 a.2.1⟩
def jX(sep:List UInt8)(sepSave:Int)(n2:Int)(t:List UInt8×List (List UInt8)×Int):Option ((List UInt8×List (List UInt8)×Int) ⊕ ((List UInt8×List (List UInt8)×Int))):=
 bif decide (t.2.2<(w64 (n2 - 1)))then
 (rf t.1 sep).bind λm=>
 bif decide (m<0)then
  some (.inr (t.1,t.2.1,t.2.2))
 else
  (slc t.1 0 (w64 (m+sepSave))).bind λs1=>
  (inb t.2.2 t.2.1.length).bind λi=>
  (t.2.1[i]?).bind λx1=>
  (slc t.1 (w64 (m+(sep.length:Int))) (t.1.length:Int)).bind λs2=>
  some (.inl (s2,List.set t.2.1 i s1,w64 (t.2.2+1)))
 else
 some (.inr (t.1,t.2.1,t.2.2))
def eT(s:List UInt8)(sep:List UInt8)(sepSave:Int)(n:Int):Option (List (List UInt8)):=
 bif n == 0 then
 some []
 else
 bif sep == ([]:List UInt8)then
  none
 else
  (
  bif decide (n<0)then
   (mo s sep).bind λx=>
   some (w64 (x+1))
  else
   some n).bind λn1=>
  let n2:=imin n1 (w64 ((s.length:Int)+1))
  (mkl 16 n2 n2 []).bind λl=>
  (loop (jX sep sepSave n2) (s,l,0)).bind λq=>
  (inb q.2.2 q.2.1.length).bind λi1=>
  (q.2.1[i1]?).bind λx2=>
  (inS 0 (w64 (q.2.2+1)) (List.set q.2.1 i1 q.1).length).bind λp=>
  some (List.take p.2 (List.set q.2.1 i1 q.1))
def h191:Hint:=(.s .z (.s .z (.s .z (.s (.j [3] [(0,[(3,.v (.int .i64) [])])] .z) (.s .z (.s .z (.s .z (.s .z (.s (.b (.l [(0,.v .str []),(9,.row .str false),(10,.v (.int .i64) [])] [0,9,10,11] [(2,[(0,.v .str []),(9,.row .str false),(10,.v (.int .i64) [])])] .z)) (.s .z (.s (.r [9998]) .z)))))))))))
def sp191:Spec fam:=⟨[.v .str [],.v .str [],.v (.int .i64) [],.v (.int .i64) []],[.v (.slice (.str)) [0]],λa=>eT a.1 a.2.1 a.2.2.1 a.2.2.2.1⟩
def dC(s:List UInt8)(sep:List UInt8):Option (List (List UInt8)):=
 (eT s sep 0 (-1)).bind λx=>
 some x
def h146:Hint:=.z
def sp146:Spec fam:=⟨[.v .str [],.v .str []],[.v (.slice (.str)) [0]],λa=>dC a.1 a.2.1⟩
def bi(s:List (List UInt8))(f:(TupT fam [.str]→Option Bool))(t:Int):Option (Int ⊕ (Int ⊕ Unit)):=
 bif decide (t<(s.length:Int))then
 (idx s t).bind λx=>
 (f (x,())).bind λr=>
 bif r then
  some (.inr (.inl t))
 else
  some (.inl (w64 (t+1)))
 else
 some (.inr (.inr ()))
def aL(s:List (List UInt8))(f:(TupT fam [.str]→Option Bool)):Option Int:=
 (loop (bi s f) 0).bind λq0=>
 match q0 with
 | .inl q=>
 some q
 | .inr _=>
 some (-1)
def h192:Hint:=(.s .z (.s (.s .z (.b (.l [(8,.v (.int .i64) [])] [4,5,8] [(1,[(4,.v (.int .i64) [])]),(2,[])] .z))) .z))
def sp192:Spec fam:=⟨[.v (.slice (.str)) [],.fn [.str] .bool],[.v (.int .i64) []],λa=>aL a.1 a.2.1⟩
def aQ(s:List (List UInt8))(f:(TupT fam [.str]→Option Bool)):Option Bool:=
 (aL s f).bind λx=>
 some (decide (x≥0))
def h147:Hint:=.z
def sp147:Spec fam:=⟨[.v (.slice (.str)) [],.fn [.str] .bool],[.v .bool []],λa=>aQ a.1 a.2.1⟩
def lN(n:List UInt8):Option Bool:=
 (oY n).bind λx=>
 some (! x)
def h148:Hint:=.z
def sp148:Spec fam:=⟨[.v .str []],[.v .bool []],λa=>lN a.1⟩
def kP(s:List UInt8):Option Bool:=
 (dC s ([46]:List UInt8)).bind λl=>
 (inb 0 l.length).bind λi=>
 (l[i]?).bind λx=>
 bif x == ([114,111,111,116]:List UInt8)then
 bif decide ((l.length:Int)≤4)then
  (aQ l (λa'=>lN a'.1)).bind λx1=>
  some (! x1)
 else
  some false
 else
 some false
def h86:Hint:=.z
def sp86:Spec fam:=⟨[.v .str []],[.v .bool []],λa=>kP a.1⟩
def pE(s:List Cap)(f:(TupT fam [.st 1]→Option Bool))(t:Int):Option (Int ⊕ (Int ⊕ Unit)):=
 bif decide (t<(s.length:Int))then
 (idx s t).bind λx=>
 (f (x,())).bind λr=>
 bif r then
  some (.inr (.inl t))
 else
  some (.inl (w64 (t+1)))
 else
 some (.inr (.inr ()))
def qv(s:List Cap)(f:(TupT fam [.st 1]→Option Bool)):Option Int:=
 (loop (pE s f) 0).bind λq0=>
 match q0 with
 | .inl q=>
 some q
 | .inr _=>
 some (-1)
def h193:Hint:=(.s .z (.s (.s .z (.b (.l [(8,.v (.int .i64) [])] [4,5,8] [(1,[(4,.v (.int .i64) [])]),(2,[])] .z))) .z))
def sp193:Spec fam:=⟨[.v (.slice (.st 1)) [],.fn [.st 1] .bool],[.v (.int .i64) []],λa=>qv a.1 a.2.1⟩
def jg(s:List Cap)(f:(TupT fam [.st 1]→Option Bool)):Option Bool:=
 (qv s f).bind λx=>
 some (decide (x≥0))
def h149:Hint:=.z
def sp149:Spec fam:=⟨[.v (.slice (.st 1)) [],.fn [.st 1] .bool],[.v .bool []],λa=>jg a.1 a.2.1⟩
def pq(c:Cap):Option Bool:=
 bif decide (c.Least<0)then
 some true
 else
 bif decide (c.Most>10000)then
  some true
 else
  some (decide (c.Least>c.Most))
def h150:Hint:=.z
def sp150:Spec fam:=⟨[.v (.st 1) []],[.v .bool []],λa=>pq a.1⟩
def oO(l:List Cap):Option Bool:=
 (jg l (λa'=>pq a'.1)).bind λx=>
 some (! x)
def h87:Hint:=.z
def sp87:Spec fam:=⟨[.v (.slice (.st 1)) []],[.v .bool []],λa=>oO a.1⟩
def kD(c:Conf)(t:List Ent0_ListUInt8Int×List UInt8×Int):Option ((List Ent0_ListUInt8Int×List UInt8×Int) ⊕ (Int ⊕ Unit)):=
 bif decide (t.2.2<(c.Queues.length:Int))then
 (idx c.Queues t.2.2).bind λx=>
 (gG x.Path).bind λx1=>
 (kP x.Path).bind λx2=>
 bif ! x2 then
  some (.inr (.inl 12))
 else
  (
  bif decide (t.2.2>0)then
   some (strLe x.Path t.2.1)
  else
   some false).bind λq=>
  bif q then
  some (.inr (.inl 7))
  else
  (
   bif x1.2 then
   let e:=mget (λx3=>x1.1 == x3.k) t.1 (⟨x1.1,0⟩:Ent0_ListUInt8Int)
   some (e.v == 0)
   else
   some false).bind λq1=>
  bif q1 then
   some (.inr (.inl 12))
  else
   (
   bif decide (x.User<1)then
    some true
   else
    bif decide (x.User>1000000)then
    some true
    else
    bif(x.Caps.length:Int) != (c.Labels.length:Int)then
     some true
    else
     (oO x.Caps).bind λx4=>
     some (! x4)).bind λq2=>
   bif q2 then
   some (.inr (.inl 1))
   else
   let e1:=mget (λx5=>x.Path == x5.k) t.1 (⟨x.Path,0⟩:Ent0_ListUInt8Int)
   some (.inl (mput (λx6=>x.Path == x6.k) t.1 (⟨x.Path,w64 (e1.v+1)⟩:Ent0_ListUInt8Int),x.Path,w64 (t.2.2+1)))
 else
 some (.inr (.inr ()))
def kN(c:Conf):Option Int:=
 (loop (kD c) ([],([]:List UInt8),0)).bind λq0=>
 match q0 with
 | .inl q3=>
 some q3
 | .inr _=>
 some 0
def h39:Hint:=(.s .z (.s .z (.s .z (.s (.s .z (.b (.l [(3,.row (.st 500) false),(4,.v .str []),(13,.v (.int .i64) [])] [2,3,4,5,6,7,8,9,13,29,38,46] [(1,[(2,.v (.int .i64) [])]),(2,[])] (.s .z (.s .z (.s (.b (.s .z (.s .z (.s (.b (.s .z (.c .z (.s (.j [] [(0,[(29,.v .bool [])])] .z) (.c .z (.s (.j [] [(0,[(38,.v .bool [])])] .z) (.c .z (.s (.j [] [(0,[(46,.v .bool [])])] .z) .z)))))))) .z)))) .z)))))) .z))))
def sp39:Spec fam:=⟨[.v (.st 3) []],[.v (.int .i64) []],λa=>kN a.1⟩
def nU(c:Conf)(path:List UInt8)(t:List (List UInt8)×Int):Option ((List (List UInt8)×Int) ⊕ List (List UInt8)):=
 bif decide (t.2<(c.Queues.length:Int))then
 (
  (idx c.Queues t.2).bind λx=>
  (gG x.Path).bind λx1=>
  (
  bif x1.2 then
   some (x1.1 == path)
  else
   some false).bind λq=>
  bif q then
  (app 16 t.1 [x.Path]).bind λl=>
  some l
  else
  some t.1).bind λout=>
 some (.inl (out,w64 (t.2+1)))
 else
 some (.inr t.1)
def iS(c:Conf)(path:List UInt8):Option (List (List UInt8)):=
 (loop (nU c path) ([],0)).bind λout1=>
 some out1
def h88:Hint:=(.s .z (.s .z (.s (.s .z (.b (.l [(5,.v (.slice (.str)) [0]),(13,.v (.int .i64) [])] [5,7,8,9,13,28] [(2,[(5,.v (.slice (.str)) [0])])] (.s .z (.s .z (.s (.j [5,7,8,9,28] [(0,[(5,.v (.slice (.str)) [0])])] (.b (.s .z (.s .z (.s (.j [] [(0,[(28,.v .bool [])])] .z) .z))))) .z)))))) .z)))
def sp88:Spec fam:=⟨[.v (.st 3) [],.v .str []],[.v (.slice (.str)) [0]],λa=>iS a.1 a.2.1⟩
def vt(s:List Cap):Option (List Cap):=
 bif s.isEmpty then
 none
 else
 (app 16 [] s).bind λl=>
 some l
def ep(s:List Cap):Option (List Cap):=app 16 [] s
def h100:Hint:=.z
def sp100:Spec fam:=⟨[.v (.slice (.st 1)) []],[.v (.slice (.st 1)) [0]],λa=>ep a.1⟩
def DD:Spec fam:=⟨[.v (.slice (.st 1)) []],[.v (.slice (.st 1)) [0]],λa=>vt a.1⟩
def l_(s:List Queue)(f:(TupT fam [.st 2]→Option Bool))(t:Int):Option (Int ⊕ (Int ⊕ Unit)):=
 bif decide (t<(s.length:Int))then
 (idx s t).bind λx=>
 (f (x,())).bind λr=>
 bif r then
  some (.inr (.inl t))
 else
  some (.inl (w64 (t+1)))
 else
 some (.inr (.inr ()))
def mL(s:List Queue)(f:(TupT fam [.st 2]→Option Bool)):Option Int:=
 (loop (l_ s f) 0).bind λq0=>
 match q0 with
 | .inl q=>
 some q
 | .inr _=>
 some (-1)
def h151:Hint:=(.s .z (.s (.s .z (.b (.l [(8,.v (.int .i64) [])] [4,5,8] [(1,[(4,.v (.int .i64) [])]),(2,[])] .z))) .z))
def sp151:Spec fam:=⟨[.v (.slice (.st 2)) [],.fn [.st 2] .bool],[.v (.int .i64) []],λa=>mL a.1 a.2.1⟩
def pe(q:Queue)(p:List UInt8):Option Bool:=
 some (q.Path == p)
def h152:Hint:=.z
def sp152:Spec fam:=⟨[.v (.st 2) [],.rp .str],[.v .bool []],λa=>pe a.1 a.2.1⟩
def eN(c:Conf)(path:List UInt8):Option (Queue×Bool):=
 (mL c.Queues (λa'=>pe a'.1 path)).bind λi=>
 bif decide (i<0)then
 some ((⟨[],[],0⟩:Queue),false)
 else
 (idx c.Queues i).bind λx=>
 (ep x.Caps).bind λx1=>
 some ((⟨x.Path,x1,x.User⟩:Queue),true)
def h89:Hint:=.z
def sp89:Spec fam:=⟨[.v (.st 3) [],.v .str []],[.v (.st 2) [1],.v .bool []],λa=>eN a.1 a.2.1⟩
def ot(c:Conf)(kids:List (List UInt8))(t2:Int)(t3:Int×Int):Option ((Int×Int) ⊕ Int):=
 bif decide (t3.2<(kids.length:Int))then
 (inb t3.2 kids.length).bind λi=>
 (kids[i]?).bind λx3=>
 (eN c x3).bind λx4=>
 (inb t2 x4.1.Caps.length).bind λi1=>
 (x4.1.Caps[i1]?).bind λx5=>
 let sum:=w64 (t3.1+x5.Least)
 some (.inl (sum,w64 (t3.2+1)))
 else
 some (.inr t3.1)
def nX(c:Conf)(kids:List (List UInt8))(t2:Int):Option (Int ⊕ (Int ⊕ Unit)):=
 bif decide (t2<(c.Labels.length:Int))then
 (loop (ot c kids t2) (0,0)).bind λsum1=>
 (
  bif decide ((kids.length:Int)>0)then
  some (sum1 != 10000)
  else
  some false).bind λq2=>
 bif q2 then
  some (.inr (.inl 13))
 else
  some (.inl (w64 (t2+1)))
 else
 some (.inr (.inr ()))
def oy(c:Conf)(t1:Int):Option (Int ⊕ (Int ⊕ Unit)):=
 bif decide (t1<(c.Queues.length:Int))then
 (idx c.Queues t1).bind λx2=>
 (iS c x2.Path).bind λkids=>
 (loop (nX c kids) 0).bind λq0=>
 match q0 with
 | .inl q3=>
  some (.inr (.inl q3))
 | .inr _=>
  some (.inl (w64 (t1+1)))
 else
 some (.inr (.inr ()))
def sE(x:Queue)(t:Int):Option (Int ⊕ (Int ⊕ Unit)):=
 bif decide (t<(x.Caps.length:Int))then
 (idx x.Caps t).bind λx1=>
 (
  bif x1.Least != 10000 then
  some true
  else
  some (x1.Most != 10000)).bind λq=>
 bif q then
  some (.inr (.inl 13))
 else
  some (.inl (w64 (t+1)))
 else
 some (.inr (.inr ()))
def oM(c:Conf):Option Int:=
 (idx c.Queues 0).bind λx=>
 (loop (sE x) 0).bind λq0=>
 match q0 with
 | .inl q1=>
 some q1
 | .inr _=>
 (loop (oy c) 0).bind λq0=>
 match q0 with
 | .inl q4=>
  some q4
 | .inr _=>
  some 0
def h40:Hint:=(.s .z (.s (.s .z (.b (.l [(20,.v (.int .i64) [])] [2,4,20,21,22,23,24,25,26,27,28,29,30,31,32] [(1,[(2,.v (.int .i64) [])]),(2,[])] (.s .z (.s .z (.s (.b (.s .z (.s (.j [24,25,26,27,28,29,30,31] [(0,[(31,.v .bool [])])] .z) .z))) .z)))))) (.s (.s .z (.b (.l [(36,.v (.int .i64) [])] [2,6,7,8,9,11,12,13,36,37,38,39,40,41,42,43,44,45,46,47,48,49,50,51,52,77] [(1,[(2,.v (.int .i64) [])]),(4,[])] (.s .z (.s .z (.s (.b (.s .z (.s .z (.s .z (.b (.l [(47,.v (.int .i64) [])] [2,8,9,11,12,13,47,48,49,50,51,52,77] [(1,[(2,.v (.int .i64) [])]),(6,[])] (.s .z (.s .z (.s (.b (.s .z (.s .z (.s (.s .z (.b (.l [(9,.v (.int .i64) []),(52,.v (.int .i64) [])] [9,11,12,13,52] [(8,[(9,.v (.int .i64) [])])] .z))) (.s (.j [] [(0,[(77,.v .bool [])])] .z) .z))))) .z))))))))) .z)))))) .z)))
def sp40:Spec fam:=⟨[.v (.st 3) []],[.v (.int .i64) []],λa=>oM a.1⟩
def jl(c:Conf):Option Int:=
 (
 bif(c.Labels.length:Int) == 0 then
  some true
 else
  bif decide ((c.Labels.length:Int)>3)then
  some true
  else
  some (decide ((c.Queues.length:Int)>16))).bind λq=>
 bif q then
 some 4
 else
 (kW c.Labels).bind λe=>
 bif e != 0 then
  some e
 else
  (
  bif(c.Queues.length:Int) == 0 then
   some true
  else
   (idx c.Queues 0).bind λx=>
   some (! (x.Path == ([114,111,111,116]:List UInt8)))).bind λq1=>
  bif q1 then
  some 12
  else
  (kN c).bind λe1=>
  bif e1 != 0 then
   some e1
  else
   (oM c).bind λx1=>
   some x1
def h23:Hint:=(.s .z (.s (.s (.j [] [(0,[(20,.v .bool [])])] .z) .z) (.s .z (.s (.s (.j [] [(0,[(38,.v .bool [])])] .z) .z) .z))))
def sp23:Spec fam:=⟨[.v (.st 3) []],[.v (.int .i64) []],λa=>jl a.1⟩
def pz(s:List Vec)(f:(TupT fam [.st 0]→Option Bool))(t:Int):Option (Int ⊕ (Int ⊕ Unit)):=
 bif decide (t<(s.length:Int))then
 (idx s t).bind λx=>
 (f (x,())).bind λr=>
 bif r then
  some (.inr (.inl t))
 else
  some (.inl (w64 (t+1)))
 else
 some (.inr (.inr ()))
def qY(s:List Vec)(f:(TupT fam [.st 0]→Option Bool)):Option Int:=
 (loop (pz s f) 0).bind λq0=>
 match q0 with
 | .inl q=>
 some q
 | .inr _=>
 some (-1)
def h90:Hint:=(.s .z (.s (.s .z (.b (.l [(8,.v (.int .i64) [])] [4,5,8] [(1,[(4,.v (.int .i64) [])]),(2,[])] .z))) .z))
def sp90:Spec fam:=⟨[.v (.slice (.st 0)) [],.fn [.st 0] .bool],[.v (.int .i64) []],λa=>qY a.1 a.2.1⟩
def kY(s:List Vec)(f:(TupT fam [.st 0]→Option Bool)):Option Bool:=
 (qY s f).bind λx=>
 some (decide (x≥0))
def h41:Hint:=.z
def sp41:Spec fam:=⟨[.v (.slice (.st 0)) [],.fn [.st 0] .bool],[.v .bool []],λa=>kY a.1 a.2.1⟩
def fq(v:Vec):Option Bool:=
 bif decide (v.Mem<0)then
 some true
 else
 bif decide (v.Mem>1125899906842624)then
  some true
 else
  bif decide (v.Cores<0)then
  some true
  else
  some (decide (v.Cores>1125899906842624))
def h42:Hint:=.z
def sp42:Spec fam:=⟨[.v (.st 0) []],[.v .bool []],λa=>fq a.1⟩
def iO(x3:App)(t4:List Vec×Int):Option ((List Vec×Int) ⊕ List Vec):=
 bif decide (t4.2<(x3.Asks.length:Int))then
 (idx x3.Asks t4.2).bind λx4=>
 (app 16 t4.1 [x4.Size]).bind λl7=>
 some (.inl (l7,w64 (t4.2+1)))
 else
 some (.inr t4.1)
def er(k:Look)(t3:List Vec×Int):Option ((List Vec×Int) ⊕ List Vec):=
 bif decide (t3.2<(k.s.Apps.length:Int))then
 (idx k.s.Apps t3.2).bind λx3=>
 (app 16 t3.1 [x3.Master]).bind λl6=>
 (loop (iO x3) (l6,0)).bind λl8=>
 some (.inl (l8,w64 (t3.2+1)))
 else
 some (.inr t3.1)
def iU(k:Look)(t2:List Vec×Int):Option ((List Vec×Int) ⊕ List Vec):=
 bif decide (t2.2<(k.s.Plans.length:Int))then
 (idx k.s.Plans t2.2).bind λx2=>
 (app 16 t2.1 [x2.Need]).bind λl4=>
 some (.inl (l4,w64 (t2.2+1)))
 else
 some (.inr t2.1)
def iK(k:Look)(t1:List Vec×Int):Option ((List Vec×Int) ⊕ List Vec):=
 bif decide (t1.2<(k.s.Conts.length:Int))then
 (idx k.s.Conts t1.2).bind λx1=>
 (app 16 t1.1 [x1.Size]).bind λl2=>
 some (.inl (l2,w64 (t1.2+1)))
 else
 some (.inr t1.1)
def iV(k:Look)(t:List Vec×Int):Option ((List Vec×Int) ⊕ List Vec):=
 bif decide (t.2<(k.s.Nodes.length:Int))then
 (idx k.s.Nodes t.2).bind λx=>
 (app 16 t.1 [x.Cap]).bind λl=>
 some (.inl (l,w64 (t.2+1)))
 else
 some (.inr t.1)
def dR(k:Look):Option Bool:=
 (loop (iV k) ([],0)).bind λl1=>
 (loop (iK k) (l1,0)).bind λl3=>
 (loop (iU k) (l3,0)).bind λl5=>
 (loop (er k) (l5,0)).bind λl9=>
 (kY l9 (λa'=>fq a'.1)).bind λx5=>
 some (! x5)
def h24:Hint:=(.s .z (.s .z (.s (.s .z (.b (.l [(3,.v (.slice (.st 0)) [0]),(18,.v (.int .i64) [])] [3,5,18,19,20,21,22,23,24,25,26,27] [(2,[(3,.v (.slice (.st 0)) [0])])] .z))) (.s (.s .z (.b (.l [(3,.v (.slice (.st 0)) [0]),(32,.v (.int .i64) [])] [3,7,32,33,34,35,36,37,38,39,40,41] [(4,[(3,.v (.slice (.st 0)) [0])])] .z))) (.s (.s .z (.b (.l [(3,.v (.slice (.st 0)) [0]),(46,.v (.int .i64) [])] [3,9,46,47,48,49,50,51,52,53,54,55] [(6,[(3,.v (.slice (.st 0)) [0])])] .z))) (.s (.s .z (.b (.l [(3,.v (.slice (.st 0)) [0]),(60,.v (.int .i64) [])] [3,11,13,60,61,62,63,64,65,66,67,68,69,70,71,72] [(8,[(3,.v (.slice (.st 0)) [0])])] (.s .z (.s .z (.s (.b (.s .z (.s .z (.s .z (.b (.l [(3,.v (.slice (.st 0)) [0]),(72,.v (.int .i64) [])] [3,13,68,72] [(10,[(3,.v (.slice (.st 0)) [0])])] .z)))))) .z)))))) .z))))))
def sp24:Spec fam:=⟨[.v (.st 16) []],[.v .bool []],λa=>dR a.1⟩
def iE(n:Int)(id_:(TupT fam [.int .i64]→Option Int))(i:Int):Option (Int ⊕ (Bool ⊕ Unit)):=
 bif decide (i<n)then
 (id_ (w64 (i - 1),())).bind λr=>
 (id_ (i,())).bind λr1=>
 bif decide (r≥r1)then
  some (.inr (.inl false))
 else
  some (.inl (w64 (i+1)))
 else
 some (.inr (.inr ()))
def bZ(n:Int)(most:Int)(id_:(TupT fam [.int .i64]→Option Int)):Option Bool:=
 (loop (iE n id_) 1).bind λq0=>
 match q0 with
 | .inl q=>
 some q
 | .inr _=>
 some (decide (n≤most))
def h43:Hint:=(.s .z (.s (.s .z (.b (.l [(7,.v (.int .i64) [])] [6,7] [(1,[(6,.v .bool [])]),(2,[])] .z))) .z))
def sp43:Spec fam:=⟨[.v (.int .i64) [],.v (.int .i64) [],.fn [.int .i64] (.int .i64)],[.v .bool []],λa=>bZ a.1 a.2.1 a.2.2.1⟩
def ew(_a0:Int)(_a1:State):Option Int:=none
def sp44:Spec fam:=⟨[.v (.int .i64) [],.rp (.st 10)],[.v (.int .i64) []],λa=>ew a.1 a.2.1⟩
def eD(_a0:Int)(_a1:State):Option Int:=none
def sp45:Spec fam:=⟨[.v (.int .i64) [],.rp (.st 10)],[.v (.int .i64) []],λa=>eD a.1 a.2.1⟩
def eu(_a0:Int)(_a1:State):Option Int:=none
def sp46:Spec fam:=⟨[.v (.int .i64) [],.rp (.st 10)],[.v (.int .i64) []],λa=>eu a.1 a.2.1⟩
def eJ(_a0:Int)(_a1:State):Option Int:=none
def sp47:Spec fam:=⟨[.v (.int .i64) [],.rp (.st 10)],[.v (.int .i64) []],λa=>eJ a.1 a.2.1⟩
def et(_a0:Int)(_a1:State):Option Int:=none
def sp48:Spec fam:=⟨[.v (.int .i64) [],.rp (.st 10)],[.v (.int .i64) []],λa=>et a.1 a.2.1⟩
def dg(k:Look):Option Bool:=
 (bZ (k.s.Nodes.length:Int) 12 (λa'=>ew a'.1 k.s)).bind λx=>
 bif x then
 (bZ (k.s.Apps.length:Int) 16 (λa'=>eD a'.1 k.s)).bind λx1=>
 bif x1 then
  (bZ (k.s.Conts.length:Int) 200 (λa'=>eu a'.1 k.s)).bind λx2=>
  bif x2 then
  (bZ (k.s.Slots.length:Int) 12 (λa'=>eJ a'.1 k.s)).bind λx3=>
  bif x3 then
   (bZ (k.s.Plans.length:Int) 12 (λa'=>et a'.1 k.s)).bind λx4=>
   some x4
  else
   some false
  else
  some false
 else
  some false
 else
 some false
def h25:Hint:=.z
def sp25:Spec fam:=⟨[.v (.st 16) []],[.v .bool []],λa=>dg a.1⟩
def nA(s:List Cont)(f:(TupT fam [.st 7]→Option Bool))(t:Int):Option (Int ⊕ (Int ⊕ Unit)):=
 bif decide (t<(s.length:Int))then
 (idx s t).bind λx=>
 (f (x,())).bind λr=>
 bif r then
  some (.inr (.inl t))
 else
  some (.inl (w64 (t+1)))
 else
 some (.inr (.inr ()))
def iT(s:List Cont)(f:(TupT fam [.st 7]→Option Bool)):Option Int:=
 (loop (nA s f) 0).bind λq0=>
 match q0 with
 | .inl q=>
 some q
 | .inr _=>
 some (-1)
def h64:Hint:=(.s .z (.s (.s .z (.b (.l [(8,.v (.int .i64) [])] [4,5,8] [(1,[(4,.v (.int .i64) [])]),(2,[])] .z))) .z))
def sp64:Spec fam:=⟨[.v (.slice (.st 7)) [],.fn [.st 7] .bool],[.v (.int .i64) []],λa=>iT a.1 a.2.1⟩
def jc(s:List Cont)(f:(TupT fam [.st 7]→Option Bool)):Option Bool:=
 (iT s f).bind λx=>
 some (decide (x≥0))
def h49:Hint:=.z
def sp49:Spec fam:=⟨[.v (.slice (.st 7)) [],.fn [.st 7] .bool],[.v .bool []],λa=>jc a.1 a.2.1⟩
def jM(l:List Cont)(holds:(TupT fam [.st 7]→Option Bool)):Option Bool:=(jc l (λx=>(holds x).bind λr=>some (!r))).bind λr=>some (!r)
def sp26:Spec fam:=⟨[.v (.slice (.st 7)) [],.fn [.st 7] .bool],[.v .bool []],λa=>jM a.1 a.2.1⟩
def pg(s:List App)(f:(TupT fam [.st 6]→Option Bool))(t:Int):Option (Int ⊕ (Int ⊕ Unit)):=
 bif decide (t<(s.length:Int))then
 (idx s t).bind λx=>
 (f (x,())).bind λr=>
 bif r then
  some (.inr (.inl t))
 else
  some (.inl (w64 (t+1)))
 else
 some (.inr (.inr ()))
def ko(s:List App)(f:(TupT fam [.st 6]→Option Bool)):Option Int:=
 (loop (pg s f) 0).bind λq0=>
 match q0 with
 | .inl q=>
 some q
 | .inr _=>
 some (-1)
def h96:Hint:=(.s .z (.s (.s .z (.b (.l [(8,.v (.int .i64) [])] [4,5,8] [(1,[(4,.v (.int .i64) [])]),(2,[])] .z))) .z))
def sp96:Spec fam:=⟨[.v (.slice (.st 6)) [],.fn [.st 6] .bool],[.v (.int .i64) []],λa=>ko a.1 a.2.1⟩
def sm(a:App)(p:Int):Option Bool:=
 some (a.Id == p)
def h106:Hint:=.z
def sp106:Spec fam:=⟨[.v (.st 6) [],.rp (.int .i64)],[.v .bool []],λa=>sm a.1 a.2.1⟩
def j8(s:State)(id_:Int):Option Int:=
 (ko s.Apps (λa'=>sm a'.1 id_)).bind λx=>
 some x
def h66:Hint:=.z
def sp66:Spec fam:=⟨[.v (.st 10) [],.v (.int .i64) []],[.v (.int .i64) []],λa=>j8 a.1 a.2.1⟩
def Ah(s:List Ask):Option (List Ask):=
 bif s.isEmpty then
 none
 else
 (app 64 [] s).bind λl=>
 some l
def nC(s:List Ask):Option (List Ask):=app 64 [] s
def h153:Hint:=.z
def sp153:Spec fam:=⟨[.v (.slice (.st 5)) []],[.v (.slice (.st 5)) [0]],λa=>nC a.1⟩
def DI:Spec fam:=⟨[.v (.slice (.st 5)) []],[.v (.slice (.st 5)) [0]],λa=>Ah a.1⟩
def lp(l:List Int):Option (List Int):=
 (mkl 8 (l.length:Int) (l.length:Int) 0).bind λl1=>
 some (cpy l1 0 l1.length l)
def h154:Hint:=.z
def sp154:Spec fam:=⟨[.v (.slice (.int .i64)) []],[.v (.slice (.int .i64)) [0]],λa=>lp a.1⟩
def iG(a:App):Option App:=
 (nC a.Asks).bind λx=>
 (lp a.Grants).bind λx1=>
 (lp a.Kills).bind λx2=>
 (lp a.Told).bind λx3=>
 (lp a.Lost).bind λx4=>
 some (⟨a.Id,a.State,a.Queue,a.User,a.Prio,⟨a.Master.Mem,a.Master.Cores⟩,x,a.Seen,a.Beat,x1,x2,x3,x4⟩:App)
def h91:Hint:=.z
def sp91:Spec fam:=⟨[.v (.st 6) []],[.v (.st 6) [7,10,11,12,13,9999]],λa=>iG a.1⟩
def gw(s:State)(id_:Int):Option (App×Bool):=
 (j8 s id_).bind λi=>
 bif decide (i<0)then
 some ((⟨0,0,[],0,0,⟨0,0⟩,[],0,0,[],[],[],[]⟩:App),false)
 else
 (idx s.Apps i).bind λx=>
 (iG x).bind λx1=>
 some (x1,true)
def h51:Hint:=.z
def sp51:Spec fam:=⟨[.v (.st 10) [],.v (.int .i64) []],[.v (.st 6) [7,10,11,12,13,9999],.v .bool []],λa=>gw a.1 a.2.1⟩
def nk(s:List Node)(f:(TupT fam [.st 4]→Option Bool))(t:Int):Option (Int ⊕ (Int ⊕ Unit)):=
 bif decide (t<(s.length:Int))then
 (idx s t).bind λx=>
 (f (x,())).bind λr=>
 bif r then
  some (.inr (.inl t))
 else
  some (.inl (w64 (t+1)))
 else
 some (.inr (.inr ()))
def ll(s:List Node)(f:(TupT fam [.st 4]→Option Bool)):Option Int:=
 (loop (nk s f) 0).bind λq0=>
 match q0 with
 | .inl q=>
 some q
 | .inr _=>
 some (-1)
def h93:Hint:=(.s .z (.s (.s .z (.b (.l [(8,.v (.int .i64) [])] [4,5,8] [(1,[(4,.v (.int .i64) [])]),(2,[])] .z))) .z))
def sp93:Spec fam:=⟨[.v (.slice (.st 4)) [],.fn [.st 4] .bool],[.v (.int .i64) []],λa=>ll a.1 a.2.1⟩
def nL(i:Int)(n:Node):Option Bool:=
 some (n.Id == i)
def h155:Hint:=.z
def sp155:Spec fam:=⟨[.v (.int .i64) [],.v (.st 4) []],[.v .bool []],λa=>nL a.1 a.2.1⟩
def kq(s:State)(id_:Int):Option Int:=
 (ll s.Nodes (λa'=>nL id_ a'.1)).bind λx=>
 some x
def h92:Hint:=.z
def sp92:Spec fam:=⟨[.v (.st 10) [],.v (.int .i64) []],[.v (.int .i64) []],λa=>kq a.1 a.2.1⟩
def fm(s:State)(id_:Int):Option (Node×Bool):=
 (kq s id_).bind λi=>
 bif decide (i<0)then
 some ((⟨0,0,0,⟨0,0⟩,0,0,false⟩:Node),false)
 else
 (idx s.Nodes i).bind λx=>
 some (x,true)
def h52:Hint:=.z
def sp52:Spec fam:=⟨[.v (.st 10) [],.v (.int .i64) []],[.v (.st 4) [],.v .bool []],λa=>fm a.1 a.2.1⟩
def gv(a:App):Option Bool:=
 bif a.State == 1 then
 some true
 else
 some (a.State == 2)
def h53:Hint:=.z
def sp53:Spec fam:=⟨[.v (.st 6) []],[.v .bool []],λa=>gv a.1⟩
def d7(k:Look)(c:Cont):Option Bool:=
 (gw k.s c.App).bind λx=>
 (fm k.s c.Node).bind λx1=>
 bif x.2 then
 (gv x.1).bind λx2=>
 bif x2 then
  bif x1.2 then
  bif x1.1.Up then
   bif x1.1.Label == c.Label then
   bif decide (c.Notice≥0)then
    some (decide (c.Notice≤(imax k.s.Now 1)))
   else
    some false
   else
   some false
  else
   some false
  else
  some false
 else
  some false
 else
 some false
def h27:Hint:=.z
def sp27:Spec fam:=⟨[.v (.st 16) [],.v (.st 7) []],[.v .bool []],λa=>d7 a.1 a.2.1⟩
def je(s:List Node)(f:(TupT fam [.st 4]→Option Bool)):Option Bool:=
 (ll s f).bind λx=>
 some (decide (x≥0))
def h54:Hint:=.z
def sp54:Spec fam:=⟨[.v (.slice (.st 4)) [],.fn [.st 4] .bool],[.v .bool []],λa=>je a.1 a.2.1⟩
def iZ(l:List Node)(holds:(TupT fam [.st 4]→Option Bool)):Option Bool:=(je l (λx=>(holds x).bind λr=>some (!r))).bind λr=>some (!r)
def sp28:Spec fam:=⟨[.v (.slice (.st 4)) [],.fn [.st 4] .bool],[.v .bool []],λa=>iZ a.1 a.2.1⟩
def fu(v:Vec):Option Bool:=
 bif decide (v.Mem≥0)then
 bif decide (v.Mem≤1125899906842624)then
  bif decide (v.Cores≥0)then
  some (decide (v.Cores≤1125899906842624))
  else
  some false
 else
  some false
 else
 some false
def h94:Hint:=.z
def sp94:Spec fam:=⟨[.v (.st 0) []],[.v .bool []],λa=>fu a.1⟩
def sS(v:Vec):Option (Vec×Int):=
 (fu v).bind λx=>
 bif ! x then
 some ((⟨0,0⟩:Vec),11)
 else
 some (v,0)
def h95:Hint:=.z
def sp95:Spec fam:=⟨[.v (.st 0) []],[.v (.st 0) [],.v (.int .i64) []],λa=>sS a.1⟩
def dX(a:Vec)(b:Vec):Option (Vec×Int):=
 (
 (fu a).bind λx=>
 bif ! x then
  some true
 else
  (fu b).bind λx1=>
  some (! x1)).bind λq=>
 bif q then
 some ((⟨0,0⟩:Vec),1)
 else
 (sS (⟨w64 (a.Mem+b.Mem),w64 (a.Cores+b.Cores)⟩:Vec)).bind λx2=>
 some (x2.1,x2.2)
def h56:Hint:=(.s .z (.s (.s (.j [] [(0,[(13,.v .bool [])])] .z) .z) .z))
def sp56:Spec fam:=⟨[.v (.st 0) [],.v (.st 0) []],[.v (.st 0) [],.v (.int .i64) []],λa=>dX a.1 a.2.1⟩
def bJ(a:Vec)(b:Vec):Option Bool:=
 bif decide (a.Mem≤b.Mem)then
 some (decide (a.Cores≤b.Cores))
 else
 some false
def h57:Hint:=.z
def sp57:Spec fam:=⟨[.v (.st 0) [],.v (.st 0) []],[.v .bool []],λa=>bJ a.1 a.2.1⟩
def jQ(k:Look)(n:Node)(t:Vec×Int):Option ((Vec×Int) ⊕ (Bool ⊕ Vec)):=
 bif decide (t.2<(k.s.Conts.length:Int))then
 (
  (idx k.s.Conts t.2).bind λx=>
  bif x.Node != n.Id then
  some (.inl (t.1))
  else
  (dX t.1 x.Size).bind λx1=>
  bif x1.2 != 0 then
   some (.inr false)
  else
   some (.inl (x1.1)):Option (Vec ⊕ Bool)).bind λq0=>
 match q0 with
 | .inl sum=>
  some (.inl (sum,w64 (t.2+1)))
 | .inr q=>
  some (.inr (.inl q))
 else
 some (.inr (.inr (t.1)))
def eg(k:Look)(n:Node):Option Bool:=
 (loop (jQ k n) ((⟨0,0⟩:Vec),0)).bind λq0=>
 match q0 with
 | .inl q1=>
 some q1
 | .inr sum1=>
 (bJ sum1 n.Cap).bind λx2=>
 some x2
def h29:Hint:=(.s .z (.s .z (.s (.s .z (.b (.l [(5,.box (.st 0) []),(14,.v (.int .i64) [])] [4,5,7,8,9,14] [(1,[(4,.v .bool [])]),(2,[(5,.box (.st 0) [])])] (.s .z (.s .z (.s (.j [4,5,7,8,9] [(0,[(5,.box (.st 0) [])]),(1,[(4,.v .bool [])])] .z) .z)))))) .z)))
def sp29:Spec fam:=⟨[.v (.st 16) [],.v (.st 4) []],[.v .bool []],λa=>eg a.1 a.2.1⟩
def kR(s:List App)(f:(TupT fam [.st 6]→Option Bool)):Option Bool:=
 (ko s f).bind λx=>
 some (decide (x≥0))
def h58:Hint:=.z
def sp58:Spec fam:=⟨[.v (.slice (.st 6)) [],.fn [.st 6] .bool],[.v .bool []],λa=>kR a.1 a.2.1⟩
def kX(l:List App)(holds:(TupT fam [.st 6]→Option Bool)):Option Bool:=(kR l (λx=>(holds x).bind λr=>some (!r))).bind λr=>some (!r)
def sp30:Spec fam:=⟨[.v (.slice (.st 6)) [],.fn [.st 6] .bool],[.v .bool []],λa=>kX a.1 a.2.1⟩
def iJ(c:Conf)(path:List UInt8):Option Bool:=
 (eN c path).bind λx=>
 bif x.2 then
 (iS c path).bind λx1=>
 some ((x1.length:Int) == 0)
 else
 some false
def h60:Hint:=.z
def sp60:Spec fam:=⟨[.v (.st 3) [],.v .str []],[.v .bool []],λa=>iJ a.1 a.2.1⟩
def jV(k:Look)(a:App)(t:Int×Int×Int):Option ((Int×Int×Int) ⊕ ((Int×Int))):=
 bif decide (t.2.2<(k.s.Conts.length:Int))then
 (
  (idx k.s.Conts t.2.2).bind λx=>
  (
  bif x.App == a.Id then
   some (w64 (t.2.1+1))
  else
   some t.2.1).bind λall=>
  (
  bif x.App == a.Id then
   some x.Master
  else
   some false).bind λq=>
  bif q then
  some (w64 (t.1+1),all)
  else
  some (t.1,all)).bind λq1=>
 some (.inl (q1.1,q1.2,w64 (t.2.2+1)))
 else
 some (.inr (t.1,t.2.1))
def eZ(k:Look)(a:App):Option Bool:=
 (loop (jV k a) (0,0,0)).bind λq2=>
 (
 bif a.State == 1 then
  bif decide (q2.2>0)then
  some (.inr false)
  else
  some (.inl ())
 else
  bif a.State == 2 then
  bif q2.1 != 1 then
   some (.inr false)
  else
   some (.inl ())
  else
  some (.inr true):Option (Unit ⊕ Bool)).bind λq0=>
 match q0 with
 | .inl _=>
 (iJ k.s.Conf a.Queue).bind λx1=>
 some x1
 | .inr q3=>
 some q3
def h31:Hint:=(.s .z (.s .z (.s (.s .z (.b (.l [(5,.v (.int .i64) []),(6,.v (.int .i64) []),(13,.v (.int .i64) [])] [5,6,8,13,14,15,16,17,18,19,20,21,22,23,24,25,26,27,28,29,30,31,32,33,34,35] [(2,[(5,.v (.int .i64) []),(6,.v (.int .i64) [])])] (.s .z (.s .z (.s (.j [5,6,8,15,16,17,18,19,20,21,22,23,24,25,26,27,28,29,30,31,32,33,34] [(0,[(5,.v (.int .i64) []),(6,.v (.int .i64) [])])] (.b (.s .z (.s (.j [6,17,18,19,20,21,22,23] [(0,[(6,.v (.int .i64) [])])] .z) (.s (.j [24,25,26,27,28,29,30,31,32] [(0,[(32,.v .bool [])])] .z) .z))))) .z)))))) (.s (.j [4,36,37] [(0,[]),(1,[(4,.v .bool [])])] .z) .z))))
def sp31:Spec fam:=⟨[.v (.st 16) [],.v (.st 6) []],[.v .bool []],λa=>eZ a.1 a.2.1⟩
def nE(s:List Slot)(f:(TupT fam [.st 8]→Option Bool))(t:Int):Option (Int ⊕ (Int ⊕ Unit)):=
 bif decide (t<(s.length:Int))then
 (idx s t).bind λx=>
 (f (x,())).bind λr=>
 bif r then
  some (.inr (.inl t))
 else
  some (.inl (w64 (t+1)))
 else
 some (.inr (.inr ()))
def lu(s:List Slot)(f:(TupT fam [.st 8]→Option Bool)):Option Int:=
 (loop (nE s f) 0).bind λq0=>
 match q0 with
 | .inl q=>
 some q
 | .inr _=>
 some (-1)
def h97:Hint:=(.s .z (.s (.s .z (.b (.l [(8,.v (.int .i64) [])] [4,5,8] [(1,[(4,.v (.int .i64) [])]),(2,[])] .z))) .z))
def sp97:Spec fam:=⟨[.v (.slice (.st 8)) [],.fn [.st 8] .bool],[.v (.int .i64) []],λa=>lu a.1 a.2.1⟩
def jm(s:List Slot)(f:(TupT fam [.st 8]→Option Bool)):Option Bool:=
 (lu s f).bind λx=>
 some (decide (x≥0))
def h61:Hint:=.z
def sp61:Spec fam:=⟨[.v (.slice (.st 8)) [],.fn [.st 8] .bool],[.v .bool []],λa=>jm a.1 a.2.1⟩
def ji(l:List Slot)(holds:(TupT fam [.st 8]→Option Bool)):Option Bool:=(jm l (λx=>(holds x).bind λr=>some (!r))).bind λr=>some (!r)
def sp32:Spec fam:=⟨[.v (.slice (.st 8)) [],.fn [.st 8] .bool],[.v .bool []],λa=>ji a.1 a.2.1⟩
def g9(_a0:Look)(_a1:Slot):Option Bool:=none
def sp33:Spec fam:=⟨[.v (.st 16) [],.v (.st 8) []],[.v .bool []],λa=>g9 a.1 a.2.1⟩
def ip(s:State):Option Bool:=
 (jl s.Conf).bind λx=>
 bif x == 0 then
 (dR (⟨⟨⟨s.Conf.Labels,s.Conf.Queues⟩,s.Nodes,s.Apps,s.Conts,s.Slots,s.Plans,s.Now,s.Epoch,s.Seq⟩⟩:Look)).bind λx1=>
 bif x1 then
  (dg (⟨⟨⟨s.Conf.Labels,s.Conf.Queues⟩,s.Nodes,s.Apps,s.Conts,s.Slots,s.Plans,s.Now,s.Epoch,s.Seq⟩⟩:Look)).bind λx2=>
  bif x2 then
  (jM s.Conts (λa'=>d7 (⟨⟨⟨s.Conf.Labels,s.Conf.Queues⟩,s.Nodes,s.Apps,s.Conts,s.Slots,s.Plans,s.Now,s.Epoch,s.Seq⟩⟩:Look) a'.1)).bind λx3=>
  bif x3 then
   (iZ s.Nodes (λa'=>eg (⟨⟨⟨s.Conf.Labels,s.Conf.Queues⟩,s.Nodes,s.Apps,s.Conts,s.Slots,s.Plans,s.Now,s.Epoch,s.Seq⟩⟩:Look) a'.1)).bind λx4=>
   bif x4 then
   (kX s.Apps (λa'=>eZ (⟨⟨⟨s.Conf.Labels,s.Conf.Queues⟩,s.Nodes,s.Apps,s.Conts,s.Slots,s.Plans,s.Now,s.Epoch,s.Seq⟩⟩:Look) a'.1)).bind λx5=>
   bif x5 then
    (ji s.Slots (λa'=>g9 (⟨⟨⟨s.Conf.Labels,s.Conf.Queues⟩,s.Nodes,s.Apps,s.Conts,s.Slots,s.Plans,s.Now,s.Epoch,s.Seq⟩⟩:Look) a'.1)).bind λx6=>
    some x6
   else
    some false
   else
   some false
  else
   some false
  else
  some false
 else
  some false
 else
 some false
def h15:Hint:=.z
def sp15:Spec fam:=⟨[.v (.st 10) []],[.v .bool []],λa=>ip a.1⟩
def iw(s:List (List UInt8)):Option (List (List UInt8)):=
 bif s.isEmpty then
 none
 else
 (app 16 [] s).bind λl=>
 some l
def aA(s:List (List UInt8)):Option (List (List UInt8)):=app 16 [] s
def h98:Hint:=.z
def sp98:Spec fam:=⟨[.v (.slice (.str)) []],[.v (.slice (.str)) [0]],λa=>aA a.1⟩
def Ej:Spec fam:=⟨[.v (.slice (.str)) []],[.v (.slice (.str)) [0]],λa=>iw a.1⟩
def uy(s:List Queue):Option (List Queue):=
 bif s.isEmpty then
 none
 else
 (app 48 [] s).bind λl=>
 some l
def cA(s:List Queue):Option (List Queue):=app 48 [] s
def h99:Hint:=.z
def sp99:Spec fam:=⟨[.v (.slice (.st 2)) []],[.v (.slice (.st 2)) [0]],λa=>cA a.1⟩
def Ga:Spec fam:=⟨[.v (.slice (.st 2)) []],[.v (.slice (.st 2)) [0]],λa=>uy a.1⟩
def uA(s:List Node):Option (List Node):=
 bif s.isEmpty then
 none
 else
 (app 64 [] s).bind λl=>
 some l
def cz(s:List Node):Option (List Node):=app 64 [] s
def h101:Hint:=.z
def sp101:Spec fam:=⟨[.v (.slice (.st 4)) []],[.v (.slice (.st 4)) [0]],λa=>cz a.1⟩
def C1:Spec fam:=⟨[.v (.slice (.st 4)) []],[.v (.slice (.st 4)) [0]],λa=>uA a.1⟩
def uV(s:List Cont):Option (List Cont):=
 bif s.isEmpty then
 none
 else
 (app 72 [] s).bind λl=>
 some l
def cC(s:List Cont):Option (List Cont):=app 72 [] s
def h102:Hint:=.z
def sp102:Spec fam:=⟨[.v (.slice (.st 7)) []],[.v (.slice (.st 7)) [0]],λa=>cC a.1⟩
def Di:Spec fam:=⟨[.v (.slice (.st 7)) []],[.v (.slice (.st 7)) [0]],λa=>uV a.1⟩
def uz(s:List Slot):Option (List Slot):=
 bif s.isEmpty then
 none
 else
 (app 24 [] s).bind λl=>
 some l
def cB(s:List Slot):Option (List Slot):=app 24 [] s
def h103:Hint:=.z
def sp103:Spec fam:=⟨[.v (.slice (.st 8)) []],[.v (.slice (.st 8)) [0]],λa=>cB a.1⟩
def DK:Spec fam:=⟨[.v (.slice (.st 8)) []],[.v (.slice (.st 8)) [0]],λa=>uz a.1⟩
def yk(s:List Plan):Option (List Plan):=
 bif s.isEmpty then
 none
 else
 (app 48 [] s).bind λl=>
 some l
def gr(s:List Plan):Option (List Plan):=app 48 [] s
def h104:Hint:=.z
def sp104:Spec fam:=⟨[.v (.slice (.st 9)) []],[.v (.slice (.st 9)) [0]],λa=>gr a.1⟩
def Dh:Spec fam:=⟨[.v (.slice (.st 9)) []],[.v (.slice (.st 9)) [0]],λa=>yk a.1⟩
def vn(s:List App):Option (List App):=
 bif s.isEmpty then
 none
 else
 (app 200 [] s).bind λl=>
 some l
def da(s:List App):Option (List App):=app 200 [] s
def h105:Hint:=.z
def sp105:Spec fam:=⟨[.v (.slice (.st 6)) []],[.v (.slice (.st 6)) [0]],λa=>da a.1⟩
def C9:Spec fam:=⟨[.v (.slice (.st 6)) []],[.v (.slice (.st 6)) [0]],λa=>vn a.1⟩
def ui(x9:List App)(t1:List App×Nat×Int):Option ((List App×Nat×Int) ⊕ (List App×Nat×Int)):=
 bif decide (t1.2.2<(x9.length:Int))then
 (inb t1.2.2 t1.1.length).bind λi2=>
 bif Nat.ble t1.2.1 i2 then
  (t1.1[i2]?).bind λx10=>
  (iG x10).bind λx11=>
  (inb t1.2.2 t1.1.length).bind λi3=>
  bif Nat.beq i3 t1.2.1 then
  (t1.1[i3]?).bind λx12=>
  some (.inl (List.set t1.1 i3 x11,t1.2.1+1,w64 (t1.2.2+1)))
  else
  none
 else
  none
 else
 some (.inr (t1.1,t1.2.1,t1.2.2))
def ua(x1:List Queue)(t:List Queue×Nat×Int):Option ((List Queue×Nat×Int) ⊕ (List Queue×Nat×Int)):=
 bif decide (t.2.2<(x1.length:Int))then
 (inb t.2.2 t.1.length).bind λi=>
 bif Nat.ble t.2.1 i then
  (t.1[i]?).bind λx2=>
  (ep x2.Caps).bind λx3=>
  (inb t.2.2 t.1.length).bind λi1=>
  bif Nat.beq i1 t.2.1 then
  (t.1[i1]?).bind λx4=>
  some (.inl (List.set t.1 i1 (⟨x4.Path,x3,x4.User⟩:Queue),t.2.1+1,w64 (t.2.2+1)))
  else
  none
 else
  none
 else
 some (.inr (t.1,t.2.1,t.2.2))
def oh(s:State):Option State:=
 (aA s.Conf.Labels).bind λx=>
 (cA s.Conf.Queues).bind λx1=>
 (loop (ua x1) (x1,0,0)).bind λq=>
 bif Nat.ble q.1.length q.2.1 then
 (cz s.Nodes).bind λx5=>
 (cC s.Conts).bind λx6=>
 (cB s.Slots).bind λx7=>
 (gr s.Plans).bind λx8=>
 (da s.Apps).bind λx9=>
 (loop (ui x9) (x9,0,0)).bind λq1=>
 bif Nat.ble q1.1.length q1.2.1 then
  some (⟨⟨x,q.1⟩,x5,q1.1,x6,x7,x8,s.Now,s.Epoch,s.Seq⟩:State)
 else
  none
 else
 none
def h63:Hint:=(.s .z (.s .z (.s (.s .z (.b (.m 14 23 2 [3,4,24,25,26,27,28,29,30,31,32,33,34,35,36,37] .z))) (.s .z (.s .z (.s (.s .z (.b (.m 56 61 4 [5,6] .z))) .z))))))
def sp63:Spec fam:=⟨[.v (.st 10) []],[.v (.st 10) [0,1001,2,1003,4,5,6]],λa=>oh a.1⟩
def rj(x9:List App)(t1:List App×Int):Option ((List App×Int) ⊕ List App):=
 bif decide (t1.2<(x9.length:Int))then
 (inb t1.2 t1.1.length).bind λi2=>
 (t1.1[i2]?).bind λx10=>
 (iG x10).bind λx11=>
 (inb t1.2 t1.1.length).bind λi3=>
 (t1.1[i3]?).bind λx12=>
 some (.inl (List.set t1.1 i3 x11,w64 (t1.2+1)))
 else
 some (.inr t1.1)
def ro(x1:List Queue)(t:List Queue×Int):Option ((List Queue×Int) ⊕ List Queue):=
 bif decide (t.2<(x1.length:Int))then
 (inb t.2 t.1.length).bind λi=>
 (t.1[i]?).bind λx2=>
 (ep x2.Caps).bind λx3=>
 (inb t.2 t.1.length).bind λi1=>
 (t.1[i1]?).bind λx4=>
 some (.inl (List.set t.1 i1 (⟨x4.Path,x3,x4.User⟩:Queue),w64 (t.2+1)))
 else
 some (.inr t.1)
def jG(s:State):Option State:=
 (aA s.Conf.Labels).bind λx=>
 (cA s.Conf.Queues).bind λx1=>
 (loop (ro x1) (x1,0)).bind λq=>
 (cz s.Nodes).bind λx5=>
 (cC s.Conts).bind λx6=>
 (cB s.Slots).bind λx7=>
 (gr s.Plans).bind λx8=>
 (da s.Apps).bind λx9=>
 (loop (rj x9) (x9,0)).bind λq1=>
 some (⟨⟨x,q⟩,x5,q1,x6,x7,x8,s.Now,s.Epoch,s.Seq⟩:State)
def FS:Hint:=(.s .z (.s .z (.s (.s .z (.b (.l [(14,.row (.st 2) false),(23,.v (.int .i64) [])] [3,4,14,23,24,25,26,27,28,29,30,31,32,33,34,35,36,37] [(2,[(14,.row (.st 2) false)])] .z))) (.s .z (.s .z (.s (.s .z (.b (.l [(56,.row (.st 6) false),(61,.v (.int .i64) [])] [5,6,56,61] [(4,[(56,.row (.st 6) false)])] .z))) .z))))))
def Dr:Spec fam:=⟨[.v (.st 10) []],[.v (.st 10) [0,1,2,3,4,5,6]],λa=>jG a.1⟩
def pd(_a0:Cont)(_a1:Int):Option Bool:=none
def sp65:Spec fam:=⟨[.v (.st 7) [],.rp (.int .i64)],[.v .bool []],λa=>pd a.1 a.2.1⟩
def zV(_a0:State)(_a1:Int):Option State:=none
def sp67:Spec fam:=⟨[.v (.st 10) [],.v (.int .i64) []],[.v (.st 10) []],λa=>zV a.1 a.2.1⟩
def zn(_a0:List Cont)(_a1:Int)(_a2:Int):Option (List Cont):=none
def sp68:Spec fam:=⟨[.v (.slice (.st 7)) [],.v (.int .i64) [],.v (.int .i64) []],[.v (.slice (.st 7)) []],λa=>zn a.1 a.2.1 a.2.2.1⟩
def m0(ids:List Int)(x:State)(t:Int):Option (Int ⊕ Unit):=
 bif decide (t<(ids.length:Int))then
 (idx ids t).bind λx1=>
 (iT x.Conts (λa'=>pd a'.1 x1)).bind λk=>
 bif decide (k<0)then
  some (.inl (w64 (t+1)))
 else
  (inb k x.Conts.length).bind λi=>
  (x.Conts[i]?).bind λx2=>
  (j8 x x2.App).bind λi1=>
  (
  bif decide (i1≥0)then
   some x2.Master
  else
   some false).bind λq=>
  bif q then
  none
  else
  none
 else
 some (.inr ())
def c9(s:State)(ids:List Int):Option State:=
 (oh s).bind λx=>
 (loop (m0 ids x) 0).bind λ_=>
 (oh x).bind λx3=>
 some x3
def h34:Hint:=(.s .z (.s .z (.s (.s .z (.b (.l [(16,.v (.int .i64) [])] [6,7,16] [(2,[])] (.s .z (.s .z (.s (.b (.s .z (.s .z (.s .z (.s .z (.s .z (.s (.s (.j [] [(0,[(40,.v .bool [])])] .z) .z) .z))))))) .z)))))) .z)))
def sp34:Spec fam:=⟨[.v (.st 10) [],.v (.slice (.int .i64)) []],[.v (.st 10) [0,1001,2,1003,4,5,6]],λa=>c9 a.1 a.2.1⟩
def zb(_a0:Int):Option Output:=none
def sp82:Spec fam:=⟨[.v (.int .i64) []],[.v (.st 11) []],λa=>zb a.1⟩
def ib(s:List UInt8):Option (Int×Bool):=numD s
def sp226:Spec fam:=⟨[.v .str []],[.v (.int .i64) [],.v .bool []],λa=>ib a.1⟩
def pa(s:List UInt8)(sep:List UInt8):Option (List UInt8×List UInt8×Bool):=
 (g_ s sep).bind λi=>
 bif decide (i≥0)then
 (slc s 0 i).bind λs1=>
 (slc s (w64 (i+(sep.length:Int))) (s.length:Int)).bind λs2=>
 some (s1,s2,true)
 else
 some (s,([]:List UInt8),false)
def h311:Hint:=.z
def sp311:Spec fam:=⟨[.v .str [],.v .str []],[.v .str [],.v .str [],.v .bool []],λa=>pa a.1 a.2.1⟩
def tY(s:List UInt8)(sep:List UInt8):Option (List UInt8×List UInt8×Bool):=
 (pa s sep).bind λx=>
 some (x.1,x.2.1,x.2.2)
def h273:Hint:=.z
def sp273:Spec fam:=⟨[.v .str [],.v .str []],[.v .str [],.v .str [],.v .bool []],λa=>tY a.1 a.2.1⟩
def wa(w:List UInt8):Option (Cap×Bool):=
 (tY w ([47]:List UInt8)).bind λx=>
 (ib x.1).bind λx1=>
 (ib x.2.1).bind λx2=>
 bif x.2.2 then
 bif x1.2 then
  some ((⟨x1.1,x2.1⟩:Cap),x2.2)
 else
  some ((⟨x1.1,x2.1⟩:Cap),false)
 else
 some ((⟨x1.1,x2.1⟩:Cap),false)
def h227:Hint:=.z
def sp227:Spec fam:=⟨[.v .str []],[.v (.st 1) [],.v .bool []],λa=>wa a.1⟩
def i_(l:List (List UInt8))(t:Bool×Queue×Int):Option ((Bool×Queue×Int) ⊕ ((Bool×Queue))):=
 bif decide (t.2.2<(l.length:Int))then
 (idx l t.2.2).bind λx3=>
 (wa x3).bind λx4=>
 (
  bif t.1 then
  some x4.2
  else
  some false).bind λok=>
 (app 16 t.2.1.Caps [x4.1]).bind λl1=>
 some (.inl (ok,(⟨t.2.1.Path,l1,t.2.1.User⟩:Queue),w64 (t.2.2+1)))
 else
 some (.inr (t.1,t.2.1))
def en(r:Reader)(w:List (List UInt8)):Option (Int×Reader):=
 bif decide ((r.c.Queues.length:Int)≥16)then
 some (4,r)
 else
 bif(w.length:Int) != (w64 (3+(r.c.Labels.length:Int)))then
  some (6,r)
 else
  (idx w 2).bind λx=>
  (ib x).bind λx1=>
  (idx w 1).bind λx2=>
  (slc w 3 (w.length:Int)).bind λl=>
  (loop (i_ l) (x1.2,(⟨x2,[],x1.1⟩:Queue),0)).bind λq=>
  bif ! q.1 then
  some (6,r)
  else
  (app 48 r.c.Queues [q.2]).bind λl2=>
  some (0,(⟨⟨r.c.Labels,l2⟩,r.seen⟩:Reader))
def h194:Hint:=(.s .z (.s .z (.s .z (.s .z (.s .z (.s (.s .z (.b (.l [(6,.v .bool []),(7,.box (.st 2) [1]),(44,.v (.int .i64) [])] [6,7,9,10,11,44] [(2,[(6,.v .bool []),(7,.box (.st 2) [1])])] (.s .z (.s .z (.s (.b (.s .z (.s .z (.s (.j [6] [(0,[(6,.v .bool [])])] .z) .z)))) .z)))))) .z))))))
def sp194:Spec fam:=⟨[.box (.st 17) [0,1],.v (.slice (.str)) []],[.v (.int .i64) []],λa=>en a.1 a.2.1⟩
def eP(r:Reader)(w:List (List UInt8)):Option (Int×Reader):=
 bif(w.length:Int) == 0 then
 some (0,r)
 else
 (
  bif ! r.seen then
  (idx w 0).bind λx=>
  some (x == ([108,97,98,101,108,115]:List UInt8))
  else
  some false).bind λq=>
 bif q then
  bif decide ((w.length:Int)>3)then
  some (4,(⟨⟨r.c.Labels,r.c.Queues⟩,true⟩:Reader))
  else
  (mkl 16 (w.length:Int) (w.length:Int) []).bind λl=>
  (inS 1 (l.length:Int) l.length).bind λp=>
  (slc w 1 (w.length:Int)).bind λl1=>
  some (0,(⟨⟨cpy l p.1 p.2 l1,r.c.Queues⟩,true⟩:Reader))
 else
  (
  bif ! r.seen then
   some true
  else
   (idx w 0).bind λx1=>
   some (! (x1 == ([113,117,101,117,101]:List UInt8)))).bind λq1=>
  bif q1 then
  some (6,r)
  else
  (en r w).bind λx2=>
  some (x2.1,x2.2)
def h160:Hint:=(.s .z (.s (.b (.s .z (.c .z (.s (.j [] [(0,[(9,.v .bool [])])] .z) (.c .z (.s (.j [] [(0,[(43,.v .bool [])])] .z) .z)))))) .z))
def sp160:Spec fam:=⟨[.box (.st 17) [0,1],.v (.slice (.str)) []],[.v (.int .i64) []],λa=>eP a.1 a.2.1⟩
def ba(del:(TupT fam [.str]→Option Bool))(t:List (List UInt8)×Int×Int):Option ((List (List UInt8)×Int×Int) ⊕ ((List (List UInt8)×Int))):=
 bif decide (t.2.2<(t.1.length:Int))then
 (
  (inb t.2.2 t.1.length).bind λi1=>
  (t.1[i1]?).bind λx=>
  (del (x,())).bind λr=>
  bif ! r then
  (inb t.2.1 t.1.length).bind λi2=>
  (t.1[i2]?).bind λx1=>
  some (List.set t.1 i2 x,w64 (t.2.1+1))
  else
  some (t.1,t.2.1)).bind λq=>
 some (.inl (q.1,q.2,w64 (t.2.2+1)))
 else
 some (.inr (t.1,t.2.1))
def aS(s:List (List UInt8))(del:(TupT fam [.str]→Option Bool)):Option (List (List UInt8)):=
 (aL s del).bind λi=>
 bif i == (-1)then
 some s
 else
 (loop (ba del) (s,i,w64 (i+1))).bind λq1=>
 (inS q1.2 (q1.1.length:Int) q1.1.length).bind λp=>
 (inS 0 q1.2 (cpy q1.1 p.1 p.2 (List.replicate p.2 [])).length).bind λp1=>
 some (List.take p1.2 (cpy q1.1 p.1 p.2 (List.replicate p.2 [])))
def h195:Hint:=(.s .z (.s .z (.s .z (.s (.s .z (.b (.l [(0,.row .str false),(5,.v (.int .i64) []),(6,.v (.int .i64) [])] [0,5,6,7] [(2,[(0,.row .str false),(5,.v (.int .i64) [])])] (.s .z (.s (.j [0,5,7] [(0,[(0,.row .str false),(5,.v (.int .i64) [])])] .z) .z))))) (.s .z (.s (.r [9998]) .z))))))
def sp195:Spec fam:=⟨[.v (.slice (.str)) [0],.fn [.str] .bool],[.v (.slice (.str)) [0]],λa=>aS a.1 a.2.1⟩
def nc(w:List UInt8):Option Bool:=
 some (w == ([]:List UInt8))
def h196:Hint:=.z
def sp196:Spec fam:=⟨[.v .str []],[.v .bool []],λa=>nc a.1⟩
def mW(line:List UInt8):Option (List (List UInt8)):=
 (dC line ([32]:List UInt8)).bind λx=>
 (aS x (λa'=>nc a'.1)).bind λx1=>
 some x1
def h161:Hint:=.z
def sp161:Spec fam:=⟨[.v .str []],[.v (.slice (.str)) [0]],λa=>mW a.1⟩
def my(a:Int)(cmp:(TupT fam [.st 2,.st 2]→Option Int))(t1:List Queue×Int):Option ((List Queue×Int) ⊕ List Queue):=
 (
 bif decide (t1.2>a)then
  (inb t1.2 t1.1.length).bind λi=>
  (t1.1[i]?).bind λx=>
  (inb (w64 (t1.2 - 1)) t1.1.length).bind λi1=>
  (t1.1[i1]?).bind λx1=>
  (cmp (x,x1,())).bind λr=>
  some (decide (r<0))
 else
  some false).bind λq=>
 bif q then
 (inb (w64 (t1.2 - 1)) t1.1.length).bind λi2=>
 (t1.1[i2]?).bind λx2=>
 (inb t1.2 t1.1.length).bind λi3=>
 (t1.1[i3]?).bind λx3=>
 (inb t1.2 t1.1.length).bind λi4=>
 (t1.1[i4]?).bind λx4=>
 (inb (w64 (t1.2 - 1)) (List.set t1.1 i4 x2).length).bind λi5=>
 ((List.set t1.1 i4 x2)[i5]?).bind λx5=>
 some (.inl (List.set (List.set t1.1 i4 x2) i5 x3,w64 (t1.2 - 1)))
 else
 some (.inr t1.1)
def gS(a:Int)(b:Int)(cmp:(TupT fam [.st 2,.st 2]→Option Int))(t:List Queue×Int):Option ((List Queue×Int) ⊕ List Queue):=
 bif decide (t.2<b)then
 (loop (my a cmp) (t.1,t.2)).bind λdata1=>
 some (.inl (data1,w64 (t.2+1)))
 else
 some (.inr t.1)
def eK(data:List Queue)(a:Int)(b:Int)(cmp:(TupT fam [.st 2,.st 2]→Option Int)):Option (List Queue):=
 (loop (gS a b cmp) (data,w64 (a+1))).bind λdata2=>
 some data2
def h228:Hint:=(.s .z (.b (.l [(0,.row (.st 2) false),(8,.v (.int .i64) [])] [0,8,9,34] [(2,[(0,.row (.st 2) false)])] (.s .z (.s (.b (.s .z (.b (.l [(0,.row (.st 2) false),(9,.v (.int .i64) [])] [0,9,34] [(4,[(0,.row (.st 2) false)])] (.s (.s (.j [] [(0,[(34,.v .bool [])])] .z) .z) .z))))) .z)))))
def sp228:Spec fam:=⟨[.row (.st 2) false,.v (.int .i64) [],.v (.int .i64) [],.fn [.st 2,.st 2] (.int .i64)],[],λa=>eK a.1 a.2.1 a.2.2.1 a.2.2.2.1⟩
def wL(_a0:List Queue)(_a1:Int)(_a2:Int)(_a3:Int)(_a4:(TupT fam [.st 2,.st 2]→Option Int)):Option Unit:=none
def sp274:Spec fam:=⟨[.v (.slice (.st 2)) [],.v (.int .i64) [],.v (.int .i64) [],.v (.int .i64) [],.fn [.st 2,.st 2] (.int .i64)],[],λa=>wL a.1 a.2.1 a.2.2.1 a.2.2.2.1 a.2.2.2.2.1⟩
def rK(data:List Queue)(cmp:(TupT fam [.st 2,.st 2]→Option Int))(p:Int)(t4:Int×Int):Option ((Int×Int) ⊕ Int):=
 bif decide (t4.1<t4.2)then
 let c:=w64 (shrK .u64 (IntKind.u64.wrap (w64 (t4.1+t4.2))) 1)
 (inb (w64 (p - c)) data.length).bind λi14=>
 (data[i14]?).bind λx12=>
 (inb c data.length).bind λi15=>
 (data[i15]?).bind λx13=>
 (cmp (x12,x13,())).bind λr2=>
 bif ! (decide (r2<0))then
  some (.inl (w64 (c+1),t4.2))
 else
  some (.inl (t4.1,c))
 else
 some (.inr t4.1)
def rJ(i9:Int)(t3:List Queue×Int):Option ((List Queue×Int) ⊕ List Queue):=
 bif decide (t3.2>i9)then
 (inb (w64 (t3.2 - 1)) t3.1.length).bind λi10=>
 (t3.1[i10]?).bind λx8=>
 (inb t3.2 t3.1.length).bind λi11=>
 (t3.1[i11]?).bind λx9=>
 (inb t3.2 t3.1.length).bind λi12=>
 (t3.1[i12]?).bind λx10=>
 (inb (w64 (t3.2 - 1)) (List.set t3.1 i12 x8).length).bind λi13=>
 ((List.set t3.1 i12 x8)[i13]?).bind λx11=>
 some (.inl (List.set (List.set t3.1 i12 x8) i13 x9,w64 (t3.2 - 1)))
 else
 some (.inr t3.1)
def rO(data:List Queue)(m:Int)(cmp:(TupT fam [.st 2,.st 2]→Option Int))(t2:Int×Int):Option ((Int×Int) ⊕ Int):=
 bif decide (t2.1<t2.2)then
 let h1:=w64 (shrK .u64 (IntKind.u64.wrap (w64 (t2.1+t2.2))) 1)
 (inb m data.length).bind λi7=>
 (data[i7]?).bind λx6=>
 (inb h1 data.length).bind λi8=>
 (data[i8]?).bind λx7=>
 (cmp (x6,x7,())).bind λr1=>
 bif ! (decide (r1<0))then
  some (.inl (w64 (h1+1),t2.2))
 else
  some (.inl (t2.1,h1))
 else
 some (.inr t2.1)
def rD(i2:Int)(t1:List Queue×Int):Option ((List Queue×Int) ⊕ List Queue):=
 bif decide (t1.2<(w64 (i2 - 1)))then
 (inb (w64 (t1.2+1)) t1.1.length).bind λi3=>
 (t1.1[i3]?).bind λx2=>
 (inb t1.2 t1.1.length).bind λi4=>
 (t1.1[i4]?).bind λx3=>
 (inb t1.2 t1.1.length).bind λi5=>
 (t1.1[i5]?).bind λx4=>
 (inb (w64 (t1.2+1)) (List.set t1.1 i5 x2).length).bind λi6=>
 ((List.set t1.1 i5 x2)[i6]?).bind λx5=>
 some (.inl (List.set (List.set t1.1 i5 x2) i6 x3,w64 (t1.2+1)))
 else
 some (.inr t1.1)
def rE(data:List Queue)(a:Int)(cmp:(TupT fam [.st 2,.st 2]→Option Int))(t:Int×Int):Option ((Int×Int) ⊕ Int):=
 bif decide (t.1<t.2)then
 let h:=w64 (shrK .u64 (IntKind.u64.wrap (w64 (t.1+t.2))) 1)
 (inb h data.length).bind λi=>
 (data[i]?).bind λx=>
 (inb a data.length).bind λi1=>
 (data[i1]?).bind λx1=>
 (cmp (x,x1,())).bind λr=>
 bif decide (r<0)then
  some (.inl (w64 (h+1),t.2))
 else
  some (.inl (t.1,h))
 else
 some (.inr t.1)
def uI(self:(List Queue)→Int→Int→Int→((TupT fam [.st 2,.st 2]→Option Int))→Option (List Queue))(data:List Queue)(a:Int)(m:Int)(b:Int)(cmp:(TupT fam [.st 2,.st 2]→Option Int)):Option (List Queue):=
 bif(w64 (m - a)) == 1 then
 (loop (rE data a cmp) (m,b)).bind λi2=>
 (loop (rD i2) (data,a)).bind λdata1=>
 some data1
 else
 bif(w64 (b - m)) == 1 then
  (loop (rO data m cmp) (a,m)).bind λi9=>
  (loop (rJ i9) (data,m)).bind λdata2=>
  some data2
 else
  let mid:=w64 (shrK .u64 (IntKind.u64.wrap (w64 (a+b))) 1)
  (
  bif decide (m>mid)then
   let start:=w64 ((w64 (mid+m)) - b)
   some (start,mid)
  else
   some (a,m)).bind λq=>
  let p:=w64 ((w64 (mid+m)) - 1)
  (loop (rK data cmp p) (q.1,q.2)).bind λstart1=>
  let end_:=w64 ((w64 (mid+m)) - start1)
  (
  bif decide (start1<m)then
   some (decide (m<end_))
  else
   some false).bind λq1=>
  bif q1 then
  none
  else
  (
   (
   bif decide (a<start1)then
    some (decide (start1<mid))
   else
    some false).bind λq2=>
   bif q2 then
   (self data a start1 mid cmp).bind λx14=>
   some x14
   else
   some data).bind λdata3=>
  (
   bif decide (mid<end_)then
   some (decide (end_<b))
   else
   some false).bind λq3=>
  bif q3 then
   (self data3 mid end_ b cmp).bind λx15=>
   some x15
  else
   some data3
def iv:Nat→(List Queue)→Int→Int→Int→((TupT fam [.st 2,.st 2]→Option Int))→Option (List Queue)
 | 0=>λ_ _ _ _ _=>none
 | n+1=>uI (iv n)
def gH(a0:List Queue)(a1:Int)(a2:Int)(a3:Int)(a4:(TupT fam [.st 2,.st 2]→Option Int)):Option (List Queue):=iv 64 a0 a1 a2 a3 a4
def h229:Hint:=(.s (.s .z (.c (.s .z (.s .z (.s (.b (.l [(10,.v (.int .i64) []),(11,.v (.int .i64) [])] [10,11,12] [(2,[(10,.v (.int .i64) [])])] .z)) (.s (.s .z (.b (.l [(0,.row (.st 2) false),(13,.v (.int .i64) [])] [0,13] [(4,[(0,.row (.st 2) false)])] .z))) .z)))) .z)) (.s (.s .z (.c (.s .z (.s .z (.s (.b (.l [(14,.v (.int .i64) []),(15,.v (.int .i64) [])] [14,15,16] [(6,[(14,.v (.int .i64) [])])] .z)) (.s (.s .z (.b (.l [(0,.row (.st 2) false),(17,.v (.int .i64) [])] [0,17] [(8,[(0,.row (.st 2) false)])] .z))) .z)))) .z)) (.s .z (.s .z (.s .z (.s (.j [20,21] [(0,[(20,.v (.int .i64) []),(21,.v (.int .i64) [])])] .z) (.s .z (.s (.b (.l [(20,.v (.int .i64) []),(21,.v (.int .i64) [])] [20,21,23] [(10,[(20,.v (.int .i64) [])])] .z)) (.s .z (.s (.s (.j [] [(0,[(185,.v .bool [])])] .z) .z) (.s (.j [0,199] [(0,[(0,.row (.st 2) false)])] (.s (.j [] [(0,[(199,.v .bool [])])] .z) .z)) (.s (.j [] [(0,[(213,.v .bool [])])] .z) .z))))))))))))
def sp229:Spec fam:=⟨[.row (.st 2) false,.v (.int .i64) [],.v (.int .i64) [],.v (.int .i64) [],.fn [.st 2,.st 2] (.int .i64)],[],λa=>gH a.1 a.2.1 a.2.2.1 a.2.2.2.1 a.2.2.2.2.1⟩
def GL(n:Nat):Spec fam:=⟨[.row (.st 2) false,.v (.int .i64) [],.v (.int .i64) [],.v (.int .i64) [],.fn [.st 2,.st 2] (.int .i64)],[],λa=>iv n a.1 a.2.1 a.2.2.1 a.2.2.2.1 a.2.2.2.2.1⟩
def mv(n:Int)(cmp:(TupT fam [.st 2,.st 2]→Option Int))(t1:List Queue×Int)(t2:List Queue×Int×Int):Option ((List Queue×Int×Int) ⊕ ((List Queue×Int))):=
 bif decide (t2.2.2≤n)then
 (gH t2.1 t2.2.1 (w64 (t2.2.1+t1.2)) t2.2.2 cmp).bind λx2=>
 let b:=w64 (t2.2.2+(w64 (2*t1.2)))
 some (.inl (x2,t2.2.2,b))
 else
 some (.inr (t2.1,t2.2.1))
def gW(n:Int)(cmp:(TupT fam [.st 2,.st 2]→Option Int))(t1:List Queue×Int):Option ((List Queue×Int) ⊕ List Queue):=
 bif decide (t1.2<n)then
 (loop (mv n cmp t1) (t1.1,0,w64 (2*t1.2))).bind λq1=>
 (
  let m:=w64 (q1.2+t1.2)
  bif decide (m<n)then
  (gH q1.1 q1.2 m n cmp).bind λx3=>
  some x3
  else
  some q1.1).bind λdata1=>
 some (.inl (data1,w64 (t1.2*2)))
 else
 some (.inr t1.1)
def gY(n:Int)(cmp:(TupT fam [.st 2,.st 2]→Option Int))(t:List Queue×Int×Int):Option ((List Queue×Int×Int) ⊕ ((List Queue×Int))):=
 bif decide (t.2.2≤n)then
 (eK t.1 t.2.1 t.2.2 cmp).bind λx=>
 some (.inl (x,t.2.2,w64 (t.2.2+20)))
 else
 some (.inr (t.1,t.2.1))
def gK(data:List Queue)(n:Int)(cmp:(TupT fam [.st 2,.st 2]→Option Int)):Option (List Queue):=
 (loop (gY n cmp) (data,0,20)).bind λq=>
 (eK q.1 q.2 n cmp).bind λx1=>
 (loop (gW n cmp) (x1,20)).bind λdata2=>
 some data2
def h197:Hint:=(.s .z (.s .z (.s (.b (.l [(0,.row (.st 2) false),(7,.v (.int .i64) []),(8,.v (.int .i64) [])] [0,7,8] [(2,[(0,.row (.st 2) false),(7,.v (.int .i64) [])])] .z)) (.s .z (.b (.l [(0,.row (.st 2) false),(6,.v (.int .i64) [])] [0,6,7,8,9] [(4,[(0,.row (.st 2) false)])] (.s .z (.b (.s .z (.s (.b (.l [(0,.row (.st 2) false),(7,.v (.int .i64) []),(8,.v (.int .i64) [])] [0,7,8] [(6,[(0,.row (.st 2) false),(7,.v (.int .i64) [])])] .z)) (.s (.j [0,9] [(0,[(0,.row (.st 2) false)])] .z) .z)))))))))))
def sp197:Spec fam:=⟨[.row (.st 2) false,.v (.int .i64) [],.fn [.st 2,.st 2] (.int .i64)],[],λa=>gK a.1 a.2.1 a.2.2.1⟩
def gM(x:List Queue)(cmp:(TupT fam [.st 2,.st 2]→Option Int)):Option (List Queue):=
 (gK x (x.length:Int) cmp).bind λx1=>
 some x1
def h162:Hint:=.z
def sp162:Spec fam:=⟨[.row (.st 2) false,.fn [.st 2,.st 2] (.int .i64)],[],λa=>gM a.1 a.2.1⟩
def ou(_a0:Queue)(_a1:Queue):Option Int:=none
def sp163:Spec fam:=⟨[.v (.st 2) [],.v (.st 2) []],[.v (.int .i64) []],λa=>ou a.1 a.2.1⟩
def rt(x3:List Queue)(t1:Conf×Int):Option ((Conf×Int) ⊕ ((Conf×Int) ⊕ Conf)):=
 bif decide (t1.2<(x3.length:Int))then
 (
  bif decide (t1.2>0)then
  (inb (w64 (t1.2 - 1)) x3.length).bind λi1=>
  (x3[i1]?).bind λx4=>
  (inb t1.2 x3.length).bind λi2=>
  (x3[i2]?).bind λx5=>
  some (x4.Path == x5.Path)
  else
  some false).bind λq2=>
 bif q2 then
  some (.inr (.inl ((⟨[],[]⟩:Conf),7)))
 else
  some (.inl (t1.1,w64 (t1.2+1)))
 else
 some (.inr (.inr (t1.1)))
def lP(x:List (List UInt8))(t:Conf×Reader×Int):Option ((Conf×Reader×Int) ⊕ ((Conf×Int) ⊕ (Conf×Reader))):=
 bif decide (t.2.2<(x.length:Int))then
 (inb t.2.2 x.length).bind λi=>
 (x[i]?).bind λx1=>
 (mW x1).bind λx2=>
 (eP t.2.1 x2).bind λe=>
 bif e.1 != 0 then
  some (.inr (.inl ((⟨[],[]⟩:Conf),e.1)))
 else
  some (.inl (t.1,e.2,w64 (t.2.2+1)))
 else
 some (.inr (.inr (t.1,t.2.1)))
def mH(s:List UInt8):Option (Conf×Int):=
 bif decide ((s.length:Int)>2000)then
 some ((⟨[],[]⟩:Conf),5)
 else
 (dC s ([10]:List UInt8)).bind λx=>
 (loop (lP x) ((⟨[],[]⟩:Conf),(⟨⟨[],[]⟩,false⟩:Reader),0)).bind λq0=>
 match q0 with
 | .inl q=>
  some (q.1,q.2)
 | .inr q1=>
  bif ! q1.2.seen then
  some ((⟨[],[]⟩:Conf),6)
  else
  (gM q1.2.c.Queues (λa'=>ou a'.1 a'.2.1)).bind λx3=>
  (loop (rt x3) (q1.1,0)).bind λq0=>
  match q0 with
  | .inl q3=>
   some (q3.1,q3.2)
  | .inr q4=>
   some ((⟨q1.2.c.Labels,x3⟩:Conf),0)
def h109:Hint:=(.s .z (.s .z (.s .z (.s .z (.s (.s .z (.b (.l [(2,.box (.st 3) [0,1]),(4,.box (.st 17) [0,1]),(22,.v (.int .i64) [])] [2,3,4,7,8,22,23,24,25,26,27,28,29,30,31,32,33,34] [(1,[(2,.box (.st 3) [0,1]),(3,.v (.int .i64) [])]),(2,[(2,.box (.st 3) [0,1]),(4,.box (.st 17) [0,1])])] .z))) (.s .z (.s .z (.s .z (.s (.s .z (.b (.l [(2,.box (.st 3) [0,1]),(50,.v (.int .i64) [])] [2,3,10,50,68] [(1,[(2,.box (.st 3) [0,1]),(3,.v (.int .i64) [])]),(4,[(2,.box (.st 3) [0,1])])] (.s .z (.s .z (.s (.b (.s .z (.s (.j [] [(0,[(68,.v .bool [])])] .z) .z))) .z)))))) .z)))))))))
def sp109:Spec fam:=⟨[.v .str []],[.v (.st 3) [0,1],.v (.int .i64) []],λa=>mH a.1⟩
def de(s1:List (List UInt8))(s2:List (List UInt8))(t:Int):Option (Int ⊕ (Bool ⊕ Unit)):=
 bif decide (t<(s1.length:Int))then
 (idx s1 t).bind λx=>
 (idx s2 t).bind λx1=>
 bif ! (x == x1)then
  some (.inr (.inl false))
 else
  some (.inl (w64 (t+1)))
 else
 some (.inr (.inr ()))
def bf(s1:List (List UInt8))(s2:List (List UInt8)):Option Bool:=
 bif(s1.length:Int) != (s2.length:Int)then
 some false
 else
 (loop (de s1 s2) 0).bind λq0=>
 match q0 with
 | .inl q=>
  some q
 | .inr _=>
  some true
def h110:Hint:=(.s .z (.s .z (.s (.s .z (.b (.l [(13,.v (.int .i64) [])] [4,5,13] [(1,[(4,.v .bool [])]),(2,[])] .z))) .z)))
def sp110:Spec fam:=⟨[.v (.slice (.str)) [],.v (.slice (.str)) []],[.v .bool []],λa=>bf a.1 a.2.1⟩
def cM(t:Step)(x:Conf×Int)(t1:Int):Option (Int ⊕ Unit):=
 bif decide (t1<(t.s.Apps.length:Int))then
 (idx t.s.Apps t1).bind λx2=>
 (
  (gv x2).bind λx3=>
  bif x3 then
  (iJ x.1 x2.Queue).bind λx4=>
  some (! x4)
  else
  some false).bind λq1=>
 bif q1 then
  none
 else
  some (.inl (w64 (t1+1)))
 else
 some (.inr ())
def b_(t:Step):Option (Output×Step):=
 (mH t.x.Text).bind λx=>
 (
 bif x.2 == 0 then
  (jl x.1).bind λe=>
  some e
 else
  some x.2).bind λe1=>
 bif e1 != 0 then
 none
 else
 (
  bif decide ((t.s.Conf.Labels.length:Int)>(x.1.Labels.length:Int))then
  some true
  else
  (inS 0 (t.s.Conf.Labels.length:Int) x.1.Labels.length).bind λp=>
  (bf t.s.Conf.Labels (sub x.1.Labels p.1 p.2)).bind λx1=>
  some (! x1)).bind λq=>
 bif q then
  none
 else
  (loop (cM t x) 0).bind λ_=>
  some ((⟨0,[],[],[],0⟩:Output),(⟨⟨⟨x.1.Labels,x.1.Queues⟩,t.s.Nodes,t.s.Apps,t.s.Conts,t.s.Slots,t.s.Plans,t.s.Now,t.s.Epoch,t.s.Seq⟩,⟨t.x.Kind,t.x.Id,t.x.Beat,t.x.N,t.x.Text,⟨t.x.Node.Id,t.x.Node.Label,t.x.Node.Rack,⟨t.x.Node.Cap.Mem,t.x.Node.Cap.Cores⟩,t.x.Node.Seen,t.x.Node.Beat,t.x.Node.Up⟩,⟨t.x.App.Id,t.x.App.State,t.x.App.Queue,t.x.App.User,t.x.App.Prio,⟨t.x.App.Master.Mem,t.x.App.Master.Cores⟩,t.x.App.Asks,t.x.App.Seen,t.x.App.Beat,t.x.App.Grants,t.x.App.Kills,t.x.App.Told,t.x.App.Lost⟩,t.x.Asks,t.x.Ids,⟨t.x.Plan.Id,t.x.Plan.Label,t.x.Plan.From,t.x.Plan.Until,⟨t.x.Plan.Need.Mem,t.x.Plan.Need.Cores⟩⟩⟩⟩:Step))
def h71:Hint:=(.s .z (.s .z (.s (.j [4,17,18,19,20] [(0,[(4,.v (.int .i64) [])])] .z) (.s .z (.s .z (.s (.s (.j [32,33,34,35,36,37,38,39,40,41,42,43,44,45,46,47,48,49,50] [(0,[(50,.v .bool [])])] .z) .z) (.s (.s .z (.b (.l [(58,.v (.int .i64) [])] [7,58,70] [(2,[])] (.s .z (.s .z (.s (.b (.s .z (.s (.j [] [(0,[(70,.v .bool [])])] .z) .z))) .z)))))) .z)))))))
def sp71:Spec fam:=⟨[.box (.st 18) [0,2,4,5,6,7000]],[.v (.st 11) [1,2,3]],λa=>b_ a.1⟩
def cp(t:Step)(s:State)(e:Int):Option (Output×Step):=
 bif e != 0 then
 none
 else
 some ((⟨0,[],[],[],0⟩:Output),(⟨⟨⟨s.Conf.Labels,s.Conf.Queues⟩,s.Nodes,s.Apps,s.Conts,s.Slots,s.Plans,s.Now,s.Epoch,s.Seq⟩,⟨t.x.Kind,t.x.Id,t.x.Beat,t.x.N,t.x.Text,⟨t.x.Node.Id,t.x.Node.Label,t.x.Node.Rack,⟨t.x.Node.Cap.Mem,t.x.Node.Cap.Cores⟩,t.x.Node.Seen,t.x.Node.Beat,t.x.Node.Up⟩,⟨t.x.App.Id,t.x.App.State,t.x.App.Queue,t.x.App.User,t.x.App.Prio,⟨t.x.App.Master.Mem,t.x.App.Master.Cores⟩,t.x.App.Asks,t.x.App.Seen,t.x.App.Beat,t.x.App.Grants,t.x.App.Kills,t.x.App.Told,t.x.App.Lost⟩,t.x.Asks,t.x.Ids,⟨t.x.Plan.Id,t.x.Plan.Label,t.x.Plan.From,t.x.Plan.Until,⟨t.x.Plan.Need.Mem,t.x.Plan.Need.Cores⟩⟩⟩⟩:Step))
def h72:Hint:=.z
def sp72:Spec fam:=⟨[.box (.st 18) [],.v (.st 10) [],.v (.int .i64) []],[.v (.st 11) [1,2,3]],λa=>cp a.1 a.2.1 a.2.2.1⟩
def jF(l:List Int):Option (List Int):=
 (mkl 8 (l.length:Int) (l.length:Int) 0).bind λl1=>
 some (cpy l1 0 l1.length l)
def h165:Hint:=.z
def sp165:Spec fam:=⟨[.v (.slice (.int .i64)) []],[.v (.slice (.int .i64)) [0]],λa=>jF a.1⟩
def rZ(x9:List App)(t1:List App×Int):Option ((List App×Int) ⊕ List App):=
 bif decide (t1.2<(x9.length:Int))then
 (inb t1.2 t1.1.length).bind λi2=>
 (t1.1[i2]?).bind λx10=>
 (nC x10.Asks).bind λx11=>
 (jF x10.Grants).bind λx12=>
 (jF x10.Kills).bind λx13=>
 (jF x10.Told).bind λx14=>
 (jF x10.Lost).bind λx15=>
 (inb t1.2 t1.1.length).bind λi3=>
 (t1.1[i3]?).bind λx16=>
 some (.inl (List.set t1.1 i3 (⟨x10.Id,x10.State,x10.Queue,x10.User,x10.Prio,⟨x10.Master.Mem,x10.Master.Cores⟩,x11,x10.Seen,x10.Beat,x12,x13,x14,x15⟩:App),w64 (t1.2+1)))
 else
 some (.inr t1.1)
def sG(x1:List Queue)(t:List Queue×Int):Option ((List Queue×Int) ⊕ List Queue):=
 bif decide (t.2<(x1.length:Int))then
 (inb t.2 t.1.length).bind λi=>
 (t.1[i]?).bind λx2=>
 (ep x2.Caps).bind λx3=>
 (inb t.2 t.1.length).bind λi1=>
 (t.1[i1]?).bind λx4=>
 some (.inl (List.set t.1 i1 (⟨x4.Path,x3,x4.User⟩:Queue),w64 (t.2+1)))
 else
 some (.inr t.1)
def lk(s:State):Option State:=
 (aA s.Conf.Labels).bind λx=>
 (cA s.Conf.Queues).bind λx1=>
 (loop (sG x1) (x1,0)).bind λq=>
 (cz s.Nodes).bind λx5=>
 (cC s.Conts).bind λx6=>
 (cB s.Slots).bind λx7=>
 (gr s.Plans).bind λx8=>
 (da s.Apps).bind λx9=>
 (loop (rZ x9) (x9,0)).bind λq1=>
 some (⟨⟨x,q⟩,x5,q1,x6,x7,x8,s.Now,s.Epoch,s.Seq⟩:State)
def h111:Hint:=(.s .z (.s .z (.s (.s .z (.b (.l [(14,.row (.st 2) false),(23,.v (.int .i64) [])] [3,4,14,23,24,25,26,27,28,29,30,31,32,33,34,35,36,37] [(2,[(14,.row (.st 2) false)])] .z))) (.s .z (.s .z (.s (.s .z (.b (.l [(56,.row (.st 6) false),(61,.v (.int .i64) [])] [5,6,56,61] [(4,[(56,.row (.st 6) false)])] .z))) .z))))))
def sp111:Spec fam:=⟨[.v (.st 10) []],[.v (.st 10) [0,1,2,3,4,5,6]],λa=>lk a.1⟩
def bj(n:Int)(most:Int):Option Bool:=
 bif decide (n≥0)then
 some (decide (n≤most))
 else
 some false
def h112:Hint:=.z
def sp112:Spec fam:=⟨[.v (.int .i64) [],.v (.int .i64) []],[.v .bool []],λa=>bj a.1 a.2.1⟩
def vH(s:List Node)(i:Int)(v:List Node):Option (List Node):=
 (inS i (s.length:Int) s.length).bind λp=>
 bif(v.length:Int) == 0 then
 some s
 else
 bif i == (s.length:Int)then
  (app 64 s v).bind λl=>
  some l
 else
  none
def lJ(s:List Node)(i:Int)(v:List Node):Option (List Node):=ins s i v
def h113:Hint:=.z
def sp113:Spec fam:=⟨[.v (.slice (.st 4)) [0],.v (.int .i64) [],.v (.slice (.st 4)) [0]],[.v (.slice (.st 4)) [0]],λa=>lJ a.1 a.2.1 a.2.2.1⟩
def Eb:Spec fam:=⟨[.v (.slice (.st 4)) [0],.v (.int .i64) [],.v (.slice (.st 4)) [0]],[.v (.slice (.st 4)) [0]],λa=>vH a.1 a.2.1 a.2.2.1⟩
def mB(n:Node)(x:State)(k:Int):Option (Int ⊕ Int):=
 (
 bif decide (k<(x.Nodes.length:Int))then
  (inb k x.Nodes.length).bind λi3=>
  (x.Nodes[i3]?).bind λx8=>
  some (decide (x8.Id<n.Id))
 else
  some false).bind λq3=>
 bif q3 then
 some (.inl (w64 (k+1)))
 else
 some (.inr k)
def gC(s:State)(n:Node):Option (State×Int):=
 (lk s).bind λx=>
 (kq x n.Id).bind λi=>
 (
 (bj n.Id 999).bind λx1=>
 bif ! x1 then
  some true
 else
  (bj n.Label (w64 ((x.Conf.Labels.length:Int) - 1))).bind λx2=>
  bif ! x2 then
  some true
  else
  (bj n.Rack 99).bind λx3=>
  bif ! x3 then
   some true
  else
   (bj n.Cap.Mem 1073741824).bind λx4=>
   bif ! x4 then
   some true
   else
   (bj n.Cap.Cores 1073741824).bind λx5=>
   some (! x5)).bind λq=>
 bif q then
 some (x,1)
 else
 (
  bif decide (i≥0)then
  (inb i x.Nodes.length).bind λi1=>
  (x.Nodes[i1]?).bind λx6=>
  some x6.Up
  else
  some false).bind λq1=>
 bif q1 then
  some (x,7)
 else
  (
  bif decide (i<0)then
   some (decide ((x.Nodes.length:Int)≥12))
  else
   some false).bind λq2=>
  bif q2 then
  some (x,4)
  else
  bif decide (i≥0)then
   (inb i x.Nodes.length).bind λi2=>
   (x.Nodes[i2]?).bind λx7=>
   some ((⟨⟨x.Conf.Labels,x.Conf.Queues⟩,List.set x.Nodes i2 (⟨n.Id,n.Label,n.Rack,⟨n.Cap.Mem,n.Cap.Cores⟩,x.Now,0,true⟩:Node),x.Apps,x.Conts,x.Slots,x.Plans,x.Now,x.Epoch,x.Seq⟩:State),0)
  else
   (loop (mB n x) 0).bind λk1=>
   (lJ x.Nodes k1 [(⟨n.Id,n.Label,n.Rack,⟨n.Cap.Mem,n.Cap.Cores⟩,x.Now,0,true⟩:Node)]).bind λx9=>
   some ((⟨⟨x.Conf.Labels,x.Conf.Queues⟩,x9,x.Apps,x.Conts,x.Slots,x.Plans,x.Now,x.Epoch,x.Seq⟩:State),0)
def h73:Hint:=(.s .z (.s .z (.s .z (.s (.b (.s (.j [] [(0,[(14,.v .bool [])])] .z) (.c .z (.s (.j [] [(0,[(51,.v .bool [])])] .z) (.c .z (.s (.j [] [(0,[(63,.v .bool [])])] .z) .z)))))) (.s .z (.s .z (.s .z (.s (.b (.l [(7,.v (.int .i64) [])] [7,107] [(3,[(7,.v (.int .i64) [])])] (.s (.s (.j [] [(0,[(107,.v .bool [])])] .z) .z) .z))) .z))))))))
def sp73:Spec fam:=⟨[.v (.st 10) [],.v (.st 4) []],[.v (.st 10) [0,1,2,3,4,5,6],.v (.int .i64) []],λa=>gC a.1 a.2.1⟩
def li(t:Step)(node:Int)(t1:List Int×Int):Option ((List Int×Int) ⊕ List Int):=
 bif decide (t1.2<(t.s.Conts.length:Int))then
 (
  (idx t.s.Conts t1.2).bind λx=>
  bif x.Node == node then
  (app 8 t1.1 [x.Id]).bind λl=>
  some l
  else
  some t1.1).bind λout=>
 some (.inl (out,w64 (t1.2+1)))
 else
 some (.inr t1.1)
def cw(t:Step)(node:Int):Option (List Int):=
 (loop (li t node) ([],0)).bind λout1=>
 some out1
def h114:Hint:=(.s .z (.s .z (.s (.s .z (.b (.l [(5,.v (.slice (.int .i64)) [0]),(14,.v (.int .i64) [])] [5,7,14] [(2,[(5,.v (.slice (.int .i64)) [0])])] (.s .z (.s .z (.s (.j [5,7] [(0,[(5,.v (.slice (.int .i64)) [0])])] .z) .z)))))) .z)))
def sp114:Spec fam:=⟨[.rp (.st 18),.v (.int .i64) []],[.v (.slice (.int .i64)) [0]],λa=>cw a.1 a.2.1⟩
def mP(s:State)(id_:Int)(beat:Int):Option (State×Int):=
 (lk s).bind λx=>
 (kq x id_).bind λi=>
 bif decide (i<0)then
 some (x,2)
 else
 (inb i x.Nodes.length).bind λi1=>
 (x.Nodes[i1]?).bind λx1=>
 bif ! x1.Up then
  some (x,18)
 else
  (
  bif decide (beat<0)then
   some true
  else
   (inb i x.Nodes.length).bind λi2=>
   (x.Nodes[i2]?).bind λx2=>
   some (decide (beat<x2.Beat))).bind λq=>
  bif q then
  some (x,15)
  else
  (inb i x.Nodes.length).bind λi3=>
  (x.Nodes[i3]?).bind λx3=>
  bif decide ((w64 (beat - x3.Beat))>1)then
   some (x,1)
  else
   (inb i x.Nodes.length).bind λi4=>
   (x.Nodes[i4]?).bind λx4=>
   (inb i (List.set x.Nodes i4 (⟨x4.Id,x4.Label,x4.Rack,⟨x4.Cap.Mem,x4.Cap.Cores⟩,x.Now,x4.Beat,x4.Up⟩:Node)).length).bind λi5=>
   ((List.set x.Nodes i4 (⟨x4.Id,x4.Label,x4.Rack,⟨x4.Cap.Mem,x4.Cap.Cores⟩,x.Now,x4.Beat,x4.Up⟩:Node))[i5]?).bind λx5=>
   some ((⟨⟨x.Conf.Labels,x.Conf.Queues⟩,List.set (List.set x.Nodes i4 (⟨x4.Id,x4.Label,x4.Rack,⟨x4.Cap.Mem,x4.Cap.Cores⟩,x.Now,x4.Beat,x4.Up⟩:Node)) i5 (⟨x5.Id,x5.Label,x5.Rack,⟨x5.Cap.Mem,x5.Cap.Cores⟩,x5.Seen,beat,x5.Up⟩:Node),x.Apps,x.Conts,x.Slots,x.Plans,x.Now,x.Epoch,x.Seq⟩:State),0)
def h115:Hint:=(.s .z (.s .z (.s .z (.s (.b (.s .z (.c .z (.s .z (.c .z (.s (.j [] [(0,[(27,.v .bool [])])] .z) .z)))))) .z))))
def sp115:Spec fam:=⟨[.v (.st 10) [],.v (.int .i64) [],.v (.int .i64) []],[.v (.st 10) [0,1,2,3,4,5,6],.v (.int .i64) []],λa=>mP a.1 a.2.1 a.2.2.1⟩
def bS(s:List Int)(f:(TupT fam [.int .i64]→Option Bool))(t:Int):Option (Int ⊕ (Int ⊕ Unit)):=
 bif decide (t<(s.length:Int))then
 (idx s t).bind λx=>
 (f (x,())).bind λr=>
 bif r then
  some (.inr (.inl t))
 else
  some (.inl (w64 (t+1)))
 else
 some (.inr (.inr ()))
def aU(s:List Int)(f:(TupT fam [.int .i64]→Option Bool)):Option Int:=
 (loop (bS s f) 0).bind λq0=>
 match q0 with
 | .inl q=>
 some q
 | .inr _=>
 some (-1)
def h168:Hint:=(.s .z (.s (.s .z (.b (.l [(8,.v (.int .i64) [])] [4,5,8] [(1,[(4,.v (.int .i64) [])]),(2,[])] .z))) .z))
def sp168:Spec fam:=⟨[.v (.slice (.int .i64)) [],.fn [.int .i64] .bool],[.v (.int .i64) []],λa=>aU a.1 a.2.1⟩
def dn(del:(TupT fam [.int .i64]→Option Bool))(t:List Int×Int×Int):Option ((List Int×Int×Int) ⊕ ((List Int×Int))):=
 bif decide (t.2.2<(t.1.length:Int))then
 (
  (inb t.2.2 t.1.length).bind λi1=>
  (t.1[i1]?).bind λx=>
  (del (x,())).bind λr=>
  bif ! r then
  (inb t.2.1 t.1.length).bind λi2=>
  (t.1[i2]?).bind λx1=>
  some (List.set t.1 i2 x,w64 (t.2.1+1))
  else
  some (t.1,t.2.1)).bind λq=>
 some (.inl (q.1,q.2,w64 (t.2.2+1)))
 else
 some (.inr (t.1,t.2.1))
def br(s:List Int)(del:(TupT fam [.int .i64]→Option Bool)):Option (List Int):=
 (aU s del).bind λi=>
 bif i == (-1)then
 some s
 else
 (loop (dn del) (s,i,w64 (i+1))).bind λq1=>
 (inS q1.2 (q1.1.length:Int) q1.1.length).bind λp=>
 (inS 0 q1.2 (cpy q1.1 p.1 p.2 (List.replicate p.2 0)).length).bind λp1=>
 some (List.take p1.2 (cpy q1.1 p.1 p.2 (List.replicate p.2 0)))
def h116:Hint:=(.s .z (.s .z (.s .z (.s (.s .z (.b (.l [(0,.row (.int .i64) false),(5,.v (.int .i64) []),(6,.v (.int .i64) [])] [0,5,6,7] [(2,[(0,.row (.int .i64) false),(5,.v (.int .i64) [])])] (.s .z (.s (.j [0,5,7] [(0,[(0,.row (.int .i64) false),(5,.v (.int .i64) [])])] .z) .z))))) (.s .z (.s (.r [9998]) .z))))))
def sp116:Spec fam:=⟨[.v (.slice (.int .i64)) [0],.fn [.int .i64] .bool],[.v (.slice (.int .i64)) [0]],λa=>br a.1 a.2.1⟩
def me(s:List Int):Option (List Int):=
 bif s.isEmpty then
 none
 else
 (app 8 [] s).bind λl=>
 some l
def bv(s:List Int):Option (List Int):=app 8 [] s
def h117:Hint:=.z
def sp117:Spec fam:=⟨[.v (.slice (.int .i64)) []],[.v (.slice (.int .i64)) [0]],λa=>bv a.1⟩
def CT:Spec fam:=⟨[.v (.slice (.int .i64)) []],[.v (.slice (.int .i64)) [0]],λa=>me a.1⟩
def fQ(_a0:Int)(_a1:List Int):Option Bool:=none
def sp118:Spec fam:=⟨[.v (.int .i64) [],.rp (.slice (.int .i64))],[.v .bool []],λa=>fQ a.1 a.2.1⟩
def rA(s:State)(id_:Int)(t:Vec×Int):Option ((Vec×Int) ⊕ Vec):=
 bif decide (t.2<(s.Conts.length:Int))then
 (
  (idx s.Conts t.2).bind λx=>
  bif x.Node == id_ then
  (dX t.1 x.Size).bind λx1=>
  some x1.1
  else
  some t.1).bind λout=>
 some (.inl (out,w64 (t.2+1)))
 else
 some (.inr t.1)
def mK(s:State)(id_:Int):Option Vec:=
 (loop (rA s id_) ((⟨0,0⟩:Vec),0)).bind λout1=>
 some out1
def h231:Hint:=(.s .z (.s .z (.s (.s .z (.b (.l [(5,.box (.st 0) []),(11,.v (.int .i64) [])] [5,7,11] [(2,[(5,.box (.st 0) [])])] (.s .z (.s .z (.s (.j [5,7] [(0,[(5,.box (.st 0) [])])] .z) .z)))))) .z)))
def sp231:Spec fam:=⟨[.v (.st 10) [],.v (.int .i64) []],[.v (.st 0) []],λa=>mK a.1 a.2.1⟩
def mN(s:State)(id_:Int):Option Vec:=
 (fm s id_).bind λx=>
 (
 bif ! x.2 then
  some true
 else
  some (! x.1.Up)).bind λq=>
 bif q then
 some (⟨0,0⟩:Vec)
 else
 (mK s id_).bind λx1=>
 some (⟨imax (w64 (x.1.Cap.Mem - x1.Mem)) 0,imax (w64 (x.1.Cap.Cores - x1.Cores)) 0⟩:Vec)
def h200:Hint:=(.s .z (.s .z (.s (.s (.j [] [(0,[(20,.v .bool [])])] .z) .z) .z)))
def sp200:Spec fam:=⟨[.v (.st 10) [],.v (.int .i64) []],[.v (.st 0) []],λa=>mN a.1 a.2.1⟩
def pN(_a0:Slot)(_a1:Bool):Option Bool:=none
def sp232:Spec fam:=⟨[.v (.st 8) [],.rp .bool],[.v .bool []],λa=>pN a.1 a.2.1⟩
def Ab(_a0:App)(_a1:Int):Option (Ask×Bool):=none
def sp233:Spec fam:=⟨[.v (.st 6) [],.v (.int .i64) []],[.v (.st 5) [],.v .bool []],λa=>Ab a.1 a.2.1⟩
def pw(a:Ask)(n:Node):Option Int:=
 (
 (
  bif ! n.Up then
  some true
  else
  some (n.Label != a.Label)).bind λq=>
 bif q then
  some (.inr (.inl 4))
 else
  bif a.Rack == (-1)then
  some (.inl ())
  else
  (
   bif a.Node == n.Id then
   some (a.Node == n.Id)
   else
   bif a.Node == (-1)then
    some (a.Rack == n.Rack)
   else
    some false).bind λq1=>
  bif q1 then
   some (.inl ())
  else
   bif a.Rack == n.Rack then
   some (.inr (.inr (.inr ())))
   else
   some (.inr (.inr (.inl ()))):Option (Unit ⊕ Int ⊕ Unit ⊕ Unit)).bind λq0=>
 match q0 with
 | .inl _=>
 some 1
 | .inr (.inl q2)=>
 some q2
 | .inr (.inr (.inl _))=>
 some 3
 | .inr (.inr (.inr _))=>
 some 2
def h275:Hint:=(.s .z (.s (.b (.s (.b (.s (.j [5,20] [(0,[]),(1,[(4,.v (.int .i64) [])]),(2,[]),(6,[])] (.b (.b (.s (.b (.s (.s (.s (.j [] [(0,[(5,.v .bool [])])] .z) .z) (.s .z (.s (.s (.j [] [(0,[(20,.v .bool [])])] .z) .z) .z))) .z)) .z)))) .z)) .z)) .z))
def sp275:Spec fam:=⟨[.v (.st 5) [],.v (.st 4) []],[.v (.int .i64) []],λa=>pw a.1 a.2.1⟩
def lj(a:Ask)(n:Node):Option Bool:=
 (pw a n).bind λx=>
 bif x == 1 then
 some true
 else
 bif x == 2 then
  some (decide (a.Missed≥2))
 else
  bif x == 3 then
  some (decide (a.Missed≥4))
  else
  some false
def h234:Hint:=.z
def sp234:Spec fam:=⟨[.v (.st 5) [],.v (.st 4) []],[.v .bool []],λa=>lj a.1 a.2.1⟩
def fj(t:Attempt)(x:Ask):Option Bool:=
 (pw x t.n).bind λx1=>
 bif x1 != 4 then
 (bJ x.Size t.n.Cap).bind λx2=>
 some x2
 else
 some false
def h235:Hint:=.z
def sp235:Spec fam:=⟨[.rp (.st 19),.v (.st 5) []],[.v .bool []],λa=>fj a.1 a.2.1⟩
def jU(v:View)(c:Cont)(t:App×Int):Option ((App×Int) ⊕ ((App×Bool) ⊕ App)):=
 bif decide (t.2<(v.s.Apps.length:Int))then
 (idx v.s.Apps t.2).bind λx=>
 bif x.Id == c.App then
  some (.inr (.inl (x,true)))
 else
  some (.inl (t.1,w64 (t.2+1)))
 else
 some (.inr (.inr (t.1)))
def fa(v:View)(c:Cont):Option (App×Bool):=
 (loop (jU v c) ((⟨0,0,[],0,0,⟨0,0⟩,[],0,0,[],[],[],[]⟩:App),0)).bind λq0=>
 match q0 with
 | .inl q=>
 some (q.1,q.2)
 | .inr q1=>
 some ((⟨0,0,[],0,0,⟨0,0⟩,[],0,0,[],[],[],[]⟩:App),false)
def h329:Hint:=(.s .z (.s (.s .z (.b (.l [(4,.box (.st 6) [7,10,11,12,13]),(12,.v (.int .i64) [])] [4,5,7,12] [(1,[(4,.box (.st 6) []),(5,.v .bool [])]),(2,[(4,.box (.st 6) [7,10,11,12,13])])] .z))) .z))
def sp329:Spec fam:=⟨[.v (.st 14) [],.v (.st 7) []],[.v (.st 6) [],.v .bool []],λa=>fa a.1 a.2.1⟩
def tV(_a0:List UInt8)(_a1:List UInt8):Option Bool:=none
def sp353:Spec fam:=⟨[.v .str [],.v .str []],[.v .bool []],λa=>tV a.1 a.2.1⟩
def ki(v:View)(a:App):Option Bool:=
 bif a.Queue == v.path then
 bif v.user == (-1)then
  some true
 else
  some (a.User == v.user)
 else
 (cat v.path ([46]:List UInt8)).bind λs=>
 none
def h330:Hint:=.z
def sp330:Spec fam:=⟨[.v (.st 14) [],.v (.st 6) []],[.v .bool []],λa=>ki a.1 a.2.1⟩
def f_(v:View)(t:Vec×Int):Option ((Vec×Int) ⊕ Vec):=
 bif decide (t.2<(v.s.Conts.length:Int))then
 (
  (idx v.s.Conts t.2).bind λx=>
  (fa v x).bind λx1=>
  (
  bif x1.2 then
   bif x.Label == v.label then
   (ki v x1.1).bind λx2=>
   some x2
   else
   some false
  else
   some false).bind λq=>
  bif q then
  (dX t.1 x.Size).bind λx3=>
  some x3.1
  else
  some t.1).bind λout=>
 some (.inl (out,w64 (t.2+1)))
 else
 some (.inr t.1)
def dP(v:View):Option Vec:=
 (loop (f_ v) ((⟨0,0⟩:Vec),0)).bind λout1=>
 some out1
def h288:Hint:=(.s .z (.s .z (.s .z (.s (.s .z (.b (.l [(3,.box (.st 0) []),(15,.v (.int .i64) [])] [3,6,7,8,15,37] [(2,[(3,.box (.st 0) [])])] (.s .z (.s .z (.s (.j [3,6,7,8,37] [(0,[(3,.box (.st 0) [])])] (.b (.s .z (.s .z (.s (.j [] [(0,[(37,.v .bool [])])] .z) .z))))) .z)))))) .z))))
def sp288:Spec fam:=⟨[.v (.st 14) []],[.v (.st 0) []],λa=>dP a.1⟩
def gN(s:State)(path:List UInt8)(label:Int):Option Vec:=
 (dP (⟨⟨⟨s.Conf.Labels,s.Conf.Queues⟩,s.Nodes,s.Apps,s.Conts,s.Slots,s.Plans,s.Now,s.Epoch,s.Seq⟩,path,label,(-1)⟩:View)).bind λx=>
 some x
def h247:Hint:=.z
def sp247:Spec fam:=⟨[.v (.st 10) [],.v .str [],.v (.int .i64) []],[.v (.st 0) []],λa=>gN a.1 a.2.1 a.2.2.1⟩
def sd(l:List Vec)(t:Vec×Int):Option ((Vec×Int) ⊕ Vec):=
 bif decide (t.2<(l.length:Int))then
 (idx l t.2).bind λx=>
 (dX t.1 x).bind λx1=>
 some (.inl (x1.1,w64 (t.2+1)))
 else
 some (.inr t.1)
def lv(l:List Vec):Option Vec:=
 (loop (sd l) ((⟨0,0⟩:Vec),0)).bind λout=>
 some out
def h221:Hint:=(.s .z (.s .z (.s (.s .z (.b (.l [(3,.box (.st 0) []),(8,.v (.int .i64) [])] [3,5,8] [(2,[(3,.box (.st 0) [])])] .z))) .z)))
def sp221:Spec fam:=⟨[.v (.slice (.st 0)) []],[.v (.st 0) []],λa=>lv a.1⟩
def qj(s:State)(label:Int)(t:List Vec×Int):Option ((List Vec×Int) ⊕ List Vec):=
 bif decide (t.2<(s.Nodes.length:Int))then
 (
  (idx s.Nodes t.2).bind λx=>
  (
  bif x.Up then
   some (x.Label == label)
  else
   some false).bind λq=>
  bif q then
  (app 16 t.1 [x.Cap]).bind λl=>
  some l
  else
  some t.1).bind λl1=>
 some (.inl (l1,w64 (t.2+1)))
 else
 some (.inr t.1)
def ig(s:State)(label:Int):Option Vec:=
 (loop (qj s label) ([],0)).bind λl2=>
 (lv l2).bind λx1=>
 some x1
def h188:Hint:=(.s .z (.s .z (.s (.s .z (.b (.l [(5,.v (.slice (.st 0)) [0]),(11,.v (.int .i64) [])] [5,7,11,22] [(2,[(5,.v (.slice (.st 0)) [0])])] (.s .z (.s .z (.s (.j [5,7,22] [(0,[(5,.v (.slice (.st 0)) [0])])] (.b (.s .z (.s (.j [] [(0,[(22,.v .bool [])])] .z) .z)))) .z)))))) .z)))
def sp188:Spec fam:=⟨[.v (.st 10) [],.v (.int .i64) []],[.v (.st 0) []],λa=>ig a.1 a.2.1⟩
def u6(x:Int)(y:Int):Option (Int×Int):=
 let w0:=IntKind.u64.wrap ((andK .u64 x 4294967295)*(andK .u64 y 4294967295))
 let t:=IntKind.u64.wrap ((IntKind.u64.wrap ((shrK .u64 x 32)*(andK .u64 y 4294967295)))+(shrK .u64 w0 32))
 let w1:=IntKind.u64.wrap ((andK .u64 t 4294967295)+(IntKind.u64.wrap ((andK .u64 x 4294967295)*(shrK .u64 y 32))))
 let hi:=IntKind.u64.wrap ((IntKind.u64.wrap ((IntKind.u64.wrap ((shrK .u64 x 32)*(shrK .u64 y 32)))+(shrK .u64 t 32)))+(shrK .u64 w1 32))
 some (hi,IntKind.u64.wrap (x*y))
def h363:Hint:=.z
def sp363:Spec fam:=⟨[.v (.int .u64) [],.v (.int .u64) []],[.v (.int .u64) [],.v (.int .u64) []],λa=>u6 a.1 a.2.1⟩
def rM(_a0:Int):Option Int:=none
def sp377:Spec fam:=⟨[.v (.int .u64) []],[.v (.int .i64) []],λa=>rM a.1⟩
def vl(hi:Int)(lo:Int)(y:Int):Option (Int×Int):=
 bif y == 0 then
 none
 else
 bif decide (y≤hi)then
  none
 else
  bif hi == 0 then
  (nz y).bind λ_=>
  (nz y).bind λ_=>
  some (IntKind.u64.wrap (Int.tdiv lo y),Int.tmod lo y)
  else
  none
def h364:Hint:=.z
def sp364:Spec fam:=⟨[.v (.int .u64) [],.v (.int .u64) [],.v (.int .u64) []],[.v (.int .u64) [],.v (.int .u64) []],λa=>vl a.1 a.2.1 a.2.2.1⟩
def rX(n:Int)(bp:Int):Option Int:=
 (u6 (IntKind.u64.wrap n) (IntKind.u64.wrap bp)).bind λx=>
 (vl x.1 x.2 10000).bind λx1=>
 some (w64 x1.1)
def h344:Hint:=.z
def sp344:Spec fam:=⟨[.v (.int .i64) [],.v (.int .i64) []],[.v (.int .i64) []],λa=>rX a.1 a.2.1⟩
def jr(a:Vec)(bp:Int):Option (Vec×Int):=
 (
 (fu a).bind λx=>
 bif ! x then
  some true
 else
  bif decide (bp<0)then
  some true
  else
  some (decide (bp>1000000))).bind λq=>
 bif q then
 some ((⟨0,0⟩:Vec),1)
 else
 (rX a.Mem bp).bind λx1=>
 (rX a.Cores bp).bind λx2=>
 (sS (⟨x1,x2⟩:Vec)).bind λx3=>
 some (x3.1,x3.2)
def h315:Hint:=(.s .z (.s (.s (.j [] [(0,[(16,.v .bool [])])] .z) .z) .z))
def sp315:Spec fam:=⟨[.v (.st 0) [],.v (.int .i64) []],[.v (.st 0) [],.v (.int .i64) []],λa=>jr a.1 a.2.1⟩
def qN(t:List UInt8×List (List UInt8)):Option ((List UInt8×List (List UInt8)) ⊕ List (List UInt8)):=
 bif ! (t.1 == ([]:List UInt8))then
 (app 16 t.2 [t.1]).bind λl=>
 (gG t.1).bind λx=>
 some (.inl (x.1,l))
 else
 some (.inr t.2)
def pJ(path:List UInt8):Option (List (List UInt8)):=
 (loop qN (path,[])).bind λout=>
 some out
def h316:Hint:=(.s .z (.s .z (.s (.b (.l [(0,.v .str []),(3,.v (.slice (.str)) [0])] [0,3] [(2,[(3,.v (.slice (.str)) [0])])] .z)) .z)))
def sp316:Spec fam:=⟨[.v .str []],[.v (.slice (.str)) [0]],λa=>pJ a.1⟩
def ml(s:State)(label:Int)(part:(TupT fam [.st 1]→Option Int))(up:List (List UInt8))(t:Vec×Vec×Int):Option ((Vec×Vec×Int) ⊕ (Vec ⊕ (Vec×Vec))):=
 bif decide (t.2.2≥0)then
 (inb t.2.2 up.length).bind λi1=>
 (up[i1]?).bind λx2=>
 (eN s.Conf x2).bind λx3=>
 (
  bif ! x3.2 then
  some true
  else
  bif decide (label<0)then
   some true
  else
   some (decide (label≥(x3.1.Caps.length:Int)))).bind λq=>
 bif q then
  some (.inr (.inl (⟨0,0⟩:Vec)))
 else
  (inb label x3.1.Caps.length).bind λi2=>
  (x3.1.Caps[i2]?).bind λx4=>
  (part (x4,())).bind λr=>
  (jr t.2.1 r).bind λx5=>
  some (.inl (t.1,x5.1,w64 (t.2.2 - 1)))
 else
 some (.inr (.inr (t.1,t.2.1)))
def iY(s:State)(path:List UInt8)(label:Int)(part:(TupT fam [.st 1]→Option Int)):Option Vec:=
 (pJ path).bind λup=>
 (eN s.Conf path).bind λx=>
 bif ! x.2 then
 some (⟨0,0⟩:Vec)
 else
 (ig s label).bind λx1=>
 let i:=w64 ((up.length:Int) - 2)
 (loop (ml s label part up) ((⟨0,0⟩:Vec),x1,i)).bind λq0=>
 match q0 with
 | .inl q1=>
  some q1
 | .inr q2=>
  some q2.2
def h313:Hint:=(.s .z (.s .z (.s .z (.s .z (.s (.s .z (.b (.l [(8,.box (.st 0) []),(12,.box (.st 0) []),(13,.v (.int .i64) [])] [8,12,13,14,60] [(1,[(8,.box (.st 0) [])]),(2,[(8,.box (.st 0) []),(12,.box (.st 0) [])])] (.s .z (.s (.b (.s .z (.s (.s (.j [] [(0,[(60,.v .bool [])])] .z) .z) .z))) .z))))) .z)))))
def sp313:Spec fam:=⟨[.v (.st 10) [],.v .str [],.v (.int .i64) [],.fn [.st 1] (.int .i64)],[.v (.st 0) []],λa=>iY a.1 a.2.1 a.2.2.1 a.2.2.2.1⟩
def eY(_a0:Cap):Option Int:=none
def sp314:Spec fam:=⟨[.v (.st 1) []],[.v (.int .i64) []],λa=>eY a.1⟩
def fD(s:State)(path:List UInt8)(label:Int):Option Vec:=
 (iY s path label (λa'=>eY a'.1)).bind λx=>
 some x
def h276:Hint:=.z
def sp276:Spec fam:=⟨[.v (.st 10) [],.v .str [],.v (.int .i64) []],[.v (.st 0) []],λa=>fD a.1 a.2.1 a.2.2.1⟩
def dG(t:Attempt)(a:App)(x:Ask):Option Bool:=
 (gN t.s a.Queue t.n.Label).bind λx1=>
 (dX x1 x.Size).bind λx2=>
 bif x2.2 == 0 then
 (fD t.s a.Queue t.n.Label).bind λx3=>
 (bJ x2.1 x3).bind λx4=>
 some x4
 else
 some false
def h236:Hint:=.z
def sp236:Spec fam:=⟨[.rp (.st 19),.v (.st 6) [],.v (.st 5) []],[.v .bool []],λa=>dG a.1 a.2.1 a.2.2.1⟩
def gA(s:State)(path:List UInt8)(label:Int)(user:Int):Option Vec:=
 bif user == (-1)then
 some (⟨0,0⟩:Vec)
 else
 (dP (⟨⟨⟨s.Conf.Labels,s.Conf.Queues⟩,s.Nodes,s.Apps,s.Conts,s.Slots,s.Plans,s.Now,s.Epoch,s.Seq⟩,path,label,user⟩:View)).bind λx=>
 some x
def h277:Hint:=.z
def sp277:Spec fam:=⟨[.v (.st 10) [],.v .str [],.v (.int .i64) [],.v (.int .i64) []],[.v (.st 0) []],λa=>gA a.1 a.2.1 a.2.2.1 a.2.2.2.1⟩
def mE(s:State)(path:List UInt8)(label:Int):Option Vec:=
 (eN s.Conf path).bind λx=>
 (fD s path label).bind λx1=>
 (jr x1 x.1.User).bind λx2=>
 some x2.1
def h278:Hint:=.z
def sp278:Spec fam:=⟨[.v (.st 10) [],.v .str [],.v (.int .i64) []],[.v (.st 0) []],λa=>mE a.1 a.2.1 a.2.2.1⟩
def dm(t:Attempt)(a:App):Option Bool:=
 (gA t.s a.Queue t.n.Label a.User).bind λx=>
 (mE t.s a.Queue t.n.Label).bind λx1=>
 (bJ x x1).bind λx2=>
 some x2
def h237:Hint:=.z
def sp237:Spec fam:=⟨[.rp (.st 19),.v (.st 6) []],[.v .bool []],λa=>dm a.1 a.2.1⟩
def fU(t:Attempt)(x:Ask):Option Bool:=
 (bJ x.Size t.free).bind λx1=>
 some x1
def h238:Hint:=.z
def sp238:Spec fam:=⟨[.rp (.st 19),.v (.st 5) []],[.v .bool []],λa=>fU a.1 a.2.1⟩
def fO(_a0:Cap):Option Int:=none
def sp345:Spec fam:=⟨[.v (.st 1) []],[.v (.int .i64) []],λa=>fO a.1⟩
def mO(s:State)(path:List UInt8)(label:Int):Option Vec:=
 (iY s path label (λa'=>fO a'.1)).bind λx=>
 some x
def h317:Hint:=.z
def sp317:Spec fam:=⟨[.v (.st 10) [],.v .str [],.v (.int .i64) []],[.v (.st 0) []],λa=>mO a.1 a.2.1 a.2.2.1⟩
def rg(s:State)(label:Int)(t:List Vec×Int):Option ((List Vec×Int) ⊕ List Vec):=
 bif decide (t.2<(s.Plans.length:Int))then
 (
  (idx s.Plans t.2).bind λx=>
  (
  bif x.Label == label then
   bif decide (x.From≤s.Now)then
   some (decide (x.Until>s.Now))
   else
   some false
  else
   some false).bind λq=>
  bif q then
  (app 16 t.1 [x.Need]).bind λl=>
  some l
  else
  some t.1).bind λl1=>
 some (.inl (l1,w64 (t.2+1)))
 else
 some (.inr t.1)
def mJ(s:State)(label:Int):Option Vec:=
 (loop (rg s label) ([],0)).bind λl2=>
 (lv l2).bind λx1=>
 some x1
def h318:Hint:=(.s .z (.s .z (.s (.s .z (.b (.l [(5,.v (.slice (.st 0)) [0]),(11,.v (.int .i64) [])] [5,7,11,32] [(2,[(5,.v (.slice (.st 0)) [0])])] (.s .z (.s .z (.s (.j [5,7,32] [(0,[(5,.v (.slice (.st 0)) [0])])] (.b (.s .z (.s (.j [] [(0,[(32,.v .bool [])])] .z) .z)))) .z)))))) .z)))
def sp318:Spec fam:=⟨[.v (.st 10) [],.v (.int .i64) []],[.v (.st 0) []],λa=>mJ a.1 a.2.1⟩
def lK(s:State)(label:Int)(size:Vec)(x:List (List UInt8))(t:Int):Option (Int ⊕ (Bool ⊕ Unit)):=
 bif decide (t<(x.length:Int))then
 (inb t x.length).bind λi=>
 (x[i]?).bind λx1=>
 (gN s x1 label).bind λx2=>
 (dX x2 size).bind λx3=>
 (
  bif x3.2 != 0 then
  some true
  else
  (mO s x1 label).bind λx4=>
  (bJ x3.1 x4).bind λx5=>
  some (! x5)).bind λq=>
 bif q then
  some (.inr (.inl false))
 else
  (ig s label).bind λx6=>
  (mJ s label).bind λx7=>
  (
  bif x1 == ([114,111,111,116]:List UInt8)then
   bif ! (((imax (w64 (x6.Mem - x7.Mem)) 0) == x6.Mem)&&((imax (w64 (x6.Cores - x7.Cores)) 0) == x6.Cores))then
   (bJ x3.1 (⟨imax (w64 (x6.Mem - x7.Mem)) 0,imax (w64 (x6.Cores - x7.Cores)) 0⟩:Vec)).bind λx8=>
   some (! x8)
   else
   some false
  else
   some false).bind λq1=>
  bif q1 then
  some (.inr (.inl false))
  else
  some (.inl (w64 (t+1)))
 else
 some (.inr (.inr ()))
def mG(s:State)(path:List UInt8)(label:Int)(size:Vec):Option Bool:=
 (pJ path).bind λx=>
 (loop (lK s label size x) 0).bind λq0=>
 match q0 with
 | .inl q2=>
 some q2
 | .inr _=>
 some true
def h279:Hint:=(.s .z (.s (.s .z (.b (.l [(19,.v (.int .i64) [])] [8,10,11,12,13,14,15,19,42,74] [(1,[(8,.v .bool [])]),(2,[])] (.s .z (.s .z (.s (.b (.s .z (.s .z (.s (.s (.j [] [(0,[(42,.v .bool [])])] .z) .z) (.s .z (.s .z (.s (.j [] [(0,[(74,.v .bool [])])] .z) .z))))))) .z)))))) .z))
def sp279:Spec fam:=⟨[.v (.st 10) [],.v .str [],.v (.int .i64) [],.v (.st 0) []],[.v .bool []],λa=>mG a.1 a.2.1 a.2.2.1 a.2.2.2.1⟩
def dh(t:Attempt)(a:App)(x:Ask):Option Bool:=
 (mG t.s a.Queue t.n.Label x.Size).bind λx1=>
 some x1
def h239:Hint:=.z
def sp239:Spec fam:=⟨[.rp (.st 19),.v (.st 6) [],.v (.st 5) []],[.v .bool []],λa=>dh a.1 a.2.1 a.2.2.1⟩
def wF(s:List App)(i:Int)(v:List App):Option (List App):=
 (inS i (s.length:Int) s.length).bind λp=>
 bif(v.length:Int) == 0 then
 some s
 else
 bif i == (s.length:Int)then
  (app 200 s v).bind λl=>
  some l
 else
  none
def na(s:List App)(i:Int)(v:List App):Option (List App):=ins s i v
def h170:Hint:=.z
def sp170:Spec fam:=⟨[.v (.slice (.st 6)) [0],.v (.int .i64) [],.v (.slice (.st 6)) [0]],[.v (.slice (.st 6)) [0]],λa=>na a.1 a.2.1 a.2.2.1⟩
def EZ:Spec fam:=⟨[.v (.slice (.st 6)) [0],.v (.int .i64) [],.v (.slice (.st 6)) [0]],[.v (.slice (.st 6)) [0]],λa=>wF a.1 a.2.1 a.2.2.1⟩
def ur(s:State)(a:App)(k:Int):Option (Int ⊕ Int):=
 (
 bif decide (k<(s.Apps.length:Int))then
  (inb k s.Apps.length).bind λi2=>
  (s.Apps[i2]?).bind λx1=>
  some (decide (x1.Id<a.Id))
 else
  some false).bind λq=>
 bif q then
 some (.inl (w64 (k+1)))
 else
 some (.inr k)
def ox(s:State)(a:App):Option State:=
 (j8 s a.Id).bind λi=>
 bif decide (i≥0)then
 (inb i s.Apps.length).bind λi1=>
 (s.Apps[i1]?).bind λx=>
 some (⟨⟨s.Conf.Labels,s.Conf.Queues⟩,s.Nodes,List.set s.Apps i1 a,s.Conts,s.Slots,s.Plans,s.Now,s.Epoch,s.Seq⟩:State)
 else
 (loop (ur s a) 0).bind λk1=>
 (na s.Apps k1 [a]).bind λx2=>
 some (⟨⟨s.Conf.Labels,s.Conf.Queues⟩,s.Nodes,x2,s.Conts,s.Slots,s.Plans,s.Now,s.Epoch,s.Seq⟩:State)
def h125:Hint:=(.s .z (.s .z (.s .z (.s (.b (.l [(6,.v (.int .i64) [])] [6,34] [(2,[(6,.v (.int .i64) [])])] (.s (.s (.j [] [(0,[(34,.v .bool [])])] .z) .z) .z))) .z))))
def sp125:Spec fam:=⟨[.v (.st 10) [0,1,2,3,4,5,6],.v (.st 6) [7,10,11,12,13,9999]],[.v (.st 10) [0,1,2,3,4,5,6]],λa=>ox a.1 a.2.1⟩
def ng(s:State)(a:App):Option State:=
 (jG s).bind λx=>
 (iG a).bind λx1=>
 (ox x x1).bind λx2=>
 some x2
def h131:Hint:=.z
def sp131:Spec fam:=⟨[.v (.st 10) [],.ln (.st 6)],[.v (.st 10) [0,1,2,3,4,5,6]],λa=>ng a.1 a.2.1⟩
def nM(l:List Ask):Option (List Ask):=
 (mkl 64 (l.length:Int) (l.length:Int) (⟨0,0,⟨0,0⟩,0,0,0,0⟩:Ask)).bind λl1=>
 some (cpy l1 0 l1.length l)
def h173:Hint:=.z
def sp173:Spec fam:=⟨[.v (.slice (.st 5)) []],[.v (.slice (.st 5)) [0]],λa=>nM a.1⟩
def jk(s:List Ask)(f:(TupT fam [.st 5]→Option Bool))(t:Int):Option (Int ⊕ (Int ⊕ Unit)):=
 bif decide (t<(s.length:Int))then
 (idx s t).bind λx=>
 (f (x,())).bind λr=>
 bif r then
  some (.inr (.inl t))
 else
  some (.inl (w64 (t+1)))
 else
 some (.inr (.inr ()))
def gf(s:List Ask)(f:(TupT fam [.st 5]→Option Bool)):Option Int:=
 (loop (jk s f) 0).bind λq0=>
 match q0 with
 | .inl q=>
 some q
 | .inr _=>
 some (-1)
def h207:Hint:=(.s .z (.s (.s .z (.b (.l [(8,.v (.int .i64) [])] [4,5,8] [(1,[(4,.v (.int .i64) [])]),(2,[])] .z))) .z))
def sp207:Spec fam:=⟨[.v (.slice (.st 5)) [],.fn [.st 5] .bool],[.v (.int .i64) []],λa=>gf a.1 a.2.1⟩
def sg(a:Ask)(p:Int):Option Bool:=
 some (a.Prio == p)
def h346:Hint:=.z
def sp346:Spec fam:=⟨[.v (.st 5) [],.rp (.int .i64)],[.v .bool []],λa=>sg a.1 a.2.1⟩
def tH(l:List Ask)(prio:Int):Option Int:=
 (gf l (λa'=>sg a'.1 prio)).bind λx=>
 some x
def h319:Hint:=.z
def sp319:Spec fam:=⟨[.v (.slice (.st 5)) [],.v (.int .i64) []],[.v (.int .i64) []],λa=>tH a.1 a.2.1⟩
def n7(s:List Ask)(i:Int)(j:Int):Option (List Ask):=del s i j
def sp320:Spec fam:=⟨[.v (.slice (.st 5)) [0],.v (.int .i64) [],.v (.int .i64) []],[.v (.slice (.st 5)) [0]],λa=>n7 a.1 a.2.1 a.2.2.1⟩
def oP(l:List Ask)(prio:Int):Option (List Ask×Bool):=
 (nM l).bind λout=>
 (tH out prio).bind λi=>
 bif decide (i<0)then
 some (out,false)
 else
 (inb i out.length).bind λi1=>
 (out[i1]?).bind λx=>
 (inb i (List.set out i1 (⟨x.Prio,x.Label,⟨x.Size.Mem,x.Size.Cores⟩,x.Count,x.Node,x.Rack,0⟩:Ask)).length).bind λi2=>
 ((List.set out i1 (⟨x.Prio,x.Label,⟨x.Size.Mem,x.Size.Cores⟩,x.Count,x.Node,x.Rack,0⟩:Ask))[i2]?).bind λx1=>
 (inb i (List.set out i1 (⟨x.Prio,x.Label,⟨x.Size.Mem,x.Size.Cores⟩,x.Count,x.Node,x.Rack,0⟩:Ask)).length).bind λi3=>
 ((List.set out i1 (⟨x.Prio,x.Label,⟨x.Size.Mem,x.Size.Cores⟩,x.Count,x.Node,x.Rack,0⟩:Ask))[i3]?).bind λx2=>
 (
  (inb i (List.set (List.set out i1 (⟨x.Prio,x.Label,⟨x.Size.Mem,x.Size.Cores⟩,x.Count,x.Node,x.Rack,0⟩:Ask)) i3 (⟨x2.Prio,x2.Label,⟨x2.Size.Mem,x2.Size.Cores⟩,w64 (x1.Count - 1),x2.Node,x2.Rack,x2.Missed⟩:Ask)).length).bind λi4=>
  ((List.set (List.set out i1 (⟨x.Prio,x.Label,⟨x.Size.Mem,x.Size.Cores⟩,x.Count,x.Node,x.Rack,0⟩:Ask)) i3 (⟨x2.Prio,x2.Label,⟨x2.Size.Mem,x2.Size.Cores⟩,w64 (x1.Count - 1),x2.Node,x2.Rack,x2.Missed⟩:Ask))[i4]?).bind λx3=>
  bif decide (x3.Count≤0)then
  (n7 (List.set (List.set out i1 (⟨x.Prio,x.Label,⟨x.Size.Mem,x.Size.Cores⟩,x.Count,x.Node,x.Rack,0⟩:Ask)) i3 (⟨x2.Prio,x2.Label,⟨x2.Size.Mem,x2.Size.Cores⟩,w64 (x1.Count - 1),x2.Node,x2.Rack,x2.Missed⟩:Ask)) i (w64 (i+1))).bind λout1=>
  some out1
  else
  some (List.set (List.set out i1 (⟨x.Prio,x.Label,⟨x.Size.Mem,x.Size.Cores⟩,x.Count,x.Node,x.Rack,0⟩:Ask)) i3 (⟨x2.Prio,x2.Label,⟨x2.Size.Mem,x2.Size.Cores⟩,w64 (x1.Count - 1),x2.Node,x2.Rack,x2.Missed⟩:Ask))).bind λout2=>
 some (out2,true)
def h280:Hint:=(.s .z (.s .z (.s .z (.s .z (.s .z (.s .z (.s (.j [6] [(0,[(6,.v (.slice (.st 5)) [0])])] .z) .z)))))))
def sp280:Spec fam:=⟨[.v (.slice (.st 5)) [],.v (.int .i64) []],[.v (.slice (.st 5)) [0],.v .bool []],λa=>oP a.1 a.2.1⟩
def vV(s:List Cont)(i:Int)(v:List Cont):Option (List Cont):=
 (inS i (s.length:Int) s.length).bind λp=>
 bif(v.length:Int) == 0 then
 some s
 else
 bif i == (s.length:Int)then
  (app 72 s v).bind λl=>
  some l
 else
  none
def lQ(s:List Cont)(i:Int)(v:List Cont):Option (List Cont):=ins s i v
def h281:Hint:=.z
def sp281:Spec fam:=⟨[.v (.slice (.st 7)) [0],.v (.int .i64) [],.v (.slice (.st 7)) [0]],[.v (.slice (.st 7)) [0]],λa=>lQ a.1 a.2.1 a.2.2.1⟩
def Ev:Spec fam:=⟨[.v (.slice (.st 7)) [0],.v (.int .i64) [],.v (.slice (.st 7)) [0]],[.v (.slice (.st 7)) [0]],λa=>vV a.1 a.2.1 a.2.2.1⟩
def gP(t:Attempt)(x2:State)(k:Int):Option (Int ⊕ Int):=
 (
 bif decide (k<(x2.Conts.length:Int))then
  (inb k x2.Conts.length).bind λi=>
  (x2.Conts[i]?).bind λx3=>
  some (decide (x3.Id<(w64 ((shlK .i64 t.s.Epoch 20)+(w64 (t.s.Seq+1))))))
 else
  some false).bind λq=>
 bif q then
 some (.inl (w64 (k+1)))
 else
 some (.inr k)
def cQ(t:Attempt)(a:App)(x:Ask):Option (Cont×Attempt):=
 (oP a.Asks x.Prio).bind λx1=>
 (
 bif a.State == 1 then
  some (⟨a.Id,2,a.Queue,a.User,a.Prio,⟨a.Master.Mem,a.Master.Cores⟩,[],t.s.Now,0,a.Grants,a.Kills,a.Told,a.Lost⟩:App)
 else
  (app 8 a.Grants [w64 ((shlK .i64 t.s.Epoch 20)+(w64 (t.s.Seq+1)))]).bind λl=>
  some (⟨a.Id,a.State,a.Queue,a.User,a.Prio,⟨a.Master.Mem,a.Master.Cores⟩,x1.1,a.Seen,a.Beat,l,a.Kills,a.Told,a.Lost⟩:App)).bind λa1=>
 (ng (⟨⟨t.s.Conf.Labels,t.s.Conf.Queues⟩,t.s.Nodes,t.s.Apps,t.s.Conts,t.s.Slots,t.s.Plans,t.s.Now,t.s.Epoch,w64 (t.s.Seq+1)⟩:State) a1).bind λx2=>
 (loop (gP t x2) 0).bind λk1=>
 (lQ x2.Conts k1 [(⟨w64 ((shlK .i64 t.s.Epoch 20)+(w64 (t.s.Seq+1))),a.Id,t.n.Id,⟨x.Size.Mem,x.Size.Cores⟩,x.Prio,x.Label,a.State == 1,0⟩:Cont)]).bind λx4=>
 some ((⟨w64 ((shlK .i64 t.s.Epoch 20)+(w64 (t.s.Seq+1))),a.Id,t.n.Id,⟨x.Size.Mem,x.Size.Cores⟩,x.Prio,x.Label,a.State == 1,0⟩:Cont),(⟨⟨⟨x2.Conf.Labels,x2.Conf.Queues⟩,x2.Nodes,x2.Apps,x4,x2.Slots,x2.Plans,x2.Now,x2.Epoch,x2.Seq⟩,⟨t.n.Id,t.n.Label,t.n.Rack,⟨t.n.Cap.Mem,t.n.Cap.Cores⟩,t.n.Seen,t.n.Beat,t.n.Up⟩,⟨t.free.Mem,t.free.Cores⟩⟩:Attempt))
def h241:Hint:=(.s .z (.s .z (.s .z (.s .z (.s (.j [1,4] [(0,[(4,.box (.st 6) [7,10,11,12,13])])] .z) (.s .z (.s .z (.s (.b (.l [(8,.v (.int .i64) [])] [8,104] [(2,[(8,.v (.int .i64) [])])] (.s (.s (.j [] [(0,[(104,.v .bool [])])] .z) .z) .z))) .z))))))))
def sp241:Spec fam:=⟨[.box (.st 19) [0,2,4,5,6],.v (.st 6) [7,10,11,12,13],.v (.st 5) []],[.v (.st 7) []],λa=>cQ a.1 a.2.1 a.2.2.1⟩
def dl(t:Attempt):Option (Int×Cont×Bool×Attempt):=
 (lu t.s.Slots (λa'=>none)).bind λi=>
 bif decide (i<0)then
 some (0,(⟨0,0,0,⟨0,0⟩,0,0,false,0⟩:Cont),false,t)
 else
 (inb i t.s.Slots.length).bind λi1=>
 (t.s.Slots[i1]?).bind λx=>
 (gw t.s x.App).bind λx1=>
 none
def h201:Hint:=.z
def sp201:Spec fam:=⟨[.box (.st 19) [0,2,4,5,6]],[.v (.int .i64) [],.v (.st 7) [],.v .bool []],λa=>dl a.1⟩
def k_(s:List Load)(f:(TupT fam [.st 15,.st 15]→Option Int)):Option (List Load):=sortG (F:=fam) (.st 15) f s
def sp348:Spec fam:=⟨[.row (.st 15) false,.fn [.st 15,.st 15] (.int .i64)],[],λa=>k_ a.1 a.2.1⟩
def ga(_a0:Load)(_a1:Load):Option Int:=none
def sp349:Spec fam:=⟨[.v (.st 15) [],.v (.st 15) []],[.v (.int .i64) []],λa=>ga a.1 a.2.1⟩
def rh(x4:List Load)(t1:List (List UInt8)×Int):Option ((List (List UInt8)×Int) ⊕ List (List UInt8)):=
 bif decide (t1.2<(x4.length:Int))then
 (inb t1.2 x4.length).bind λi1=>
 (x4[i1]?).bind λx5=>
 (inS t1.2 (t1.1.length:Int) t1.1.length).bind λp=>
 some (.inl (cpy t1.1 p.1 p.2 [x5.path],w64 (t1.2+1)))
 else
 some (.inr t1.1)
def md(s:State)(label:Int)(x:List (List UInt8))(t:List Load×Int):Option ((List Load×Int) ⊕ List Load):=
 bif decide (t.2<(x.length:Int))then
 (inb t.2 x.length).bind λi=>
 (x[i]?).bind λx1=>
 (gN s x1 label).bind λx2=>
 (fD s x1 label).bind λx3=>
 (app 48 t.1 [(⟨x1,⟨x2.Mem,x2.Cores⟩,⟨x3.Mem,x3.Cores⟩⟩:Load)]).bind λl=>
 some (.inl (l,w64 (t.2+1)))
 else
 some (.inr t.1)
def mF(s:State)(path:List UInt8)(label:Int):Option (List (List UInt8)):=
 (iS s.Conf path).bind λx=>
 (loop (md s label x) ([],0)).bind λl1=>
 (k_ l1 (λa'=>ga a'.1 a'.2.1)).bind λx4=>
 (mkl 16 (x4.length:Int) (x4.length:Int) []).bind λl2=>
 (loop (rh x4) (l2,0)).bind λout=>
 some out
def h323:Hint:=(.s .z (.s .z (.s (.s .z (.b (.l [(7,.v (.slice (.st 15)) [0]),(18,.v (.int .i64) [])] [7,9,18,19,20,21,22,23,24,25,26,27,28,29,30,31,32,33,34,35] [(2,[(7,.v (.slice (.st 15)) [0])])] .z))) (.s .z (.s .z (.s (.s .z (.b (.l [(10,.row .str false),(43,.v (.int .i64) [])] [10,11,12,43] [(4,[(10,.row .str false)])] .z))) .z))))))
def sp323:Spec fam:=⟨[.v (.st 10) [],.v .str [],.v (.int .i64) []],[.v (.slice (.str)) [0]],λa=>mF a.1 a.2.1 a.2.2.1⟩
def oj(s:State)(label:Int)(deep:Int)(self:State→(List UInt8)→Int→Int→Option (List (List UInt8)))(kids:List (List UInt8))(t:List (List UInt8)×Int):Option ((List (List UInt8)×Int) ⊕ List (List UInt8)):=
 bif decide (t.2<(kids.length:Int))then
 (inb t.2 kids.length).bind λi=>
 (kids[i]?).bind λx=>
 (self s x label (w64 (deep+1))).bind λx1=>
 (app 16 t.1 x1).bind λl=>
 some (.inl (l,w64 (t.2+1)))
 else
 some (.inr t.1)
def mb(self:State→(List UInt8)→Int→Int→Option (List (List UInt8)))(s:State)(path:List UInt8)(label:Int)(deep:Int):Option (List (List UInt8)):=
 (mF s path label).bind λkids=>
 (
 bif(kids.length:Int) == 0 then
  some true
 else
  some (decide (deep>4))).bind λq=>
 bif q then
 some [path]
 else
 (loop (oj s label deep self kids) ([],0)).bind λout=>
 some out
def fA:Nat→State→(List UInt8)→Int→Int→Option (List (List UInt8))
 | 0=>λ_ _ _ _=>none
 | n+1=>mb (fA n)
def la(a0:State)(a1:List UInt8)(a2:Int)(a3:Int):Option (List (List UInt8)):=fA 64 a0 a1 a2 a3
def h282:Hint:=(.s .z (.s .z (.s (.s (.j [17,18,19,20,21,22,23] [(0,[(23,.v .bool [])])] .z) .z) (.s .z (.s (.s .z (.b (.l [(10,.v (.slice (.str)) [0]),(28,.v (.int .i64) [])] [10,12,28] [(2,[(10,.v (.slice (.str)) [0])])] .z))) .z)))))
def sp282:Spec fam:=⟨[.v (.st 10) [],.v .str [],.v (.int .i64) [],.v (.int .i64) []],[.v (.slice (.str)) [0]],λa=>la a.1 a.2.1 a.2.2.1 a.2.2.2.1⟩
def F1(n:Nat):Spec fam:=⟨[.v (.st 10) [],.v .str [],.v (.int .i64) [],.v (.int .i64) []],[.v (.slice (.str)) [0]],λa=>fA n a.1 a.2.1 a.2.2.1 a.2.2.2.1⟩
def jz(s:State)(label:Int):Option (List (List UInt8)):=
 (la s ([114,111,111,116]:List UInt8) label 1).bind λx=>
 some x
def h242:Hint:=.z
def sp242:Spec fam:=⟨[.v (.st 10) [],.v (.int .i64) []],[.v (.slice (.str)) [0]],λa=>jz a.1 a.2.1⟩
def oS(a:Int)(cmp:(TupT fam [.st 6,.st 6]→Option Int))(t1:List App×Int):Option ((List App×Int) ⊕ List App):=
 (
 bif decide (t1.2>a)then
  (inb t1.2 t1.1.length).bind λi=>
  (t1.1[i]?).bind λx=>
  (inb (w64 (t1.2 - 1)) t1.1.length).bind λi1=>
  (t1.1[i1]?).bind λx1=>
  (cmp (x,x1,())).bind λr=>
  some (decide (r<0))
 else
  some false).bind λq=>
 bif q then
 (inb (w64 (t1.2 - 1)) t1.1.length).bind λi2=>
 (t1.1[i2]?).bind λx2=>
 (inb t1.2 t1.1.length).bind λi3=>
 (t1.1[i3]?).bind λx3=>
 (inb t1.2 t1.1.length).bind λi4=>
 (t1.1[i4]?).bind λx4=>
 (inb (w64 (t1.2 - 1)) (List.set t1.1 i4 x2).length).bind λi5=>
 ((List.set t1.1 i4 x2)[i5]?).bind λx5=>
 some (.inl (List.set (List.set t1.1 i4 x2) i5 x3,w64 (t1.2 - 1)))
 else
 some (.inr t1.1)
def jO(a:Int)(b:Int)(cmp:(TupT fam [.st 6,.st 6]→Option Int))(t:List App×Int):Option ((List App×Int) ⊕ List App):=
 bif decide (t.2<b)then
 (loop (oS a cmp) (t.1,t.2)).bind λdata1=>
 some (.inl (data1,w64 (t.2+1)))
 else
 some (.inr t.1)
def gj(data:List App)(a:Int)(b:Int)(cmp:(TupT fam [.st 6,.st 6]→Option Int)):Option (List App):=
 (loop (jO a b cmp) (data,w64 (a+1))).bind λdata2=>
 some data2
def h368:Hint:=(.s .z (.b (.l [(0,.row (.st 6) false),(8,.v (.int .i64) [])] [0,8,9,34] [(2,[(0,.row (.st 6) false)])] (.s .z (.s (.b (.s .z (.b (.l [(0,.row (.st 6) false),(9,.v (.int .i64) [])] [0,9,34] [(4,[(0,.row (.st 6) false)])] (.s (.s (.j [] [(0,[(34,.v .bool [])])] .z) .z) .z))))) .z)))))
def sp368:Spec fam:=⟨[.row (.st 6) false,.v (.int .i64) [],.v (.int .i64) [],.fn [.st 6,.st 6] (.int .i64)],[],λa=>gj a.1 a.2.1 a.2.2.1 a.2.2.2.1⟩
def vP(a:Int)(b:Int)(n:Int)(t:List App×Int):Option ((List App×Int) ⊕ List App):=
 bif decide (t.2<n)then
 (inb (w64 (b+t.2)) t.1.length).bind λi=>
 (t.1[i]?).bind λx=>
 (inb (w64 (a+t.2)) t.1.length).bind λi1=>
 (t.1[i1]?).bind λx1=>
 (inb (w64 (a+t.2)) t.1.length).bind λi2=>
 (t.1[i2]?).bind λx2=>
 (inb (w64 (b+t.2)) (List.set t.1 i2 x).length).bind λi3=>
 ((List.set t.1 i2 x)[i3]?).bind λx3=>
 some (.inl (List.set (List.set t.1 i2 x) i3 x1,w64 (t.2+1)))
 else
 some (.inr t.1)
def jw(data:List App)(a:Int)(b:Int)(n:Int)(cmp:(TupT fam [.st 6,.st 6]→Option Int)):Option (List App):=
 (loop (vP a b n) (data,0)).bind λdata1=>
 some data1
def h397:Hint:=(.s .z (.b (.l [(0,.row (.st 6) false),(10,.v (.int .i64) [])] [0,10] [(2,[(0,.row (.st 6) false)])] .z)))
def sp397:Spec fam:=⟨[.row (.st 6) false,.v (.int .i64) [],.v (.int .i64) [],.v (.int .i64) [],.fn [.st 6,.st 6] (.int .i64)],[],λa=>jw a.1 a.2.1 a.2.2.1 a.2.2.2.1 a.2.2.2.2.1⟩
def vM(m:Int)(cmp:(TupT fam [.st 6,.st 6]→Option Int))(t:List App×Int×Int):Option ((List App×Int×Int) ⊕ ((List App×Int))):=
 bif t.2.1 != t.2.2 then
 bif decide (t.2.1>t.2.2)then
  (jw t.1 (w64 (m - t.2.1)) m t.2.2 cmp).bind λx=>
  let i:=w64 (t.2.1 - t.2.2)
  some (.inl (x,i,t.2.2))
 else
  (jw t.1 (w64 (m - t.2.1)) (w64 ((w64 (m+t.2.2)) - t.2.1)) t.2.1 cmp).bind λx1=>
  let j:=w64 (t.2.2 - t.2.1)
  some (.inl (x1,t.2.1,j))
 else
 some (.inr (t.1,t.2.1))
def sK(data:List App)(a:Int)(m:Int)(b:Int)(cmp:(TupT fam [.st 6,.st 6]→Option Int)):Option (List App):=
 (loop (vM m cmp) (data,w64 (m - a),w64 (b - m))).bind λq=>
 (jw q.1 (w64 (m - q.2)) m q.2 cmp).bind λx2=>
 some x2
def h388:Hint:=(.s .z (.s .z (.s (.b (.l [(0,.row (.st 6) false),(10,.v (.int .i64) []),(11,.v (.int .i64) [])] [0,10,11] [(2,[(0,.row (.st 6) false),(10,.v (.int .i64) [])])] .z)) .z)))
def sp388:Spec fam:=⟨[.row (.st 6) false,.v (.int .i64) [],.v (.int .i64) [],.v (.int .i64) [],.fn [.st 6,.st 6] (.int .i64)],[],λa=>sK a.1 a.2.1 a.2.2.1 a.2.2.2.1 a.2.2.2.2.1⟩
def tU(data:List App)(cmp:(TupT fam [.st 6,.st 6]→Option Int))(p:Int)(t4:Int×Int):Option ((Int×Int) ⊕ Int):=
 bif decide (t4.1<t4.2)then
 let c:=w64 (shrK .u64 (IntKind.u64.wrap (w64 (t4.1+t4.2))) 1)
 (inb (w64 (p - c)) data.length).bind λi14=>
 (data[i14]?).bind λx12=>
 (inb c data.length).bind λi15=>
 (data[i15]?).bind λx13=>
 (cmp (x12,x13,())).bind λr2=>
 bif ! (decide (r2<0))then
  some (.inl (w64 (c+1),t4.2))
 else
  some (.inl (t4.1,c))
 else
 some (.inr t4.1)
def tO(i9:Int)(t3:List App×Int):Option ((List App×Int) ⊕ List App):=
 bif decide (t3.2>i9)then
 (inb (w64 (t3.2 - 1)) t3.1.length).bind λi10=>
 (t3.1[i10]?).bind λx8=>
 (inb t3.2 t3.1.length).bind λi11=>
 (t3.1[i11]?).bind λx9=>
 (inb t3.2 t3.1.length).bind λi12=>
 (t3.1[i12]?).bind λx10=>
 (inb (w64 (t3.2 - 1)) (List.set t3.1 i12 x8).length).bind λi13=>
 ((List.set t3.1 i12 x8)[i13]?).bind λx11=>
 some (.inl (List.set (List.set t3.1 i12 x8) i13 x9,w64 (t3.2 - 1)))
 else
 some (.inr t3.1)
def tX(data:List App)(m:Int)(cmp:(TupT fam [.st 6,.st 6]→Option Int))(t2:Int×Int):Option ((Int×Int) ⊕ Int):=
 bif decide (t2.1<t2.2)then
 let h1:=w64 (shrK .u64 (IntKind.u64.wrap (w64 (t2.1+t2.2))) 1)
 (inb m data.length).bind λi7=>
 (data[i7]?).bind λx6=>
 (inb h1 data.length).bind λi8=>
 (data[i8]?).bind λx7=>
 (cmp (x6,x7,())).bind λr1=>
 bif ! (decide (r1<0))then
  some (.inl (w64 (h1+1),t2.2))
 else
  some (.inl (t2.1,h1))
 else
 some (.inr t2.1)
def tN(i2:Int)(t1:List App×Int):Option ((List App×Int) ⊕ List App):=
 bif decide (t1.2<(w64 (i2 - 1)))then
 (inb (w64 (t1.2+1)) t1.1.length).bind λi3=>
 (t1.1[i3]?).bind λx2=>
 (inb t1.2 t1.1.length).bind λi4=>
 (t1.1[i4]?).bind λx3=>
 (inb t1.2 t1.1.length).bind λi5=>
 (t1.1[i5]?).bind λx4=>
 (inb (w64 (t1.2+1)) (List.set t1.1 i5 x2).length).bind λi6=>
 ((List.set t1.1 i5 x2)[i6]?).bind λx5=>
 some (.inl (List.set (List.set t1.1 i5 x2) i6 x3,w64 (t1.2+1)))
 else
 some (.inr t1.1)
def tP(data:List App)(a:Int)(cmp:(TupT fam [.st 6,.st 6]→Option Int))(t:Int×Int):Option ((Int×Int) ⊕ Int):=
 bif decide (t.1<t.2)then
 let h:=w64 (shrK .u64 (IntKind.u64.wrap (w64 (t.1+t.2))) 1)
 (inb h data.length).bind λi=>
 (data[i]?).bind λx=>
 (inb a data.length).bind λi1=>
 (data[i1]?).bind λx1=>
 (cmp (x,x1,())).bind λr=>
 bif decide (r<0)then
  some (.inl (w64 (h+1),t.2))
 else
  some (.inl (t.1,h))
 else
 some (.inr t.1)
def w7(self:(List App)→Int→Int→Int→((TupT fam [.st 6,.st 6]→Option Int))→Option (List App))(data:List App)(a:Int)(m:Int)(b:Int)(cmp:(TupT fam [.st 6,.st 6]→Option Int)):Option (List App):=
 bif(w64 (m - a)) == 1 then
 (loop (tP data a cmp) (m,b)).bind λi2=>
 (loop (tN i2) (data,a)).bind λdata1=>
 some data1
 else
 bif(w64 (b - m)) == 1 then
  (loop (tX data m cmp) (a,m)).bind λi9=>
  (loop (tO i9) (data,m)).bind λdata2=>
  some data2
 else
  let mid:=w64 (shrK .u64 (IntKind.u64.wrap (w64 (a+b))) 1)
  (
  bif decide (m>mid)then
   let start:=w64 ((w64 (mid+m)) - b)
   some (start,mid)
  else
   some (a,m)).bind λq=>
  let p:=w64 ((w64 (mid+m)) - 1)
  (loop (tU data cmp p) (q.1,q.2)).bind λstart1=>
  let end_:=w64 ((w64 (mid+m)) - start1)
  (
  (
   bif decide (start1<m)then
   some (decide (m<end_))
   else
   some false).bind λq1=>
  bif q1 then
   (sK data start1 m end_ cmp).bind λx14=>
   some x14
  else
   some data).bind λdata3=>
  (
  (
   bif decide (a<start1)then
   some (decide (start1<mid))
   else
   some false).bind λq2=>
  bif q2 then
   (self data3 a start1 mid cmp).bind λx15=>
   some x15
  else
   some data3).bind λdata4=>
  (
  bif decide (mid<end_)then
   some (decide (end_<b))
  else
   some false).bind λq3=>
  bif q3 then
  (self data4 mid end_ b cmp).bind λx16=>
  some x16
  else
  some data4
def ku:Nat→(List App)→Int→Int→Int→((TupT fam [.st 6,.st 6]→Option Int))→Option (List App)
 | 0=>λ_ _ _ _ _=>none
 | n+1=>w7 (ku n)
def jJ(a0:List App)(a1:Int)(a2:Int)(a3:Int)(a4:(TupT fam [.st 6,.st 6]→Option Int)):Option (List App):=ku 64 a0 a1 a2 a3 a4
def h369:Hint:=(.s (.s .z (.c (.s .z (.s .z (.s (.b (.l [(10,.v (.int .i64) []),(11,.v (.int .i64) [])] [10,11,12] [(2,[(10,.v (.int .i64) [])])] .z)) (.s (.s .z (.b (.l [(0,.row (.st 6) false),(13,.v (.int .i64) [])] [0,13] [(4,[(0,.row (.st 6) false)])] .z))) .z)))) .z)) (.s (.s .z (.c (.s .z (.s .z (.s (.b (.l [(14,.v (.int .i64) []),(15,.v (.int .i64) [])] [14,15,16] [(6,[(14,.v (.int .i64) [])])] .z)) (.s (.s .z (.b (.l [(0,.row (.st 6) false),(17,.v (.int .i64) [])] [0,17] [(8,[(0,.row (.st 6) false)])] .z))) .z)))) .z)) (.s .z (.s .z (.s .z (.s (.j [20,21] [(0,[(20,.v (.int .i64) []),(21,.v (.int .i64) [])])] .z) (.s .z (.s (.b (.l [(20,.v (.int .i64) []),(21,.v (.int .i64) [])] [20,21,23] [(10,[(20,.v (.int .i64) [])])] .z)) (.s .z (.s (.j [0,185] [(0,[(0,.row (.st 6) false)])] (.s (.j [] [(0,[(185,.v .bool [])])] .z) .z)) (.s (.j [0,199] [(0,[(0,.row (.st 6) false)])] (.s (.j [] [(0,[(199,.v .bool [])])] .z) .z)) (.s (.j [] [(0,[(213,.v .bool [])])] .z) .z))))))))))))
def sp369:Spec fam:=⟨[.row (.st 6) false,.v (.int .i64) [],.v (.int .i64) [],.v (.int .i64) [],.fn [.st 6,.st 6] (.int .i64)],[],λa=>jJ a.1 a.2.1 a.2.2.1 a.2.2.2.1 a.2.2.2.2.1⟩
def FO(n:Nat):Spec fam:=⟨[.row (.st 6) false,.v (.int .i64) [],.v (.int .i64) [],.v (.int .i64) [],.fn [.st 6,.st 6] (.int .i64)],[],λa=>ku n a.1 a.2.1 a.2.2.1 a.2.2.2.1 a.2.2.2.2.1⟩
def oZ(n:Int)(cmp:(TupT fam [.st 6,.st 6]→Option Int))(t1:List App×Int)(t2:List App×Int×Int):Option ((List App×Int×Int) ⊕ ((List App×Int))):=
 bif decide (t2.2.2≤n)then
 (jJ t2.1 t2.2.1 (w64 (t2.2.1+t1.2)) t2.2.2 cmp).bind λx2=>
 let b:=w64 (t2.2.2+(w64 (2*t1.2)))
 some (.inl (x2,t2.2.2,b))
 else
 some (.inr (t2.1,t2.2.1))
def jA(n:Int)(cmp:(TupT fam [.st 6,.st 6]→Option Int))(t1:List App×Int):Option ((List App×Int) ⊕ List App):=
 bif decide (t1.2<n)then
 (loop (oZ n cmp t1) (t1.1,0,w64 (2*t1.2))).bind λq1=>
 (
  let m:=w64 (q1.2+t1.2)
  bif decide (m<n)then
  (jJ q1.1 q1.2 m n cmp).bind λx3=>
  some x3
  else
  some q1.1).bind λdata1=>
 some (.inl (data1,w64 (t1.2*2)))
 else
 some (.inr t1.1)
def jK(n:Int)(cmp:(TupT fam [.st 6,.st 6]→Option Int))(t:List App×Int×Int):Option ((List App×Int×Int) ⊕ ((List App×Int))):=
 bif decide (t.2.2≤n)then
 (gj t.1 t.2.1 t.2.2 cmp).bind λx=>
 some (.inl (x,t.2.2,w64 (t.2.2+20)))
 else
 some (.inr (t.1,t.2.1))
def jI(data:List App)(n:Int)(cmp:(TupT fam [.st 6,.st 6]→Option Int)):Option (List App):=
 (loop (jK n cmp) (data,0,20)).bind λq=>
 (gj q.1 q.2 n cmp).bind λx1=>
 (loop (jA n cmp) (x1,20)).bind λdata2=>
 some data2
def h350:Hint:=(.s .z (.s .z (.s (.b (.l [(0,.row (.st 6) false),(7,.v (.int .i64) []),(8,.v (.int .i64) [])] [0,7,8] [(2,[(0,.row (.st 6) false),(7,.v (.int .i64) [])])] .z)) (.s .z (.b (.l [(0,.row (.st 6) false),(6,.v (.int .i64) [])] [0,6,7,8,9] [(4,[(0,.row (.st 6) false)])] (.s .z (.b (.s .z (.s (.b (.l [(0,.row (.st 6) false),(7,.v (.int .i64) []),(8,.v (.int .i64) [])] [0,7,8] [(6,[(0,.row (.st 6) false),(7,.v (.int .i64) [])])] .z)) (.s (.j [0,9] [(0,[(0,.row (.st 6) false)])] .z) .z)))))))))))
def sp350:Spec fam:=⟨[.row (.st 6) false,.v (.int .i64) [],.fn [.st 6,.st 6] (.int .i64)],[],λa=>jI a.1 a.2.1 a.2.2.1⟩
def jn(x:List App)(cmp:(TupT fam [.st 6,.st 6]→Option Int)):Option (List App):=
 (jI x (x.length:Int) cmp).bind λx1=>
 some x1
def h324:Hint:=.z
def sp324:Spec fam:=⟨[.row (.st 6) false,.fn [.st 6,.st 6] (.int .i64)],[],λa=>jn a.1 a.2.1⟩
def nh(_a0:App)(_a1:App):Option Int:=none
def sp325:Spec fam:=⟨[.v (.st 6) [],.v (.st 6) []],[.v (.int .i64) []],λa=>nh a.1 a.2.1⟩
def ru(x2:List App)(t1:List Int×Int):Option ((List Int×Int) ⊕ List Int):=
 bif decide (t1.2<(x2.length:Int))then
 (inb t1.2 x2.length).bind λi=>
 (x2[i]?).bind λx3=>
 (inb t1.2 t1.1.length).bind λi1=>
 (t1.1[i1]?).bind λx4=>
 some (.inl (List.set t1.1 i1 x3.Id,w64 (t1.2+1)))
 else
 some (.inr t1.1)
def rq(s:State)(queue:List UInt8)(t:List App×Int):Option ((List App×Int) ⊕ List App):=
 bif decide (t.2<(s.Apps.length:Int))then
 (
  (idx s.Apps t.2).bind λx=>
  (
  (gv x).bind λx1=>
  bif x1 then
   some (x.Queue == queue)
  else
   some false).bind λq=>
  bif q then
  (app 200 t.1 [x]).bind λl=>
  some l
  else
  some t.1).bind λl1=>
 some (.inl (l1,w64 (t.2+1)))
 else
 some (.inr t.1)
def mI(s:State)(queue:List UInt8):Option (List Int):=
 (loop (rq s queue) ([],0)).bind λl2=>
 (jn l2 (λa'=>nh a'.1 a'.2.1)).bind λx2=>
 (mkl 8 (x2.length:Int) (x2.length:Int) 0).bind λl3=>
 (loop (ru x2) (l3,0)).bind λout=>
 some out
def h283:Hint:=(.s .z (.s .z (.s (.s .z (.b (.l [(5,.v (.slice (.st 6)) [0]),(14,.v (.int .i64) [])] [5,7,14,15,16,17,18,19,20,21,22,23,24,25,26,27,28,29,30] [(2,[(5,.v (.slice (.st 6)) [0])])] (.s .z (.s .z (.s (.j [5,7,16,17,18,19,20,21,22,23,24,25,26,27,28,29] [(0,[(5,.v (.slice (.st 6)) [0])])] (.b (.s .z (.s (.j [18,19,20,21,22,23,24,25] [(0,[(25,.v .bool [])])] .z) .z)))) .z)))))) (.s .z (.s .z (.s (.s .z (.b (.l [(8,.row (.int .i64) false),(38,.v (.int .i64) [])] [8,9,10,38] [(4,[(8,.row (.int .i64) false)])] .z))) .z))))))
def sp283:Spec fam:=⟨[.v (.st 10) [],.v .str []],[.v (.slice (.int .i64)) [0]],λa=>mI a.1 a.2.1⟩
def rL(_a0:Attempt)(_a1:App)(_a2:Int):Option App:=none
def sp284:Spec fam:=⟨[.rp (.st 19),.v (.st 6) [],.v (.int .i64) []],[.v (.st 6) []],λa=>rL a.1 a.2.1 a.2.2.1⟩
def rI(_a0:Attempt)(_a1:Int)(_a2:Int):Option Bool:=none
def sp285:Spec fam:=⟨[.rp (.st 19),.v (.int .i64) [],.v (.int .i64) []],[.v .bool []],λa=>rI a.1 a.2.1 a.2.2.1⟩
def dt(first:Bool)(may:(TupT fam [.st 5,.st 4]→Option Bool))(x5:List Ask)(t3:Attempt×Cont×App×Int):Option ((Attempt×Cont×App×Int) ⊕ ((Attempt×Int×Cont) ⊕ (Attempt×Cont))):=
 bif decide (t3.2.2.2<(x5.length:Int))then
 (
  (inb t3.2.2.2 x5.length).bind λi1=>
  (x5[i1]?).bind λx6=>
  (dG t3.1 t3.2.2.1 x6).bind λdue=>
  (
  (fj t3.1 x6).bind λx7=>
  bif ! x7 then
   some true
  else
   bif first then
   some (! due)
   else
   some false).bind λq=>
  bif q then
  some (.inl (t3.1,t3.2.1,t3.2.2.1))
  else
  (may (x6,t3.1.n,())).bind λr=>
  bif ! r then
   bif first == due then
   none
   else
   some (.inl (t3.1,t3.2.1,t3.2.2.1))
  else
   (dh t3.1 t3.2.2.1 x6).bind λx8=>
   bif ! x8 then
   some (.inl (t3.1,t3.2.1,t3.2.2.1))
   else
   (fU t3.1 x6).bind λx9=>
   bif x9 then
    (cQ t3.1 t3.2.2.1 x6).bind λx10=>
    some (.inr (x10.2,1,x10.1))
   else
    bif first then
    none
    else
    some (.inl (t3.1,t3.2.1,t3.2.2.1)):Option ((Attempt×Cont×App) ⊕ (Attempt×Int×Cont))).bind λq0=>
 match q0 with
 | .inl q1=>
  some (.inl (q1.1,q1.2.1,q1.2.2,w64 (t3.2.2.2+1)))
 | .inr q2=>
  some (.inr (.inl (q2.1,q2.2.1,q2.2.2)))
 else
 some (.inr (.inr (t3.1,t3.2.1)))
def dz(first:Bool)(may:(TupT fam [.st 5,.st 4]→Option Bool))(x1:List Int)(t2:Attempt×Cont×Int):Option ((Attempt×Cont×Int) ⊕ ((Attempt×Int×Cont) ⊕ (Attempt×Cont) ⊕ (Attempt×Cont))):=
 bif decide (t2.2.2<(x1.length:Int))then
 (
  (inb t2.2.2 x1.length).bind λi=>
  (x1[i]?).bind λx2=>
  (gw t2.1.s x2).bind λx3=>
  bif ! x3.2 then
  some (.inr (.inr (t2.1,t2.2.1)))
  else
  (dm t2.1 x3.1).bind λx4=>
  bif ! x4 then
   some (.inl (t2.1,t2.2.1))
  else
   (nC x3.1.Asks).bind λx5=>
   (loop (dt first may x5) (t2.1,t2.2.1,x3.1,0)).bind λq0=>
   match q0 with
   | .inl q3=>
   some (.inr (.inl (q3.1,q3.2.1,q3.2.2)))
   | .inr q4=>
   some (.inl (q4.1,q4.2)):Option ((Attempt×Cont) ⊕ (Attempt×Int×Cont) ⊕ (Attempt×Cont))).bind λq0=>
 match q0 with
 | .inl q5=>
  some (.inl (q5.1,q5.2,w64 (t2.2.2+1)))
 | .inr (.inl q6)=>
  some (.inr (.inl (q6.1,q6.2.1,q6.2.2)))
 | .inr (.inr q7)=>
  some (.inr (.inr (.inl (q7.1,q7.2))))
 else
 some (.inr (.inr (.inr (t2.1,t2.2.1))))
def dv(leaves:List (List UInt8))(first:Bool)(may:(TupT fam [.st 5,.st 4]→Option Bool))(t1:Attempt×Cont×Int):Option ((Attempt×Cont×Int) ⊕ ((Attempt×Int×Cont) ⊕ (Attempt×Cont))):=
 bif decide (t1.2.2<(leaves.length:Int))then
 (
  (idx leaves t1.2.2).bind λx=>
  (mI t1.1.s x).bind λx1=>
  (loop (dz first may x1) (t1.1,t1.2.1,0)).bind λq0=>
  match q0 with
  | .inl q8=>
  some (.inr (q8.1,q8.2.1,q8.2.2))
  | .inr (.inl q9)=>
  some (.inl (q9.1,q9.2))
  | .inr (.inr q10)=>
  some (.inl (q10.1,q10.2)):Option ((Attempt×Cont) ⊕ (Attempt×Int×Cont))).bind λq0=>
 match q0 with
 | .inl q11=>
  some (.inl (q11.1,q11.2,w64 (t1.2.2+1)))
 | .inr q12=>
  some (.inr (.inl (q12.1,q12.2.1,q12.2.2)))
 else
 some (.inr (.inr (t1.1,t1.2.1)))
def bQ(t:Attempt)(leaves:List (List UInt8))(first:Bool)(may:(TupT fam [.st 5,.st 4]→Option Bool)):Option (Int×Cont×Attempt):=
 (loop (dv leaves first may) (t,(⟨0,0,0,⟨0,0⟩,0,0,false,0⟩:Cont),0)).bind λq0=>
 match q0 with
 | .inl q13=>
 some (q13.2.1,q13.2.2,q13.1)
 | .inr q14=>
 some (0,(⟨0,0,0,⟨0,0⟩,0,0,false,0⟩:Cont),q14.1)
def h243:Hint:=(.s .z (.b (.s .z (.s .z (.s (.s .z (.b (.l [(0,.box (.st 19) [0,2,4,5,6]),(9,.box (.st 7) []),(24,.v (.int .i64) [])] [0,8,9,12,14,15,16,18,19,24,25,26,27,28,29,30,31,32,33,34,35,36,37,38,39,40,41,42,43,44,45,46,47,48,49,50,51,52,53,54,55,56,57,58,66] [(1,[(0,.box (.st 19) [0,2,4,5,6]),(8,.v (.int .i64) []),(9,.box (.st 7) [])]),(2,[(0,.box (.st 19) [0,2,4,5,6]),(9,.box (.st 7) [])])] (.s .z (.s .z (.s (.j [0,8,9,12,14,15,16,18,19,26,27,28,29,30,31,32,33,34,35,36,37,38,39,40,41,42,43,44,45,46,47,48,49,50,51,52,53,54,55,56,57,58,66] [(0,[(0,.box (.st 19) [0,2,4,5,6]),(9,.box (.st 7) [])]),(1,[(0,.box (.st 19) [0,2,4,5,6]),(8,.v (.int .i64) []),(9,.box (.st 7) [])])] (.b (.s .z (.s .z (.b (.l [(0,.box (.st 19) [0,2,4,5,6]),(9,.box (.st 7) []),(35,.v (.int .i64) [])] [0,8,9,14,15,16,18,19,31,35,36,37,38,39,40,41,42,43,44,45,46,47,48,49,50,51,52,53,54,55,56,57,58,66] [(1,[(0,.box (.st 19) [0,2,4,5,6]),(8,.v (.int .i64) []),(9,.box (.st 7) [])]),(3,[(0,.box (.st 19) [0,2,4,5,6]),(9,.box (.st 7) [])]),(4,[(0,.box (.st 19) [0,2,4,5,6]),(9,.box (.st 7) [])])] (.s .z (.s .z (.s (.j [0,8,9,14,15,16,18,19,37,38,39,40,41,42,43,44,45,46,47,48,49,50,51,52,53,54,55,56,57,58,66] [(0,[(0,.box (.st 19) [0,2,4,5,6]),(9,.box (.st 7) [])]),(1,[(0,.box (.st 19) [0,2,4,5,6]),(8,.v (.int .i64) []),(9,.box (.st 7) [])]),(3,[(0,.box (.st 19) [0,2,4,5,6]),(9,.box (.st 7) [])])] (.b (.s .z (.s .z (.s .z (.s .z (.s .z (.b (.l [(0,.box (.st 19) [0,2,4,5,6]),(9,.box (.st 7) []),(15,.box (.st 6) [7,10,11,12,13]),(58,.v (.int .i64) [])] [0,8,9,15,18,19,43,46,51,54,55,58,66] [(1,[(0,.box (.st 19) [0,2,4,5,6]),(8,.v (.int .i64) []),(9,.box (.st 7) [])]),(6,[(0,.box (.st 19) [0,2,4,5,6]),(9,.box (.st 7) [])])] (.s .z (.s .z (.s (.j [0,8,9,15,18,19,66] [(0,[(0,.box (.st 19) [0,2,4,5,6]),(9,.box (.st 7) []),(15,.box (.st 6) [7,10,11,12,13])]),(1,[(0,.box (.st 19) [0,2,4,5,6]),(8,.v (.int .i64) []),(9,.box (.st 7) [])])] (.b (.s .z (.s .z (.b (.s (.j [] [(0,[(66,.v .bool [])])] .z) .z)))))) .z)))))))))))) .z))))))))) .z)))))) .z)))))
def sp243:Spec fam:=⟨[.box (.st 19) [0,2,4,5,6],.v (.slice (.str)) [],.v .bool [],.fn [.st 5,.st 4] .bool],[.v (.int .i64) [],.v (.st 7) []],λa=>bQ a.1 a.2.1 a.2.2.1 a.2.2.2.1⟩
def cy(t:Attempt):Option (Int×Cont×Attempt):=
 (jz t.s t.n.Label).bind λleaves=>
 (bQ t leaves true (λa'=>lj a'.1 a'.2.1)).bind λx=>
 bif x.1 != 0 then
 some (x.1,x.2.1,x.2.2)
 else
 (bQ x.2.2 leaves false (λa'=>lj a'.1 a'.2.1)).bind λx1=>
 some (x1.1,x1.2.1,x1.2.2)
def h202:Hint:=.z
def sp202:Spec fam:=⟨[.box (.st 19) [0,2,4,5,6]],[.v (.int .i64) [],.v (.st 7) []],λa=>cy a.1⟩
def mY(s:State)(node:Int):Option (State×Int×Cont):=
 (c9 s []).bind λx=>
 (fm s node).bind λx1=>
 (
 bif ! x1.2 then
  some true
 else
  bif ! x1.1.Up then
  some true
  else
  bif decide ((s.Conts.length:Int)≥200)then
   some true
  else
   some (decide (s.Seq≥1048575))).bind λq=>
 bif q then
 some (x,0,(⟨0,0,0,⟨0,0⟩,0,0,false,0⟩:Cont))
 else
 (mN s node).bind λx2=>
 (dl (⟨⟨⟨x.Conf.Labels,x.Conf.Queues⟩,x.Nodes,x.Apps,x.Conts,x.Slots,x.Plans,x.Now,x.Epoch,x.Seq⟩,⟨x1.1.Id,x1.1.Label,x1.1.Rack,⟨x1.1.Cap.Mem,x1.1.Cap.Cores⟩,x1.1.Seen,x1.1.Beat,x1.1.Up⟩,⟨x2.Mem,x2.Cores⟩⟩:Attempt)).bind λx3=>
 (
  bif ! x3.2.2.1 then
  (cy x3.2.2.2).bind λx4=>
  some (x4.1,x4.2.1,x4.2.2)
  else
  some (x3.1,x3.2.1,x3.2.2.2)).bind λq1=>
 (c9 q1.2.2.s []).bind λx5=>
 some (x5,q1.1,q1.2.1)
def h169:Hint:=(.s .z (.s .z (.s .z (.s (.s (.j [] [(0,[(37,.v .bool [])])] .z) .z) (.s .z (.s .z (.s (.j [5,6,10] [(0,[(5,.v (.int .i64) []),(6,.box (.st 7) []),(10,.box (.st 19) [0,2,4,5,6])])] .z) .z)))))))
def sp169:Spec fam:=⟨[.v (.st 10) [],.v (.int .i64) []],[.v (.st 10) [0,1001,2,1003,4,5,6],.v (.int .i64) [],.v (.st 7) []],λa=>mY a.1 a.2.1⟩
def kA(node:Int)(t:State×List Cont):Option ((State×List Cont) ⊕ ((State×List Cont))):=
 bif decide ((t.2.length:Int)<3)then
 (mY t.1 node).bind λx1=>
 bif x1.2.1 != 1 then
  some (.inr (x1.1,t.2))
 else
  (app 72 t.2 [x1.2.2]).bind λl=>
  some (.inl (x1.1,l))
 else
 some (.inr (t.1,t.2))
def lh(s:State)(node:Int):Option (State×List Cont):=
 (c9 s []).bind λx=>
 (loop (kA node) (x,[])).bind λq=>
 some (q.1,q.2)
def h120:Hint:=(.s .z (.s .z (.s .z (.s (.b (.l [(2,.box (.st 10) [0,1001,2,1003,4,5,6]),(6,.v (.slice (.st 7)) [0])] [2,6,7,8,9] [(2,[(2,.box (.st 10) [0,1001,2,1003,4,5,6]),(6,.v (.slice (.st 7)) [0])])] .z)) .z))))
def sp120:Spec fam:=⟨[.v (.st 10) [],.v (.int .i64) []],[.v (.st 10) [0,1001,2,1003,4,5,6],.v (.slice (.st 7)) [0]],λa=>lh a.1 a.2.1⟩
def d_(t:Step):Option (Output×Step):=
 (fm t.s t.x.Id).bind λx=>
 (
 bif x.2 then
  bif x.1.Up then
  some (t.x.Beat == x.1.Beat)
  else
  some false
 else
  some false).bind λq=>
 bif q then
 (cw t x.1.Id).bind λx1=>
 some ((⟨0,[],x1,[],0⟩:Output),t)
 else
 (mP t.s t.x.Id t.x.Beat).bind λx2=>
 bif x2.2 != 0 then
  none
 else
  (cw t x.1.Id).bind λx3=>
  (bv t.x.Ids).bind λx4=>
  (br x4 (λa'=>fQ a'.1 x3)).bind λended=>
  (c9 x2.1 ended).bind λx5=>
  (lh x5 x.1.Id).bind λx6=>
  (cw (⟨⟨⟨x6.1.Conf.Labels,x6.1.Conf.Queues⟩,x6.1.Nodes,x6.1.Apps,x6.1.Conts,x6.1.Slots,x6.1.Plans,x6.1.Now,x6.1.Epoch,x6.1.Seq⟩,⟨t.x.Kind,t.x.Id,t.x.Beat,t.x.N,t.x.Text,⟨t.x.Node.Id,t.x.Node.Label,t.x.Node.Rack,⟨t.x.Node.Cap.Mem,t.x.Node.Cap.Cores⟩,t.x.Node.Seen,t.x.Node.Beat,t.x.Node.Up⟩,⟨t.x.App.Id,t.x.App.State,t.x.App.Queue,t.x.App.User,t.x.App.Prio,⟨t.x.App.Master.Mem,t.x.App.Master.Cores⟩,t.x.App.Asks,t.x.App.Seen,t.x.App.Beat,t.x.App.Grants,t.x.App.Kills,t.x.App.Told,t.x.App.Lost⟩,t.x.Asks,t.x.Ids,⟨t.x.Plan.Id,t.x.Plan.Label,t.x.Plan.From,t.x.Plan.Until,⟨t.x.Plan.Need.Mem,t.x.Plan.Need.Cores⟩⟩⟩⟩:Step) x.1.Id).bind λx7=>
  some ((⟨0,[],x7,[],0⟩:Output),(⟨⟨⟨x6.1.Conf.Labels,x6.1.Conf.Queues⟩,x6.1.Nodes,x6.1.Apps,x6.1.Conts,x6.1.Slots,x6.1.Plans,x6.1.Now,x6.1.Epoch,x6.1.Seq⟩,⟨t.x.Kind,t.x.Id,t.x.Beat,t.x.N,t.x.Text,⟨t.x.Node.Id,t.x.Node.Label,t.x.Node.Rack,⟨t.x.Node.Cap.Mem,t.x.Node.Cap.Cores⟩,t.x.Node.Seen,t.x.Node.Beat,t.x.Node.Up⟩,⟨t.x.App.Id,t.x.App.State,t.x.App.Queue,t.x.App.User,t.x.App.Prio,⟨t.x.App.Master.Mem,t.x.App.Master.Cores⟩,t.x.App.Asks,t.x.App.Seen,t.x.App.Beat,t.x.App.Grants,t.x.App.Kills,t.x.App.Told,t.x.App.Lost⟩,t.x.Asks,t.x.Ids,⟨t.x.Plan.Id,t.x.Plan.Label,t.x.Plan.From,t.x.Plan.Until,⟨t.x.Plan.Need.Mem,t.x.Plan.Need.Cores⟩⟩⟩⟩:Step))
def h74:Hint:=(.s .z (.s .z (.s (.s (.j [] [(0,[(36,.v .bool [])])] .z) .z) .z)))
def sp74:Spec fam:=⟨[.box (.st 18) [0,2,4,5,6,7000]],[.v (.st 11) [1,2,3]],λa=>d_ a.1⟩
def oQ(del:(TupT fam [.st 5]→Option Bool))(t:List Ask×Int×Int):Option ((List Ask×Int×Int) ⊕ ((List Ask×Int))):=
 bif decide (t.2.2<(t.1.length:Int))then
 (
  (inb t.2.2 t.1.length).bind λi1=>
  (t.1[i1]?).bind λx=>
  (del (x,())).bind λr=>
  bif ! r then
  (inb t.2.1 t.1.length).bind λi2=>
  (t.1[i2]?).bind λx1=>
  some (List.set t.1 i2 x,w64 (t.2.1+1))
  else
  some (t.1,t.2.1)).bind λq=>
 some (.inl (q.1,q.2,w64 (t.2.2+1)))
 else
 some (.inr (t.1,t.2.1))
def jN(s:List Ask)(del:(TupT fam [.st 5]→Option Bool)):Option (List Ask):=
 (gf s del).bind λi=>
 bif i == (-1)then
 some s
 else
 (loop (oQ del) (s,i,w64 (i+1))).bind λq1=>
 (inS q1.2 (q1.1.length:Int) q1.1.length).bind λp=>
 (inS 0 q1.2 (cpy q1.1 p.1 p.2 (List.replicate p.2 (⟨0,0,⟨0,0⟩,0,0,0,0⟩:Ask))).length).bind λp1=>
 some (List.take p1.2 (cpy q1.1 p.1 p.2 (List.replicate p.2 (⟨0,0,⟨0,0⟩,0,0,0,0⟩:Ask))))
def h172:Hint:=(.s .z (.s .z (.s .z (.s (.s .z (.b (.l [(0,.row (.st 5) false),(5,.v (.int .i64) []),(6,.v (.int .i64) [])] [0,5,6,7] [(2,[(0,.row (.st 5) false),(5,.v (.int .i64) [])])] (.s .z (.s (.j [0,5,7] [(0,[(0,.row (.st 5) false),(5,.v (.int .i64) [])])] .z) .z))))) (.s .z (.s (.r [9998]) .z))))))
def sp172:Spec fam:=⟨[.v (.slice (.st 5)) [0],.fn [.st 5] .bool],[.v (.slice (.st 5)) [0]],λa=>jN a.1 a.2.1⟩
def qy(x:Ask)(p:Ask):Option Bool:=
 some (x.Prio == p.Prio)
def h174:Hint:=.z
def sp174:Spec fam:=⟨[.v (.st 5) [],.rp (.st 5)],[.v .bool []],λa=>qy a.1 a.2.1⟩
def wP(s:List Ask)(i:Int)(v:List Ask):Option (List Ask):=
 (inS i (s.length:Int) s.length).bind λp=>
 bif(v.length:Int) == 0 then
 some s
 else
 bif i == (s.length:Int)then
  (app 64 s v).bind λl=>
  some l
 else
  none
def nt(s:List Ask)(i:Int)(v:List Ask):Option (List Ask):=ins s i v
def h175:Hint:=.z
def sp175:Spec fam:=⟨[.v (.slice (.st 5)) [0],.v (.int .i64) [],.v (.slice (.st 5)) [0]],[.v (.slice (.st 5)) [0]],λa=>nt a.1 a.2.1 a.2.2.1⟩
def FC:Spec fam:=⟨[.v (.slice (.st 5)) [0],.v (.int .i64) [],.v (.slice (.st 5)) [0]],[.v (.slice (.st 5)) [0]],λa=>wP a.1 a.2.1 a.2.2.1⟩
def uc(a:Ask)(out:List Ask)(k:Int):Option (Int ⊕ Int):=
 (
 bif decide (k<(out.length:Int))then
  (inb k out.length).bind λi=>
  (out[i]?).bind λx1=>
  some (decide (x1.Prio<a.Prio))
 else
  some false).bind λq=>
 bif q then
 some (.inl (w64 (k+1)))
 else
 some (.inr k)
def nj(l:List Ask)(a:Ask):Option (List Ask×Int):=
 (nM l).bind λx=>
 (jN x (λa'=>qy a'.1 a)).bind λout=>
 bif a.Count == 0 then
 some (out,0)
 else
 bif decide ((out.length:Int)≥8)then
  some ([],4)
 else
  (loop (uc a out) 0).bind λk1=>
  (nt out k1 [(⟨a.Prio,a.Label,⟨a.Size.Mem,a.Size.Cores⟩,a.Count,a.Node,a.Rack,0⟩:Ask)]).bind λx2=>
  some (x2,0)
def h129:Hint:=(.s .z (.s .z (.s .z (.s .z (.s .z (.s .z (.s (.b (.l [(7,.v (.int .i64) [])] [7,33] [(2,[(7,.v (.int .i64) [])])] (.s (.s (.j [] [(0,[(33,.v .bool [])])] .z) .z) .z))) .z)))))))
def sp129:Spec fam:=⟨[.v (.slice (.st 5)) [],.v (.st 5) []],[.v (.slice (.st 5)) [0],.v (.int .i64) []],λa=>nj a.1 a.2.1⟩
def mM(a:App):Option (List Ask):=
 (nj [] (⟨0,0,⟨a.Master.Mem,a.Master.Cores⟩,1,(-1),(-1),0⟩:Ask)).bind λx=>
 some x.1
def h107:Hint:=.z
def sp107:Spec fam:=⟨[.v (.st 6) []],[.v (.slice (.st 5)) [0]],λa=>mM a.1⟩
def bC(n:Int)(least:Int)(most:Int):Option Bool:=
 bif decide (n≥least)then
 some (decide (n≤most))
 else
 some false
def h121:Hint:=.z
def sp121:Spec fam:=⟨[.v (.int .i64) [],.v (.int .i64) [],.v (.int .i64) []],[.v .bool []],λa=>bC a.1 a.2.1 a.2.2.1⟩
def ta(l:List App)(t:Int×Int):Option ((Int×Int) ⊕ Int):=
 bif decide (t.2<(l.length:Int))then
 (
  (idx l t.2).bind λx=>
  (gv x).bind λx1=>
  bif x1 then
  some (w64 (t.1+1))
  else
  some t.1).bind λn=>
 some (.inl (n,w64 (t.2+1)))
 else
 some (.inr t.1)
def oU(l:List App):Option Int:=
 (loop (ta l) (0,0)).bind λn1=>
 some n1
def h122:Hint:=(.s .z (.s .z (.s (.s .z (.b (.l [(3,.v (.int .i64) []),(8,.v (.int .i64) [])] [3,5,8] [(2,[(3,.v (.int .i64) [])])] (.s .z (.s .z (.s (.j [3,5] [(0,[(3,.v (.int .i64) [])])] .z) .z)))))) .z)))
def sp122:Spec fam:=⟨[.v (.slice (.st 6)) []],[.v (.int .i64) []],λa=>oU a.1⟩
def rQ(_a0:App):Option Bool:=none
def sp123:Spec fam:=⟨[.v (.st 6) []],[.v .bool []],λa=>rQ a.1⟩
def yV(_a0:List App)(_a1:Int)(_a2:Int):Option (List App):=none
def sp124:Spec fam:=⟨[.v (.slice (.st 6)) [],.v (.int .i64) [],.v (.int .i64) []],[.v (.slice (.st 6)) []],λa=>yV a.1 a.2.1 a.2.2.1⟩
def kV(s:State)(a:App):Option (State×Int):=
 (jG s).bind λx=>
 (
 (bC a.Id 0 9999).bind λx1=>
 bif ! x1 then
  some true
 else
  (bC a.User 0 99).bind λx2=>
  bif ! x2 then
  some true
  else
  (bC a.Prio 0 9).bind λx3=>
  bif ! x3 then
   some true
  else
   (bC a.Master.Mem 1 1073741824).bind λx4=>
   bif ! x4 then
   some true
   else
   (bC a.Master.Cores 1 1073741824).bind λx5=>
   some (! x5)).bind λq=>
 bif q then
 some (x,1)
 else
 (j8 x a.Id).bind λx6=>
 bif decide (x6≥0)then
  some (x,7)
 else
  (oU x.Apps).bind λx7=>
  bif decide (x7≥16)then
  some (x,4)
  else
  (iJ x.Conf a.Queue).bind λx8=>
  bif ! x8 then
   some (x,19)
  else
   (ko x.Apps (λa'=>rQ a'.1)).bind λk=>
   (
   bif decide ((x.Apps.length:Int)≥16)then
    some (decide (k≥0))
   else
    some false).bind λq1=>
   bif q1 then
   none
   else
   (mM (⟨a.Id,1,a.Queue,a.User,a.Prio,⟨a.Master.Mem,a.Master.Cores⟩,[],x.Now,0,[],[],[],[]⟩:App)).bind λx9=>
   (ox x (⟨a.Id,1,a.Queue,a.User,a.Prio,⟨a.Master.Mem,a.Master.Cores⟩,x9,x.Now,0,[],[],[],[]⟩:App)).bind λx10=>
   some (x10,0)
def h75:Hint:=(.s .z (.s .z (.s (.b (.s (.j [] [(0,[(10,.v .bool [])])] .z) .z)) (.s (.s .z (.s (.j [] [(0,[(73,.v .bool [])])] .z) .z)) .z))))
def sp75:Spec fam:=⟨[.v (.st 10) [],.v (.st 6) []],[.v (.st 10) [0,1,2,3,4,5,6],.v (.int .i64) []],λa=>kV a.1 a.2.1⟩
def iM(t:Step)(x:Int)(t2:List Cont×Int):Option ((List Cont×Int) ⊕ List Cont):=
 bif decide (t2.2<(t.s.Conts.length:Int))then
 (
  (idx t.s.Conts t2.2).bind λx1=>
  bif x1.Id == x then
  (app 72 t2.1 [x1]).bind λl=>
  some l
  else
  some t2.1).bind λout=>
 some (.inl (out,w64 (t2.2+1)))
 else
 some (.inr t2.1)
def eA(t:Step)(ids:List Int)(t1:List Cont×Int):Option ((List Cont×Int) ⊕ List Cont):=
 bif decide (t1.2<(ids.length:Int))then
 (idx ids t1.2).bind λx=>
 (loop (iM t x) (t1.1,0)).bind λout1=>
 some (.inl (out1,w64 (t1.2+1)))
 else
 some (.inr t1.1)
def ci(t:Step)(ids:List Int):Option (List Cont):=
 (loop (eA t ids) ([],0)).bind λout2=>
 some out2
def h126:Hint:=(.s .z (.s .z (.s (.s .z (.b (.l [(5,.v (.slice (.st 7)) [0]),(12,.v (.int .i64) [])] [5,7,9,12,13,14,15,16,17,18,19,20,21,22] [(2,[(5,.v (.slice (.st 7)) [0])])] (.s .z (.s .z (.s (.b (.s .z (.s .z (.b (.l [(5,.v (.slice (.st 7)) [0]),(22,.v (.int .i64) [])] [5,9,22] [(4,[(5,.v (.slice (.st 7)) [0])])] (.s .z (.s .z (.s (.j [5,9] [(0,[(5,.v (.slice (.st 7)) [0])])] .z) .z)))))))) .z)))))) .z)))
def sp126:Spec fam:=⟨[.rp (.st 18),.v (.slice (.int .i64)) []],[.v (.slice (.st 7)) [0]],λa=>ci a.1 a.2.1⟩
def gO(t:Step)(app_:Int)(t1:List Int×Int):Option ((List Int×Int) ⊕ List Int):=
 bif decide (t1.2<(t.s.Conts.length:Int))then
 (
  (idx t.s.Conts t1.2).bind λx=>
  (
  bif x.App == app_ then
   some (x.Notice != 0)
  else
   some false).bind λq=>
  bif q then
  (app 8 t1.1 [x.Id]).bind λl=>
  some l
  else
  some t1.1).bind λout=>
 some (.inl (out,w64 (t1.2+1)))
 else
 some (.inr t1.1)
def bU(t:Step)(app_:Int):Option (List Int):=
 (loop (gO t app_) ([],0)).bind λout1=>
 some out1
def h127:Hint:=(.s .z (.s .z (.s (.s .z (.b (.l [(5,.v (.slice (.int .i64)) [0]),(14,.v (.int .i64) [])] [5,7,14,26] [(2,[(5,.v (.slice (.int .i64)) [0])])] (.s .z (.s .z (.s (.j [5,7,26] [(0,[(5,.v (.slice (.int .i64)) [0])])] (.b (.s .z (.s (.j [] [(0,[(26,.v .bool [])])] .z) .z)))) .z)))))) .z)))
def sp127:Spec fam:=⟨[.rp (.st 18),.v (.int .i64) []],[.v (.slice (.int .i64)) [0]],λa=>bU a.1 a.2.1⟩
def a9(s:List Int)(f:(TupT fam [.int .i64]→Option Bool)):Option Bool:=
 (aU s f).bind λx=>
 some (decide (x≥0))
def h205:Hint:=.z
def sp205:Spec fam:=⟨[.v (.slice (.int .i64)) [],.fn [.int .i64] .bool],[.v .bool []],λa=>a9 a.1 a.2.1⟩
def qP(n:Int)(p:Int)(p1:Int):Option Bool:=
 bif decide (n<p)then
 some true
 else
 some (decide (n>p1))
def h206:Hint:=.z
def sp206:Spec fam:=⟨[.v (.int .i64) [],.rp (.int .i64),.rp (.int .i64)],[.v .bool []],λa=>qP a.1 a.2.1 a.2.2.1⟩
def fk(least:Int)(most:Int)(l:List Int):Option Bool:=
 (a9 l (λa'=>qP a'.1 least most)).bind λx=>
 some (! x)
def h171:Hint:=.z
def sp171:Spec fam:=⟨[.v (.int .i64) [],.v (.int .i64) [],.v (.slice (.int .i64)) []],[.v .bool []],λa=>fk a.1 a.2.1 a.2.2.1⟩
def mR(a:Ask)(labels:Int):Option Int:=
 (
 (fk 0 9 [a.Prio]).bind λx=>
 bif ! x then
  some true
 else
  (fk 0 (w64 (labels - 1)) [a.Label]).bind λx1=>
  bif ! x1 then
  some true
  else
  (fk 1 1073741824 [a.Size.Mem,a.Size.Cores]).bind λx2=>
  bif ! x2 then
   some true
  else
   (fk (-1) 999 [a.Node]).bind λx3=>
   bif ! x3 then
   some true
   else
   (fk (-1) 99 [a.Rack]).bind λx4=>
   bif ! x4 then
    some true
   else
    bif a.Node != (-1)then
    some (a.Rack == (-1))
    else
    some false).bind λq=>
 bif q then
 some 1
 else
 (fk 0 50 [a.Count]).bind λx5=>
 bif ! x5 then
  some 4
 else
  some 0
def h128:Hint:=(.s .z (.s (.b (.s (.j [] [(0,[(5,.v .bool [])])] .z) .z)) .z))
def sp128:Spec fam:=⟨[.v (.st 5) [],.v (.int .i64) []],[.v (.int .i64) []],λa=>mR a.1 a.2.1⟩
def fR(_a0:Cont)(_a1:Int)(_a2:App):Option Bool:=none
def sp176:Spec fam:=⟨[.v (.st 7) [],.rp (.int .i64),.rp (.st 6)],[.v .bool []],λa=>fR a.1 a.2.1 a.2.2.1⟩
def fh(t:Step)(a:App)(ids:List Int)(t1:Int):Option (Int ⊕ Unit):=
 bif decide (t1<(ids.length:Int))then
 (idx ids t1).bind λx=>
 (iT t.s.Conts (λa'=>fR a'.1 x a)).bind λi=>
 bif decide (i≥0)then
  none
 else
  some (.inl (w64 (t1+1)))
 else
 some (.inr ())
def eb(t:Step)(a:App)(ids:List Int):Option (App×Step):=
 (loop (fh t a ids) 0).bind λ_=>
 some (a,t)
def h130:Hint:=(.s .z (.s (.s .z (.b (.l [(12,.v (.int .i64) [])] [8,9,12] [(2,[])] .z))) .z))
def sp130:Spec fam:=⟨[.box (.st 18) [0,2,4,5,6],.v (.st 6) [7,10,11,12,13],.v (.slice (.int .i64)) []],[.v (.st 6) [7,10,11,12,13]],λa=>eb a.1 a.2.1 a.2.2.1⟩
def dW(t:Step)(t1:App×Int):Option ((App×Int) ⊕ App):=
 bif decide (t1.2<(t.x.Asks.length:Int))then
 (idx t.x.Asks t1.2).bind λx3=>
 (mR x3 (t.s.Conf.Labels.length:Int)).bind λe=>
 (
  bif e == 0 then
  (nj t1.1.Asks x3).bind λx4=>
  some ((⟨t1.1.Id,t1.1.State,t1.1.Queue,t1.1.User,t1.1.Prio,⟨t1.1.Master.Mem,t1.1.Master.Cores⟩,x4.1,t1.1.Seen,t1.1.Beat,t1.1.Grants,t1.1.Kills,t1.1.Told,t1.1.Lost⟩:App),x4.2)
  else
  some (t1.1,e)).bind λq=>
 bif q.2 != 0 then
  none
 else
  some (.inl (q.1,w64 (t1.2+1)))
 else
 some (.inr t1.1)
def di(t:Step):Option (Output×Step):=
 (gw t.s t.x.Id).bind λx=>
 bif ! x.2 then
 none
 else
 bif x.1.State != 2 then
  none
 else
  bif decide (t.x.Beat<x.1.Beat)then
  none
  else
  bif decide ((w64 (t.x.Beat - x.1.Beat))>1)then
   none
  else
   bif t.x.Beat == x.1.Beat then
   (ci t x.1.Told).bind λx1=>
   (bU t x.1.Id).bind λx2=>
   some ((⟨0,x1,x2,x.1.Lost,0⟩:Output),t)
   else
   (loop (dW t) (x.1,0)).bind λa=>
   (eb t a t.x.Ids).bind λx5=>
   (ci x5.2 x5.1.Grants).bind λx6=>
   (bU x5.2 x5.1.Id).bind λx7=>
   (bv x5.1.Kills).bind λx8=>
   (ng x5.2.s (⟨x5.1.Id,x5.1.State,x5.1.Queue,x5.1.User,x5.1.Prio,⟨x5.1.Master.Mem,x5.1.Master.Cores⟩,x5.1.Asks,x5.2.s.Now,w64 (x5.1.Beat+1),[],[],x5.1.Grants,x5.1.Kills⟩:App)).bind λx9=>
   some ((⟨0,x6,x7,x8,0⟩:Output),(⟨⟨⟨x9.Conf.Labels,x9.Conf.Queues⟩,x9.Nodes,x9.Apps,x9.Conts,x9.Slots,x9.Plans,x9.Now,x9.Epoch,x9.Seq⟩,⟨x5.2.x.Kind,x5.2.x.Id,x5.2.x.Beat,x5.2.x.N,x5.2.x.Text,⟨x5.2.x.Node.Id,x5.2.x.Node.Label,x5.2.x.Node.Rack,⟨x5.2.x.Node.Cap.Mem,x5.2.x.Node.Cap.Cores⟩,x5.2.x.Node.Seen,x5.2.x.Node.Beat,x5.2.x.Node.Up⟩,⟨x5.2.x.App.Id,x5.2.x.App.State,x5.2.x.App.Queue,x5.2.x.App.User,x5.2.x.App.Prio,⟨x5.2.x.App.Master.Mem,x5.2.x.App.Master.Cores⟩,x5.2.x.App.Asks,x5.2.x.App.Seen,x5.2.x.App.Beat,x5.2.x.App.Grants,x5.2.x.App.Kills,x5.2.x.App.Told,x5.2.x.App.Lost⟩,x5.2.x.Asks,x5.2.x.Ids,⟨x5.2.x.Plan.Id,x5.2.x.Plan.Label,x5.2.x.Plan.From,x5.2.x.Plan.Until,⟨x5.2.x.Plan.Need.Mem,x5.2.x.Plan.Need.Cores⟩⟩⟩⟩:Step))
def h76:Hint:=(.s .z (.s .z (.s .z (.s (.s .z (.b (.l [(3,.box (.st 6) [7,10,11,12,13]),(78,.v (.int .i64) [])] [3,6,7,20,78] [(3,[(3,.box (.st 6) [7,10,11,12,13])])] (.s .z (.s .z (.s (.b (.s .z (.s .z (.s (.j [3,7] [(0,[(3,.box (.st 6) [7,10,11,12,13]),(7,.v (.int .i64) [])])] .z) .z)))) .z)))))) .z))))
def sp76:Spec fam:=⟨[.box (.st 18) [0,2,4,5,6,7000]],[.v (.st 11) [1,2,3]],λa=>di a.1⟩
def uw(_a0:Step)(_a1:Int):Option Output:=none
def sp77:Spec fam:=⟨[.rp (.st 18),.v (.int .i64) []],[.v (.st 11) []],λa=>uw a.1 a.2.1⟩
def tM(_a0:Step):Option Output:=none
def sp78:Spec fam:=⟨[.rp (.st 18)],[.v (.st 11) []],λa=>tM a.1⟩
def pZ(_a0:Step):Option Output:=none
def sp79:Spec fam:=⟨[.rp (.st 18)],[.v (.st 11) []],λa=>pZ a.1⟩
def BI(_a0:State)(_a1:Int):Option (State×Int):=none
def sp80:Spec fam:=⟨[.v (.st 10) [],.v (.int .i64) []],[.v (.st 10) [],.v (.int .i64) []],λa=>BI a.1 a.2.1⟩
def sR(_a0:Step):Option Output:=none
def sp81:Spec fam:=⟨[.rp (.st 18)],[.v (.st 11) []],λa=>sR a.1⟩
def fY(t:Step):Option (Output×Step):=
 bif t.x.Kind == 1 then
 (b_ t).bind λx=>
 some (x.1,x.2)
 else
 bif t.x.Kind == 2 then
  (gC t.s t.x.Node).bind λx1=>
  (cp t x1.1 x1.2).bind λx2=>
  some (x2.1,x2.2)
 else
  bif t.x.Kind == 3 then
  (d_ t).bind λx3=>
  some (x3.1,x3.2)
  else
  bif t.x.Kind == 4 then
   (kV t.s t.x.App).bind λx4=>
   (cp t x4.1 x4.2).bind λx5=>
   some (x5.1,x5.2)
  else
   bif t.x.Kind == 5 then
   (di t).bind λx6=>
   some (x6.1,x6.2)
   else
   bif t.x.Kind == 6 then
    none
   else
    bif t.x.Kind == 7 then
    none
    else
    bif t.x.Kind == 8 then
     none
    else
     bif t.x.Kind == 9 then
     none
     else
     bif t.x.Kind == 10 then
      none
     else
      bif t.x.Kind == 11 then
      none
      else
      none
def h35:Hint:=.z
def sp35:Spec fam:=⟨[.box (.st 18) [0,2,4,5,6,7000]],[.v (.st 11) [1,2,3]],λa=>fY a.1⟩
def gm(s:State)(x:Input):Option (State×Output):=
 (c9 s []).bind λx1=>
 (fY (⟨⟨⟨x1.Conf.Labels,x1.Conf.Queues⟩,x1.Nodes,x1.Apps,x1.Conts,x1.Slots,x1.Plans,x1.Now,x1.Epoch,x1.Seq⟩,⟨x.Kind,x.Id,x.Beat,x.N,x.Text,⟨x.Node.Id,x.Node.Label,x.Node.Rack,⟨x.Node.Cap.Mem,x.Node.Cap.Cores⟩,x.Node.Seen,x.Node.Beat,x.Node.Up⟩,⟨x.App.Id,x.App.State,x.App.Queue,x.App.User,x.App.Prio,⟨x.App.Master.Mem,x.App.Master.Cores⟩,x.App.Asks,x.App.Seen,x.App.Beat,x.App.Grants,x.App.Kills,x.App.Told,x.App.Lost⟩,x.Asks,x.Ids,⟨x.Plan.Id,x.Plan.Label,x.Plan.From,x.Plan.Until,⟨x.Plan.Need.Mem,x.Plan.Need.Cores⟩⟩⟩⟩:Step)).bind λx2=>
 bif x2.1.Err != 0 then
 (c9 s []).bind λx3=>
 some (x3,x2.1)
 else
 (c9 x2.2.s []).bind λx4=>
 some (x4,x2.1)
def h17:Hint:=.z
def sp17:Spec fam:=⟨[.v (.st 10) [],.v (.st 12) []],[.v (.st 10) [0,1001,2,1003,4,5,6],.v (.st 11) [1,2,3]],λa=>gm a.1 a.2.1⟩
def eS(t:State×Int):Option ((State×Int) ⊕ (Bool ⊕ State)):=
 bif decide (t.2<([(⟨2,0,0,0,[],⟨1,0,0,⟨1,1⟩,0,0,false⟩,⟨0,0,[],0,0,⟨0,0⟩,[],0,0,[],[],[],[]⟩,[],[],⟨0,0,0,0,⟨0,0⟩⟩⟩:Input),(⟨4,0,0,0,[],⟨0,0,0,⟨0,0⟩,0,0,false⟩,⟨2,0,([114,111,111,116]:List UInt8),0,0,⟨1,1⟩,[],0,0,[],[],[],[]⟩,[],[],⟨0,0,0,0,⟨0,0⟩⟩⟩:Input),(⟨3,1,1,0,[],⟨0,0,0,⟨0,0⟩,0,0,false⟩,⟨0,0,[],0,0,⟨0,0⟩,[],0,0,[],[],[],[]⟩,[],[],⟨0,0,0,0,⟨0,0⟩⟩⟩:Input)].length:Int))then
 (inb t.2 [(⟨2,0,0,0,[],⟨1,0,0,⟨1,1⟩,0,0,false⟩,⟨0,0,[],0,0,⟨0,0⟩,[],0,0,[],[],[],[]⟩,[],[],⟨0,0,0,0,⟨0,0⟩⟩⟩:Input),(⟨4,0,0,0,[],⟨0,0,0,⟨0,0⟩,0,0,false⟩,⟨2,0,([114,111,111,116]:List UInt8),0,0,⟨1,1⟩,[],0,0,[],[],[],[]⟩,[],[],⟨0,0,0,0,⟨0,0⟩⟩⟩:Input),(⟨3,1,1,0,[],⟨0,0,0,⟨0,0⟩,0,0,false⟩,⟨0,0,[],0,0,⟨0,0⟩,[],0,0,[],[],[],[]⟩,[],[],⟨0,0,0,0,⟨0,0⟩⟩⟩:Input)].length).bind λi=>
 ([(⟨2,0,0,0,[],⟨1,0,0,⟨1,1⟩,0,0,false⟩,⟨0,0,[],0,0,⟨0,0⟩,[],0,0,[],[],[],[]⟩,[],[],⟨0,0,0,0,⟨0,0⟩⟩⟩:Input),(⟨4,0,0,0,[],⟨0,0,0,⟨0,0⟩,0,0,false⟩,⟨2,0,([114,111,111,116]:List UInt8),0,0,⟨1,1⟩,[],0,0,[],[],[],[]⟩,[],[],⟨0,0,0,0,⟨0,0⟩⟩⟩:Input),(⟨3,1,1,0,[],⟨0,0,0,⟨0,0⟩,0,0,false⟩,⟨0,0,[],0,0,⟨0,0⟩,[],0,0,[],[],[],[]⟩,[],[],⟨0,0,0,0,⟨0,0⟩⟩⟩:Input)][i]?).bind λx1=>
 (gm t.1 x1).bind λx2=>
 bif x2.2.Err != 0 then
  some (.inr (.inl false))
 else
  some (.inl (x2.1,w64 (t.2+1)))
 else
 some (.inr (.inr (t.1)))
def d8:Option Bool:=
 (h_).bind λx=>
 (loop eS (x,0)).bind λq0=>
 match q0 with
 | .inl q=>
 some q
 | .inr s=>
 bif(s.Conts.length:Int) == 1 then
  (inb 0 s.Conts.length).bind λi1=>
  (s.Conts[i1]?).bind λx3=>
  bif x3.Master then
  (ip s).bind λx4=>
  some x4
  else
  some false
 else
  some false
def h7:Hint:=(.s .z (.s .z (.s .z (.s .z (.s (.s .z (.b (.l [(1,.box (.st 10) [0,2,4,5,6]),(4,.v (.int .i64) [])] [0,1,4,5,6] [(1,[(0,.v .bool [])]),(2,[(1,.box (.st 10) [0,2,4,5,6])])] .z))) .z)))))
noncomputable def sp7:Spec fam:=⟨[],[.v .bool []],λ_=>d8⟩
def aF(at_:Int)(n:Int):Option Int:=
 (nz n).bind λ_=>
 (
 bif decide ((Int.tmod at_ n)<0)then
  let k:=w64 ((Int.tmod at_ n)+n)
  some k
 else
  some (Int.tmod at_ n)).bind λk1=>
 some k1
def h8:Hint:=(.s .z (.s .z (.s (.j [5] [(0,[(5,.v (.int .i64) [])])] .z) .z)))
def sp8:Spec fam:=⟨[.v (.int .i64) [],.v (.int .i64) []],[.v (.int .i64) []],λa=>aF a.1 a.2.1⟩
def gg(l:List Input)(t:State×State×Int):Option ((State×State×Int) ⊕ ((State×Bool) ⊕ (State×State))):=
 bif decide (t.2.2<(l.length:Int))then
 (idx l t.2.2).bind λx=>
 (gm t.1 x).bind λx1=>
 bif x1.2.Err != 0 then
  some (.inr (.inl (t.1,false)))
 else
  some (.inl (x1.1,t.2.1,w64 (t.2.2+1)))
 else
 some (.inr (.inr (t.1,t.2.1)))
def cx(s:State)(l:List Input):Option (State×Bool):=
 (loop (gg l) (s,(⟨⟨[],[]⟩,[],[],[],[],[],0,0,0⟩:State),0)).bind λq0=>
 match q0 with
 | .inl q=>
 some (q.1,q.2)
 | .inr q1=>
 some (q1.1,true)
def h9:Hint:=(.s .z (.s (.s .z (.b (.l [(2,.box (.st 10) []),(4,.box (.st 10) [0,1,2,3,4,5,6]),(6,.v (.int .i64) [])] [2,4,5,6,7,8] [(1,[(4,.box (.st 10) []),(5,.v .bool [])]),(2,[(2,.box (.st 10) []),(4,.box (.st 10) [0,1,2,3,4,5,6])])] .z))) .z))
def sp9:Spec fam:=⟨[.v (.st 10) [],.v (.slice (.st 12)) []],[.v (.st 10) [],.v .bool []],λa=>cx a.1 a.2.1⟩
def bE:Option Vec:=
 some (⟨1,1⟩:Vec)
def h12:Hint:=.z
noncomputable def sp12:Spec fam:=⟨[],[.v (.st 0) []],λ_=>bE⟩
def iP(s:State)(id_:Int)(t:App×Int):Option ((App×Int) ⊕ ((App×Bool) ⊕ App)):=
 bif decide (t.2<(s.Apps.length:Int))then
 (idx s.Apps t.2).bind λx=>
 bif x.Id == id_ then
  (idx s.Apps t.2).bind λx1=>
  some (.inr (.inl (x1,true)))
 else
  some (.inl (t.1,w64 (t.2+1)))
 else
 some (.inr (.inr (t.1)))
def dO(s:State)(id_:Int):Option (App×Bool):=
 (loop (iP s id_) ((⟨0,0,[],0,0,⟨0,0⟩,[],0,0,[],[],[],[]⟩:App),0)).bind λq0=>
 match q0 with
 | .inl q=>
 some (q.1,q.2)
 | .inr q1=>
 some ((⟨0,0,[],0,0,⟨0,0⟩,[],0,0,[],[],[],[]⟩:App),false)
def h18:Hint:=(.s .z (.s (.s .z (.b (.l [(4,.box (.st 6) [7,10,11,12,13]),(6,.v (.int .i64) [])] [4,5,6] [(1,[(4,.box (.st 6) []),(5,.v .bool [])]),(2,[(4,.box (.st 6) [7,10,11,12,13])])] .z))) .z))
def sp18:Spec fam:=⟨[.v (.st 10) [],.v (.int .i64) []],[.v (.st 6) [],.v .bool []],λa=>dO a.1 a.2.1⟩
def ef(a:Vec)(b:Vec):Option Vec:=
 some (⟨w64 (a.Mem+b.Mem),w64 (a.Cores+b.Cores)⟩:Vec)
def h36:Hint:=.z
def sp36:Spec fam:=⟨[.v (.st 0) [],.v (.st 0) []],[.v (.st 0) []],λa=>ef a.1 a.2.1⟩
def iI(path:List UInt8)(k1:Int):Option (Int ⊕ Int):=
 (
 bif decide (k1≥0)then
  (idx path k1).bind λch=>
  some ((ch.toNat:Int) != 46)
 else
  some false).bind λq=>
 bif q then
 some (.inl (w64 (k1 - 1)))
 else
 some (.inr k1)
def dJ(path:List UInt8):Option (List UInt8):=
 let k:=w64 ((path.length:Int) - 1)
 (loop (iI path) k).bind λk2=>
 bif decide (k2<0)then
 some ([]:List UInt8)
 else
 (slc path 0 k2).bind λs=>
 some s
def h144:Hint:=(.s .z (.s .z (.s (.b (.l [(3,.v (.int .i64) [])] [3,14] [(2,[(3,.v (.int .i64) [])])] (.s (.s (.j [] [(0,[(14,.v .bool [])])] .z) .z) .z))) .z)))
def sp144:Spec fam:=⟨[.v .str []],[.v .str []],λa=>dJ a.1⟩
def gn(t:List UInt8×List (List UInt8)):Option ((List UInt8×List (List UInt8)) ⊕ List (List UInt8)):=
 bif ! (t.1 == ([]:List UInt8))then
 (app 16 t.2 [t.1]).bind λl=>
 (dJ t.1).bind λpath1=>
 some (.inl (path1,l))
 else
 some (.inr t.2)
def fV(path:List UInt8):Option (List (List UInt8)):=
 (loop gn (path,[])).bind λl1=>
 some l1
def h83:Hint:=(.s .z (.s .z (.s (.b (.l [(0,.v .str []),(3,.v (.slice (.str)) [0])] [0,3] [(2,[(3,.v (.slice (.str)) [0])])] .z)) .z)))
def sp83:Spec fam:=⟨[.v .str []],[.v (.slice (.str)) [0]],λa=>fV a.1⟩
def hU(path:List UInt8)(up:List (List UInt8))(i:Int):Option (Int ⊕ (Bool ⊕ Unit)):=
 bif decide (i<(up.length:Int))then
 (inb i up.length).bind λi1=>
 (up[i1]?).bind λx=>
 bif x == path then
  some (.inr (.inl true))
 else
  some (.inl (w64 (i+1)))
 else
 some (.inr (.inr ()))
def dj(leaf:List UInt8)(path:List UInt8):Option Bool:=
 (fV leaf).bind λup=>
 (loop (hU path up) 0).bind λq0=>
 match q0 with
 | .inl q=>
 some q
 | .inr _=>
 some false
def h37:Hint:=(.s .z (.s .z (.s (.s .z (.b (.l [(6,.v (.int .i64) [])] [4,6] [(1,[(4,.v .bool [])]),(2,[])] .z))) .z)))
def sp37:Spec fam:=⟨[.v .str [],.v .str []],[.v .bool []],λa=>dj a.1 a.2.1⟩
def eH(s:State)(path:List UInt8)(label:Int)(all:Bool)(user:Int)(t:Vec×Int):Option ((Vec×Int) ⊕ Vec):=
 bif decide (t.2<(s.Conts.length:Int))then
 (
  (idx s.Conts t.2).bind λx=>
  (dO s x.App).bind λx1=>
  (
  bif x1.2 then
   (idx s.Conts t.2).bind λx2=>
   bif x2.Label == label then
   (dj x1.1.Queue path).bind λx3=>
   bif x3 then
    bif all then
    some true
    else
    some (x1.1.User == user)
   else
    some false
   else
   some false
  else
   some false).bind λq=>
  bif q then
  (idx s.Conts t.2).bind λx4=>
  (ef t.1 x4.Size).bind λx5=>
  some x5
  else
  some t.1).bind λv=>
 some (.inl (v,w64 (t.2+1)))
 else
 some (.inr t.1)
def dS(s:State)(path:List UInt8)(label:Int)(all:Bool)(user:Int):Option Vec:=
 (loop (eH s path label all user) ((⟨0,0⟩:Vec),0)).bind λv1=>
 some v1
def h22:Hint:=(.s .z (.s .z (.s (.s .z (.b (.l [(11,.box (.st 0) []),(12,.v (.int .i64) [])] [11,12,13,59] [(2,[(11,.box (.st 0) [])])] (.s .z (.s (.j [11,13,59] [(0,[(11,.box (.st 0) [])])] (.b (.s .z (.s (.j [] [(0,[(59,.v .bool [])])] .z) .z)))) .z))))) .z)))
def sp22:Spec fam:=⟨[.v (.st 10) [],.v .str [],.v (.int .i64) [],.v .bool [],.v (.int .i64) []],[.v (.st 0) []],λa=>dS a.1 a.2.1 a.2.2.1 a.2.2.2.1 a.2.2.2.2.1⟩
def co(s:State)(path:List UInt8)(label:Int):Option Vec:=
 (dS s path label true 0).bind λx=>
 some x
def h14:Hint:=.z
def sp14:Spec fam:=⟨[.v (.st 10) [],.v .str [],.v (.int .i64) []],[.v (.st 0) []],λa=>co a.1 a.2.1 a.2.2.1⟩
def gZ(a:Vec)(b:Vec):Option Bool:=
 bif decide (a.Mem≤b.Mem)then
 some (decide (a.Cores≤b.Cores))
 else
 some false
def h19:Hint:=.z
def sp19:Spec fam:=⟨[.v (.st 0) [],.v (.st 0) []],[.v .bool []],λa=>gZ a.1 a.2.1⟩
def jR(s:State)(id_:Int)(t:Vec×Int):Option ((Vec×Int) ⊕ Vec):=
 bif decide (t.2<(s.Conts.length:Int))then
 (
  (idx s.Conts t.2).bind λx=>
  bif x.Node == id_ then
  (idx s.Conts t.2).bind λx1=>
  (ef t.1 x1.Size).bind λx2=>
  some x2
  else
  some t.1).bind λv=>
 some (.inl (v,w64 (t.2+1)))
 else
 some (.inr t.1)
def d9(s:State)(id_:Int):Option Vec:=
 (loop (jR s id_) ((⟨0,0⟩:Vec),0)).bind λv1=>
 some v1
def h20:Hint:=(.s .z (.s .z (.s (.s .z (.b (.l [(5,.box (.st 0) []),(6,.v (.int .i64) [])] [5,6] [(2,[(5,.box (.st 0) [])])] (.s .z (.s (.j [5] [(0,[(5,.box (.st 0) [])])] .z) .z))))) .z)))
def sp20:Spec fam:=⟨[.v (.st 10) [],.v (.int .i64) []],[.v (.st 0) []],λa=>d9 a.1 a.2.1⟩
def dB(t:State×Bool×Int):Option ((State×Bool×Int) ⊕ ((State×Bool))):=
 (
 bif decide (t.2.2<5)then
  some t.2.1
 else
  some false).bind λq=>
 bif q then
 (cx t.1 [(⟨3,1,w64 (2+t.2.2),0,[],⟨0,0,0,⟨0,0⟩,0,0,false⟩,⟨0,0,[],0,0,⟨0,0⟩,[],0,0,[],[],[],[]⟩,[],[],⟨0,0,0,0,⟨0,0⟩⟩⟩:Input),(⟨3,2,w64 (1+t.2.2),0,[],⟨0,0,0,⟨0,0⟩,0,0,false⟩,⟨0,0,[],0,0,⟨0,0⟩,[],0,0,[],[],[],[]⟩,[],[],⟨0,0,0,0,⟨0,0⟩⟩⟩:Input)]).bind λx8=>
 some (.inl (x8.1,x8.2,w64 (t.2.2+1)))
 else
 some (.inr (t.1,t.2.1))
def aP(a:Int)(b:Int)(units:Int):Option Bool:=
 (d8).bind λx=>
 bif ! x then
 some false
 else
 (aF a 8).bind λa1=>
 (aF b 8).bind λb1=>
 (aF units 8).bind λx1=>
 (h_).bind λx2=>
 (bE).bind λx3=>
 (cx x2 [(⟨1,0,0,0,([108,97,98,101,108,115,32,103,112,117,10,113,117,101,117,101,32,114,111,111,116,32,49,48,48,48,48,32,49,48,48,48,48,47,49,48,48,48,48,32,49,48,48,48,48,47,49,48,48,48,48,10]:List UInt8),⟨0,0,0,⟨0,0⟩,0,0,false⟩,⟨0,0,[],0,0,⟨0,0⟩,[],0,0,[],[],[],[]⟩,[],[],⟨0,0,0,0,⟨0,0⟩⟩⟩:Input),(⟨2,0,0,0,[],⟨1,0,0,⟨w64 (3+x1),w64 (3+x1)⟩,0,0,false⟩,⟨0,0,[],0,0,⟨0,0⟩,[],0,0,[],[],[],[]⟩,[],[],⟨0,0,0,0,⟨0,0⟩⟩⟩:Input),(⟨2,0,0,0,[],⟨2,1,0,⟨w64 (3+x1),w64 (3+x1)⟩,0,0,false⟩,⟨0,0,[],0,0,⟨0,0⟩,[],0,0,[],[],[],[]⟩,[],[],⟨0,0,0,0,⟨0,0⟩⟩⟩:Input),(⟨4,0,0,0,[],⟨0,0,0,⟨0,0⟩,0,0,false⟩,⟨1,0,([114,111,111,116]:List UInt8),0,0,⟨x3.Mem,x3.Cores⟩,[],0,0,[],[],[],[]⟩,[],[],⟨0,0,0,0,⟨0,0⟩⟩⟩:Input),(⟨3,1,1,0,[],⟨0,0,0,⟨0,0⟩,0,0,false⟩,⟨0,0,[],0,0,⟨0,0⟩,[],0,0,[],[],[],[]⟩,[],[],⟨0,0,0,0,⟨0,0⟩⟩⟩:Input)]).bind λx4=>
 bif ! x4.2 then
  some false
 else
  (bE).bind λx5=>
  (bE).bind λx6=>
  (cx x4.1 [(⟨5,1,1,0,[],⟨0,0,0,⟨0,0⟩,0,0,false⟩,⟨0,0,[],0,0,⟨0,0⟩,[],0,0,[],[],[],[]⟩,[(⟨1,0,⟨x5.Mem,x5.Cores⟩,a1,(-1),(-1),0⟩:Ask),(⟨2,1,⟨x6.Mem,x6.Cores⟩,b1,(-1),(-1),0⟩:Ask)],[],⟨0,0,0,0,⟨0,0⟩⟩⟩:Input)]).bind λx7=>
  (loop dB (x7.1,x7.2,0)).bind λq1=>
  bif q1.2 then
  (co q1.1 ([114,111,111,116]:List UInt8) 0).bind λx9=>
  bif x9.Mem == (w64 (1+(imin a1 (w64 ((w64 (3+x1)) - 1)))))then
   (co q1.1 ([114,111,111,116]:List UInt8) 1).bind λx10=>
   bif x10.Mem == (imin b1 (w64 (3+x1)))then
   (d9 q1.1 2).bind λx11=>
   (gZ x11 (⟨w64 (3+x1),w64 (3+x1)⟩:Vec)).bind λx12=>
   some x12
   else
   some false
  else
   some false
  else
  some false
def h6:Hint:=(.s .z (.s .z (.s .z (.s .z (.s .z (.s .z (.s .z (.s .z (.s (.s .z (.b (.l [(8,.box (.st 10) []),(9,.v .bool []),(11,.v (.int .i64) [])] [8,9,11,64] [(2,[(8,.box (.st 10) []),(9,.v .bool [])])] (.s (.s (.j [] [(0,[(64,.v .bool [])])] .z) .z) .z)))) .z)))))))))
def sp6:Spec fam:=⟨[.v (.int .i64) [],.v (.int .i64) [],.v (.int .i64) []],[.v .bool []],λa=>aP a.1 a.2.1 a.2.2.1⟩
end
end Go.Fx.D
