/-
  The functions of the program that this law reaches, as functions over plain data (printed by a program). Conditions: none.
-/
import Derived.Test.YtkagmokhbmbjdaaGreatDoorFxD
import Derived.Test.YtkagmokhbmbjdaaGreatDoorA
namespace Go.Fx.D
open Go Go.Fx Go.Proofs
set_option linter.unusedVariables false
noncomputable section
def kq:Option State:=
 some (⟨⟨[([]:List UInt8)],[(⟨([114,111,111,116]:List UInt8),[(⟨10000,10000⟩:Cap)],10000⟩:Queue)]⟩,[],[],[],[],[],0,0,0⟩:State)
def h10:Hint:=.z
noncomputable def sp10:Spec fam:=⟨[],[.v (.st 10) [0,1,2,3,4,5,6]],λ_=>kq⟩
def sK(s:List UInt8):Option Bool:=nameD 12 s
def sp84:Spec fam:=⟨[.v .str []],[.v .bool []],λa=>sK a.1⟩
def uc(l:List (List UInt8))(t:List Ent0_ListUInt8Int×Int):Option ((List Ent0_ListUInt8Int×Int) ⊕ (Int ⊕ List Ent0_ListUInt8Int)):=
 bif decide (t.2<(l.length:Int))then
 (idx l t.2).bind λx=>
 (
  bif t.2 == 0 then
  bif ! (x == ([]:List UInt8))then
   some true
  else
   bif decide (t.2>0)then
   (sK x).bind λx1=>
   some (! x1)
   else
   some false
  else
  bif decide (t.2>0)then
   (sK x).bind λx2=>
   some (! x2)
  else
   some false).bind λq=>
 bif q then
  some (.inr (.inl 12))
 else
  let e:=mget (λx3=>x == x3.k) t.1 (⟨x,0⟩:Ent0_ListUInt8Int)
  some (.inl (mput (λx4=>x == x4.k) t.1 (⟨x,w64 (e.v+1)⟩:Ent0_ListUInt8Int),w64 (t.2+1)))
 else
 some (.inr (.inr (t.1)))
def oD(l:List (List UInt8)):Option Int:=
 (loop (uc l) ([],0)).bind λq0=>
 match q0 with
 | .inl q1=>
 some q1
 | .inr was=>
 bif decide ((was.length:Int)<(l.length:Int))then
  some 7
 else
  some 0
def h38:Hint:=(.s .z (.s .z (.s (.s .z (.b (.l [(3,.row (.st 500) false),(9,.v (.int .i64) [])] [2,3,4,5,6,9,28] [(1,[(2,.v (.int .i64) [])]),(2,[(3,.row (.st 500) false)])] (.s .z (.s .z (.s (.b (.s .z (.s (.s (.j [] [(0,[(28,.v .bool [])])] .z) .z) .z))) .z)))))) .z)))
def sp38:Spec fam:=⟨[.v (.slice (.str)) []],[.v (.int .i64) []],λa=>oD a.1⟩
def ff(s:List UInt8)(c:Int)(i1:Int):Option (Int ⊕ (Int ⊕ Unit)):=
 bif decide (i1≥0)then
 (idx s i1).bind λch=>
 bif(ch.toNat:Int) == c then
  some (.inr (.inl i1))
 else
  some (.inl (w64 (i1 - 1)))
 else
 some (.inr (.inr ()))
def bR(s:List UInt8)(c:Int):Option Int:=
 let i:=w64 ((s.length:Int) - 1)
 (loop (ff s c) i).bind λq0=>
 match q0 with
 | .inl q=>
 some q
 | .inr _=>
 some (-1)
def h189:Hint:=(.s .z (.s (.s .z (.b (.l [(5,.v (.int .i64) [])] [4,5] [(1,[(4,.v (.int .i64) [])]),(2,[])] .z))) .z))
def sp189:Spec fam:=⟨[.v .str [],.v (.int .u8) []],[.v (.int .i64) []],λa=>bR a.1 a.2.1⟩
def ke(_a0:List UInt8)(_a1:List UInt8):Option Int:=none
def sp190:Spec fam:=⟨[.v .str [],.v .str []],[.v (.int .i64) []],λa=>ke a.1 a.2.1⟩
def fN(s:List UInt8)(substr:List UInt8):Option Int:=
 bif(substr.length:Int) == 0 then
 some (s.length:Int)
 else
 bif(substr.length:Int) == 1 then
  (idx substr 0).bind λch=>
  (bR s (ch.toNat:Int)).bind λx=>
  some x
 else
  bif(substr.length:Int) == (s.length:Int)then
  bif substr == s then
   some 0
  else
   some (-1)
  else
  bif decide ((substr.length:Int)>(s.length:Int))then
   some (-1)
  else
   none
def h145:Hint:=.z
def sp145:Spec fam:=⟨[.v .str [],.v .str []],[.v (.int .i64) []],λa=>fN a.1 a.2.1⟩
def jO(path:List UInt8):Option (List UInt8×Bool):=
 (fN path ([46]:List UInt8)).bind λi=>
 bif decide (i<0)then
 some (([]:List UInt8),false)
 else
 (slc path 0 i).bind λs=>
 some (s,true)
def h85:Hint:=.z
def sp85:Spec fam:=⟨[.v .str []],[.v .str [],.v .bool []],λa=>jO a.1⟩
def zU(_a0:List UInt8)(_a1:Int):Option (List (List UInt8)):=none
def sp223:Spec fam:=⟨[.v .str [],.v (.int .i64) []],[.v (.slice (.str)) []],λa=>zU a.1 a.2.1⟩
def pO(s:List UInt8)(sub:List UInt8):Option Int:=cnt1 s sub
def sp224:Spec fam:=⟨[.v .str [],.v .str []],[.v (.int .i64) []],λa=>pO a.1 a.2.1⟩
def lw(s:List UInt8)(c:Int):Option Int:=ixb s c
def sp298:Spec fam:=⟨[.v .str [],.v (.int .u8) []],[.v (.int .i64) []],λa=>lw a.1 a.2.1⟩
def j8(s:List UInt8)(substr:List UInt8):Option Int:=
 (
 bif(substr.length:Int) == 0 then
  some true
 else
  some (substr == s)).bind λq=>
 bif q then
 some 0
 else
 bif(substr.length:Int) == 1 then
  (idx substr 0).bind λch=>
  (lw s (ch.toNat:Int)).bind λx=>
  some x
 else
  bif decide ((substr.length:Int)≥(s.length:Int))then
  some (-1)
  else
  none
def h270:Hint:=(.s .z (.s .z (.s (.b (.s (.j [] [(0,[(16,.v .bool [])])] .z) .z)) .z)))
def sp270:Spec fam:=⟨[.v .str [],.v .str []],[.v (.int .i64) []],λa=>j8 a.1 a.2.1⟩
def vw(s:List UInt8)(substr:List UInt8):Option Int:=
 (j8 s substr).bind λx=>
 some x
def h225:Hint:=.z
def sp225:Spec fam:=⟨[.v .str [],.v .str []],[.v (.int .i64) []],λa=>vw a.1 a.2.1⟩
def nk(sep:List UInt8)(sepSave:Int)(n2:Int)(t:List UInt8×List (List UInt8)×Int):Option ((List UInt8×List (List UInt8)×Int) ⊕ ((List UInt8×List (List UInt8)×Int))):=
 bif decide (t.2.2<(w64 (n2 - 1)))then
 (vw t.1 sep).bind λm=>
 bif decide (m<0)then
  some (.inr (t.1,t.2.1,t.2.2))
 else
  (slc t.1 0 (w64 (m+sepSave))).bind λs1=>
  (inb t.2.2 t.2.1.length).bind λi=>
  (t.2.1[i]?).bind λx1=>
  (slc t.1 (w64 (m+(sep.length:Int))) (t.1.length:Int)).bind λs2=>
  some (.inl (s2,List.set t.2.1 i s1,w64 (t.2.2+1)))
 else
 some (.inr (t.1,t.2.1,t.2.2))
def gT(s:List UInt8)(sep:List UInt8)(sepSave:Int)(n:Int):Option (List (List UInt8)):=
 bif n == 0 then
 some []
 else
 bif sep == ([]:List UInt8)then
  none
 else
  (
  bif decide (n<0)then
   (pO s sep).bind λx=>
   some (w64 (x+1))
  else
   some n).bind λn1=>
  let n2:=imin n1 (w64 ((s.length:Int)+1))
  (mkl 16 n2 n2 []).bind λl=>
  (loop (nk sep sepSave n2) (s,l,0)).bind λq=>
  (inb q.2.2 q.2.1.length).bind λi1=>
  (q.2.1[i1]?).bind λx2=>
  (inS 0 (w64 (q.2.2+1)) (List.set q.2.1 i1 q.1).length).bind λp=>
  some (List.take p.2 (List.set q.2.1 i1 q.1))
def h191:Hint:=(.s .z (.s .z (.s .z (.s (.j [3] [(0,[(3,.v (.int .i64) [])])] .z) (.s .z (.s .z (.s .z (.s .z (.s (.b (.l [(0,.v .str []),(9,.row .str false),(10,.v (.int .i64) [])] [0,9,10,11] [(2,[(0,.v .str []),(9,.row .str false),(10,.v (.int .i64) [])])] .z)) (.s .z (.s (.r [9998]) .z)))))))))))
def sp191:Spec fam:=⟨[.v .str [],.v .str [],.v (.int .i64) [],.v (.int .i64) []],[.v (.slice (.str)) [0]],λa=>gT a.1 a.2.1 a.2.2.1 a.2.2.2.1⟩
def eT(s:List UInt8)(sep:List UInt8):Option (List (List UInt8)):=
 (gT s sep 0 (-1)).bind λx=>
 some x
def h146:Hint:=.z
def sp146:Spec fam:=⟨[.v .str [],.v .str []],[.v (.slice (.str)) [0]],λa=>eT a.1 a.2.1⟩
def bK(s:List (List UInt8))(f:(TupT fam [.str]→Option Bool))(t:Int):Option (Int ⊕ (Int ⊕ Unit)):=
 bif decide (t<(s.length:Int))then
 (idx s t).bind λx=>
 (f (x,())).bind λr=>
 bif r then
  some (.inr (.inl t))
 else
  some (.inl (w64 (t+1)))
 else
 some (.inr (.inr ()))
def aQ(s:List (List UInt8))(f:(TupT fam [.str]→Option Bool)):Option Int:=
 (loop (bK s f) 0).bind λq0=>
 match q0 with
 | .inl q=>
 some q
 | .inr _=>
 some (-1)
def h192:Hint:=(.s .z (.s (.s .z (.b (.l [(8,.v (.int .i64) [])] [4,5,8] [(1,[(4,.v (.int .i64) [])]),(2,[])] .z))) .z))
def sp192:Spec fam:=⟨[.v (.slice (.str)) [],.fn [.str] .bool],[.v (.int .i64) []],λa=>aQ a.1 a.2.1⟩
def aW(s:List (List UInt8))(f:(TupT fam [.str]→Option Bool)):Option Bool:=
 (aQ s f).bind λx=>
 some (decide (x≥0))
def h147:Hint:=.z
def sp147:Spec fam:=⟨[.v (.slice (.str)) [],.fn [.str] .bool],[.v .bool []],λa=>aW a.1 a.2.1⟩
def pB(n:List UInt8):Option Bool:=
 (sK n).bind λx=>
 some (! x)
def h148:Hint:=.z
def sp148:Spec fam:=⟨[.v .str []],[.v .bool []],λa=>pB a.1⟩
def oT(s:List UInt8):Option Bool:=
 (eT s ([46]:List UInt8)).bind λl=>
 (inb 0 l.length).bind λi=>
 (l[i]?).bind λx=>
 bif x == ([114,111,111,116]:List UInt8)then
 bif decide ((l.length:Int)≤4)then
  (aW l (λa'=>pB a'.1)).bind λx1=>
  some (! x1)
 else
  some false
 else
 some false
def h86:Hint:=.z
def sp86:Spec fam:=⟨[.v .str []],[.v .bool []],λa=>oT a.1⟩
def tD(s:List Cap)(f:(TupT fam [.st 1]→Option Bool))(t:Int):Option (Int ⊕ (Int ⊕ Unit)):=
 bif decide (t<(s.length:Int))then
 (idx s t).bind λx=>
 (f (x,())).bind λr=>
 bif r then
  some (.inr (.inl t))
 else
  some (.inl (w64 (t+1)))
 else
 some (.inr (.inr ()))
def vl(s:List Cap)(f:(TupT fam [.st 1]→Option Bool)):Option Int:=
 (loop (tD s f) 0).bind λq0=>
 match q0 with
 | .inl q=>
 some q
 | .inr _=>
 some (-1)
def h193:Hint:=(.s .z (.s (.s .z (.b (.l [(8,.v (.int .i64) [])] [4,5,8] [(1,[(4,.v (.int .i64) [])]),(2,[])] .z))) .z))
def sp193:Spec fam:=⟨[.v (.slice (.st 1)) [],.fn [.st 1] .bool],[.v (.int .i64) []],λa=>vl a.1 a.2.1⟩
def ml(s:List Cap)(f:(TupT fam [.st 1]→Option Bool)):Option Bool:=
 (vl s f).bind λx=>
 some (decide (x≥0))
def h149:Hint:=.z
def sp149:Spec fam:=⟨[.v (.slice (.st 1)) [],.fn [.st 1] .bool],[.v .bool []],λa=>ml a.1 a.2.1⟩
def tw(c:Cap):Option Bool:=
 bif decide (c.Least<0)then
 some true
 else
 bif decide (c.Most>10000)then
  some true
 else
  some (decide (c.Least>c.Most))
def h150:Hint:=.z
def sp150:Spec fam:=⟨[.v (.st 1) []],[.v .bool []],λa=>tw a.1⟩
def sL(l:List Cap):Option Bool:=
 (ml l (λa'=>tw a'.1)).bind λx=>
 some (! x)
def h87:Hint:=.z
def sp87:Spec fam:=⟨[.v (.slice (.st 1)) []],[.v .bool []],λa=>sL a.1⟩
def nN(c:Conf)(t:List Ent0_ListUInt8Int×List UInt8×Int):Option ((List Ent0_ListUInt8Int×List UInt8×Int) ⊕ (Int ⊕ Unit)):=
 bif decide (t.2.2<(c.Queues.length:Int))then
 (idx c.Queues t.2.2).bind λx=>
 (jO x.Path).bind λx1=>
 (oT x.Path).bind λx2=>
 bif ! x2 then
  some (.inr (.inl 12))
 else
  (
  bif decide (t.2.2>0)then
   some (strLe x.Path t.2.1)
  else
   some false).bind λq=>
  bif q then
  some (.inr (.inl 7))
  else
  (
   bif x1.2 then
   let e:=mget (λx3=>x1.1 == x3.k) t.1 (⟨x1.1,0⟩:Ent0_ListUInt8Int)
   some (e.v == 0)
   else
   some false).bind λq1=>
  bif q1 then
   some (.inr (.inl 12))
  else
   (
   bif decide (x.User<1)then
    some true
   else
    bif decide (x.User>1000000)then
    some true
    else
    bif(x.Caps.length:Int) != (c.Labels.length:Int)then
     some true
    else
     (sL x.Caps).bind λx4=>
     some (! x4)).bind λq2=>
   bif q2 then
   some (.inr (.inl 1))
   else
   let e1:=mget (λx5=>x.Path == x5.k) t.1 (⟨x.Path,0⟩:Ent0_ListUInt8Int)
   some (.inl (mput (λx6=>x.Path == x6.k) t.1 (⟨x.Path,w64 (e1.v+1)⟩:Ent0_ListUInt8Int),x.Path,w64 (t.2.2+1)))
 else
 some (.inr (.inr ()))
def oA(c:Conf):Option Int:=
 (loop (nN c) ([],([]:List UInt8),0)).bind λq0=>
 match q0 with
 | .inl q3=>
 some q3
 | .inr _=>
 some 0
def h39:Hint:=(.s .z (.s .z (.s .z (.s (.s .z (.b (.l [(3,.row (.st 500) false),(4,.v .str []),(13,.v (.int .i64) [])] [2,3,4,5,6,7,8,9,13,29,38,46] [(1,[(2,.v (.int .i64) [])]),(2,[])] (.s .z (.s .z (.s (.b (.s .z (.s .z (.s (.b (.s .z (.c .z (.s (.j [] [(0,[(29,.v .bool [])])] .z) (.c .z (.s (.j [] [(0,[(38,.v .bool [])])] .z) (.c .z (.s (.j [] [(0,[(46,.v .bool [])])] .z) .z)))))))) .z)))) .z)))))) .z))))
def sp39:Spec fam:=⟨[.v (.st 3) []],[.v (.int .i64) []],λa=>oA a.1⟩
def rf(c:Conf)(path:List UInt8)(t:List (List UInt8)×Int):Option ((List (List UInt8)×Int) ⊕ List (List UInt8)):=
 bif decide (t.2<(c.Queues.length:Int))then
 (
  (idx c.Queues t.2).bind λx=>
  (jO x.Path).bind λx1=>
  (
  bif x1.2 then
   some (x1.1 == path)
  else
   some false).bind λq=>
  bif q then
  (app 16 t.1 [x.Path]).bind λl=>
  some l
  else
  some t.1).bind λout=>
 some (.inl (out,w64 (t.2+1)))
 else
 some (.inr t.1)
def jp(c:Conf)(path:List UInt8):Option (List (List UInt8)):=
 (loop (rf c path) ([],0)).bind λout1=>
 some out1
def h88:Hint:=(.s .z (.s .z (.s (.s .z (.b (.l [(5,.v (.slice (.str)) [0]),(13,.v (.int .i64) [])] [5,7,8,9,13,28] [(2,[(5,.v (.slice (.str)) [0])])] (.s .z (.s .z (.s (.j [5,7,8,9,28] [(0,[(5,.v (.slice (.str)) [0])])] (.b (.s .z (.s .z (.s (.j [] [(0,[(28,.v .bool [])])] .z) .z))))) .z)))))) .z)))
def sp88:Spec fam:=⟨[.v (.st 3) [],.v .str []],[.v (.slice (.str)) [0]],λa=>jp a.1 a.2.1⟩
def A2(s:List Cap):Option (List Cap):=
 bif s.isEmpty then
 none
 else
 (app 16 [] s).bind λl=>
 some l
def gh(s:List Cap):Option (List Cap):=app 16 [] s
def h100:Hint:=.z
def sp100:Spec fam:=⟨[.v (.slice (.st 1)) []],[.v (.slice (.st 1)) [0]],λa=>gh a.1⟩
def Im:Spec fam:=⟨[.v (.slice (.st 1)) []],[.v (.slice (.st 1)) [0]],λa=>A2 a.1⟩
def p7(s:List Queue)(f:(TupT fam [.st 2]→Option Bool))(t:Int):Option (Int ⊕ (Int ⊕ Unit)):=
 bif decide (t<(s.length:Int))then
 (idx s t).bind λx=>
 (f (x,())).bind λr=>
 bif r then
  some (.inr (.inl t))
 else
  some (.inl (w64 (t+1)))
 else
 some (.inr (.inr ()))
def qV(s:List Queue)(f:(TupT fam [.st 2]→Option Bool)):Option Int:=
 (loop (p7 s f) 0).bind λq0=>
 match q0 with
 | .inl q=>
 some q
 | .inr _=>
 some (-1)
def h151:Hint:=(.s .z (.s (.s .z (.b (.l [(8,.v (.int .i64) [])] [4,5,8] [(1,[(4,.v (.int .i64) [])]),(2,[])] .z))) .z))
def sp151:Spec fam:=⟨[.v (.slice (.st 2)) [],.fn [.st 2] .bool],[.v (.int .i64) []],λa=>qV a.1 a.2.1⟩
def tB(q:Queue)(p:List UInt8):Option Bool:=
 some (q.Path == p)
def h152:Hint:=.z
def sp152:Spec fam:=⟨[.v (.st 2) [],.rp .str],[.v .bool []],λa=>tB a.1 a.2.1⟩
def gG(c:Conf)(path:List UInt8):Option (Queue×Bool):=
 (qV c.Queues (λa'=>tB a'.1 path)).bind λi=>
 bif decide (i<0)then
 some ((⟨[],[],0⟩:Queue),false)
 else
 (idx c.Queues i).bind λx=>
 (gh x.Caps).bind λx1=>
 some ((⟨x.Path,x1,x.User⟩:Queue),true)
def h89:Hint:=.z
def sp89:Spec fam:=⟨[.v (.st 3) [],.v .str []],[.v (.st 2) [1],.v .bool []],λa=>gG a.1 a.2.1⟩
def rU(c:Conf)(kids:List (List UInt8))(t2:Int)(t3:Int×Int):Option ((Int×Int) ⊕ Int):=
 bif decide (t3.2<(kids.length:Int))then
 (inb t3.2 kids.length).bind λi=>
 (kids[i]?).bind λx3=>
 (gG c x3).bind λx4=>
 (inb t2 x4.1.Caps.length).bind λi1=>
 (x4.1.Caps[i1]?).bind λx5=>
 let sum:=w64 (t3.1+x5.Least)
 some (.inl (sum,w64 (t3.2+1)))
 else
 some (.inr t3.1)
def sg(c:Conf)(kids:List (List UInt8))(t2:Int):Option (Int ⊕ (Int ⊕ Unit)):=
 bif decide (t2<(c.Labels.length:Int))then
 (loop (rU c kids t2) (0,0)).bind λsum1=>
 (
  bif decide ((kids.length:Int)>0)then
  some (sum1 != 10000)
  else
  some false).bind λq2=>
 bif q2 then
  some (.inr (.inl 13))
 else
  some (.inl (w64 (t2+1)))
 else
 some (.inr (.inr ()))
def qZ(c:Conf)(t1:Int):Option (Int ⊕ (Int ⊕ Unit)):=
 bif decide (t1<(c.Queues.length:Int))then
 (idx c.Queues t1).bind λx2=>
 (jp c x2.Path).bind λkids=>
 (loop (sg c kids) 0).bind λq0=>
 match q0 with
 | .inl q3=>
  some (.inr (.inl q3))
 | .inr _=>
  some (.inl (w64 (t1+1)))
 else
 some (.inr (.inr ()))
def xK(x:Queue)(t:Int):Option (Int ⊕ (Int ⊕ Unit)):=
 bif decide (t<(x.Caps.length:Int))then
 (idx x.Caps t).bind λx1=>
 (
  bif x1.Least != 10000 then
  some true
  else
  some (x1.Most != 10000)).bind λq=>
 bif q then
  some (.inr (.inl 13))
 else
  some (.inl (w64 (t+1)))
 else
 some (.inr (.inr ()))
def tg(c:Conf):Option Int:=
 (idx c.Queues 0).bind λx=>
 (loop (xK x) 0).bind λq0=>
 match q0 with
 | .inl q1=>
 some q1
 | .inr _=>
 (loop (qZ c) 0).bind λq0=>
 match q0 with
 | .inl q4=>
  some q4
 | .inr _=>
  some 0
def h40:Hint:=(.s .z (.s (.s .z (.b (.l [(20,.v (.int .i64) [])] [2,4,20,21,22,23,24,25,26,27,28,29,30,31,32] [(1,[(2,.v (.int .i64) [])]),(2,[])] (.s .z (.s .z (.s (.b (.s .z (.s (.j [24,25,26,27,28,29,30,31] [(0,[(31,.v .bool [])])] .z) .z))) .z)))))) (.s (.s .z (.b (.l [(36,.v (.int .i64) [])] [2,6,7,8,9,11,12,13,36,37,38,39,40,41,42,43,44,45,46,47,48,49,50,51,52,77] [(1,[(2,.v (.int .i64) [])]),(4,[])] (.s .z (.s .z (.s (.b (.s .z (.s .z (.s .z (.b (.l [(47,.v (.int .i64) [])] [2,8,9,11,12,13,47,48,49,50,51,52,77] [(1,[(2,.v (.int .i64) [])]),(6,[])] (.s .z (.s .z (.s (.b (.s .z (.s .z (.s (.s .z (.b (.l [(9,.v (.int .i64) []),(52,.v (.int .i64) [])] [9,11,12,13,52] [(8,[(9,.v (.int .i64) [])])] .z))) (.s (.j [] [(0,[(77,.v .bool [])])] .z) .z))))) .z))))))))) .z)))))) .z)))
def sp40:Spec fam:=⟨[.v (.st 3) []],[.v (.int .i64) []],λa=>tg a.1⟩
def na(c:Conf):Option Int:=
 (
 bif(c.Labels.length:Int) == 0 then
  some true
 else
  bif decide ((c.Labels.length:Int)>3)then
  some true
  else
  some (decide ((c.Queues.length:Int)>16))).bind λq=>
 bif q then
 some 4
 else
 (oD c.Labels).bind λe=>
 bif e != 0 then
  some e
 else
  (
  bif(c.Queues.length:Int) == 0 then
   some true
  else
   (idx c.Queues 0).bind λx=>
   some (! (x.Path == ([114,111,111,116]:List UInt8)))).bind λq1=>
  bif q1 then
  some 12
  else
  (oA c).bind λe1=>
  bif e1 != 0 then
   some e1
  else
   (tg c).bind λx1=>
   some x1
def h23:Hint:=(.s .z (.s (.s (.j [] [(0,[(20,.v .bool [])])] .z) .z) (.s .z (.s (.s (.j [] [(0,[(38,.v .bool [])])] .z) .z) .z))))
def sp23:Spec fam:=⟨[.v (.st 3) []],[.v (.int .i64) []],λa=>na a.1⟩
def tJ(s:List Vec)(f:(TupT fam [.st 0]→Option Bool))(t:Int):Option (Int ⊕ (Int ⊕ Unit)):=
 bif decide (t<(s.length:Int))then
 (idx s t).bind λx=>
 (f (x,())).bind λr=>
 bif r then
  some (.inr (.inl t))
 else
  some (.inl (w64 (t+1)))
 else
 some (.inr (.inr ()))
def vq(s:List Vec)(f:(TupT fam [.st 0]→Option Bool)):Option Int:=
 (loop (tJ s f) 0).bind λq0=>
 match q0 with
 | .inl q=>
 some q
 | .inr _=>
 some (-1)
def h90:Hint:=(.s .z (.s (.s .z (.b (.l [(8,.v (.int .i64) [])] [4,5,8] [(1,[(4,.v (.int .i64) [])]),(2,[])] .z))) .z))
def sp90:Spec fam:=⟨[.v (.slice (.st 0)) [],.fn [.st 0] .bool],[.v (.int .i64) []],λa=>vq a.1 a.2.1⟩
def oL(s:List Vec)(f:(TupT fam [.st 0]→Option Bool)):Option Bool:=
 (vq s f).bind λx=>
 some (decide (x≥0))
def h41:Hint:=.z
def sp41:Spec fam:=⟨[.v (.slice (.st 0)) [],.fn [.st 0] .bool],[.v .bool []],λa=>oL a.1 a.2.1⟩
def gN(v:Vec):Option Bool:=
 bif decide (v.Mem<0)then
 some true
 else
 bif decide (v.Mem>1125899906842624)then
  some true
 else
  bif decide (v.Cores<0)then
  some true
  else
  some (decide (v.Cores>1125899906842624))
def h42:Hint:=.z
def sp42:Spec fam:=⟨[.v (.st 0) []],[.v .bool []],λa=>gN a.1⟩
def ll(x3:App)(t4:List Vec×Int):Option ((List Vec×Int) ⊕ List Vec):=
 bif decide (t4.2<(x3.Asks.length:Int))then
 (idx x3.Asks t4.2).bind λx4=>
 (app 16 t4.1 [x4.Size]).bind λl7=>
 some (.inl (l7,w64 (t4.2+1)))
 else
 some (.inr t4.1)
def gA(k:Look)(t3:List Vec×Int):Option ((List Vec×Int) ⊕ List Vec):=
 bif decide (t3.2<(k.s.Apps.length:Int))then
 (idx k.s.Apps t3.2).bind λx3=>
 (app 16 t3.1 [x3.Master]).bind λl6=>
 (loop (ll x3) (l6,0)).bind λl8=>
 some (.inl (l8,w64 (t3.2+1)))
 else
 some (.inr t3.1)
def lz(k:Look)(t2:List Vec×Int):Option ((List Vec×Int) ⊕ List Vec):=
 bif decide (t2.2<(k.s.Plans.length:Int))then
 (idx k.s.Plans t2.2).bind λx2=>
 (app 16 t2.1 [x2.Need]).bind λl4=>
 some (.inl (l4,w64 (t2.2+1)))
 else
 some (.inr t2.1)
def lC(k:Look)(t1:List Vec×Int):Option ((List Vec×Int) ⊕ List Vec):=
 bif decide (t1.2<(k.s.Conts.length:Int))then
 (idx k.s.Conts t1.2).bind λx1=>
 (app 16 t1.1 [x1.Size]).bind λl2=>
 some (.inl (l2,w64 (t1.2+1)))
 else
 some (.inr t1.1)
def lm(k:Look)(t:List Vec×Int):Option ((List Vec×Int) ⊕ List Vec):=
 bif decide (t.2<(k.s.Nodes.length:Int))then
 (idx k.s.Nodes t.2).bind λx=>
 (app 16 t.1 [x.Cap]).bind λl=>
 some (.inl (l,w64 (t.2+1)))
 else
 some (.inr t.1)
def e_(k:Look):Option Bool:=
 (loop (lm k) ([],0)).bind λl1=>
 (loop (lC k) (l1,0)).bind λl3=>
 (loop (lz k) (l3,0)).bind λl5=>
 (loop (gA k) (l5,0)).bind λl9=>
 (oL l9 (λa'=>gN a'.1)).bind λx5=>
 some (! x5)
def h24:Hint:=(.s .z (.s .z (.s (.s .z (.b (.l [(3,.v (.slice (.st 0)) [0]),(18,.v (.int .i64) [])] [3,5,18,19,20,21,22,23,24,25,26,27] [(2,[(3,.v (.slice (.st 0)) [0])])] .z))) (.s (.s .z (.b (.l [(3,.v (.slice (.st 0)) [0]),(32,.v (.int .i64) [])] [3,7,32,33,34,35,36,37,38,39,40,41] [(4,[(3,.v (.slice (.st 0)) [0])])] .z))) (.s (.s .z (.b (.l [(3,.v (.slice (.st 0)) [0]),(46,.v (.int .i64) [])] [3,9,46,47,48,49,50,51,52,53,54,55] [(6,[(3,.v (.slice (.st 0)) [0])])] .z))) (.s (.s .z (.b (.l [(3,.v (.slice (.st 0)) [0]),(60,.v (.int .i64) [])] [3,11,13,60,61,62,63,64,65,66,67,68,69,70,71,72] [(8,[(3,.v (.slice (.st 0)) [0])])] (.s .z (.s .z (.s (.b (.s .z (.s .z (.s .z (.b (.l [(3,.v (.slice (.st 0)) [0]),(72,.v (.int .i64) [])] [3,13,68,72] [(10,[(3,.v (.slice (.st 0)) [0])])] .z)))))) .z)))))) .z))))))
def sp24:Spec fam:=⟨[.v (.st 16) []],[.v .bool []],λa=>e_ a.1⟩
def lh(n:Int)(id_:(TupT fam [.int .i64]→Option Int))(i:Int):Option (Int ⊕ (Bool ⊕ Unit)):=
 bif decide (i<n)then
 (id_ (w64 (i - 1),())).bind λr=>
 (id_ (i,())).bind λr1=>
 bif decide (r≥r1)then
  some (.inr (.inl false))
 else
  some (.inl (w64 (i+1)))
 else
 some (.inr (.inr ()))
def cK(n:Int)(most:Int)(id_:(TupT fam [.int .i64]→Option Int)):Option Bool:=
 (loop (lh n id_) 1).bind λq0=>
 match q0 with
 | .inl q=>
 some q
 | .inr _=>
 some (decide (n≤most))
def h43:Hint:=(.s .z (.s (.s .z (.b (.l [(7,.v (.int .i64) [])] [6,7] [(1,[(6,.v .bool [])]),(2,[])] .z))) .z))
def sp43:Spec fam:=⟨[.v (.int .i64) [],.v (.int .i64) [],.fn [.int .i64] (.int .i64)],[.v .bool []],λa=>cK a.1 a.2.1 a.2.2.1⟩
def gw(_a0:Int)(_a1:State):Option Int:=none
def sp44:Spec fam:=⟨[.v (.int .i64) [],.rp (.st 10)],[.v (.int .i64) []],λa=>gw a.1 a.2.1⟩
def gb(i:Int)(p:State):Option Int:=
 (idx p.Apps i).bind λx=>
 some x.Id
def h45:Hint:=.z
def sp45:Spec fam:=⟨[.v (.int .i64) [],.rp (.st 10)],[.v (.int .i64) []],λa=>gb a.1 a.2.1⟩
def gr(i:Int)(p:State):Option Int:=
 (idx p.Conts i).bind λx=>
 some x.Id
def h46:Hint:=.z
def sp46:Spec fam:=⟨[.v (.int .i64) [],.rp (.st 10)],[.v (.int .i64) []],λa=>gr a.1 a.2.1⟩
def gy(_a0:Int)(_a1:State):Option Int:=none
def sp47:Spec fam:=⟨[.v (.int .i64) [],.rp (.st 10)],[.v (.int .i64) []],λa=>gy a.1 a.2.1⟩
def ga(_a0:Int)(_a1:State):Option Int:=none
def sp48:Spec fam:=⟨[.v (.int .i64) [],.rp (.st 10)],[.v (.int .i64) []],λa=>ga a.1 a.2.1⟩
def eC(k:Look):Option Bool:=
 (cK (k.s.Nodes.length:Int) 12 (λa'=>gw a'.1 k.s)).bind λx=>
 bif x then
 (cK (k.s.Apps.length:Int) 16 (λa'=>gb a'.1 k.s)).bind λx1=>
 bif x1 then
  (cK (k.s.Conts.length:Int) 200 (λa'=>gr a'.1 k.s)).bind λx2=>
  bif x2 then
  (cK (k.s.Slots.length:Int) 12 (λa'=>gy a'.1 k.s)).bind λx3=>
  bif x3 then
   (cK (k.s.Plans.length:Int) 12 (λa'=>ga a'.1 k.s)).bind λx4=>
   some x4
  else
   some false
  else
  some false
 else
  some false
 else
 some false
def h25:Hint:=.z
def sp25:Spec fam:=⟨[.v (.st 16) []],[.v .bool []],λa=>eC a.1⟩
def rj(s:List Cont)(f:(TupT fam [.st 7]→Option Bool))(t:Int):Option (Int ⊕ (Int ⊕ Unit)):=
 bif decide (t<(s.length:Int))then
 (idx s t).bind λx=>
 (f (x,())).bind λr=>
 bif r then
  some (.inr (.inl t))
 else
  some (.inl (w64 (t+1)))
 else
 some (.inr (.inr ()))
def gF(s:List Cont)(f:(TupT fam [.st 7]→Option Bool)):Option Int:=
 (loop (rj s f) 0).bind λq0=>
 match q0 with
 | .inl q=>
 some q
 | .inr _=>
 some (-1)
def h64:Hint:=(.s .z (.s (.s .z (.b (.l [(8,.v (.int .i64) [])] [4,5,8] [(1,[(4,.v (.int .i64) [])]),(2,[])] .z))) .z))
def sp64:Spec fam:=⟨[.v (.slice (.st 7)) [],.fn [.st 7] .bool],[.v (.int .i64) []],λa=>gF a.1 a.2.1⟩
def jx(s:List Cont)(f:(TupT fam [.st 7]→Option Bool)):Option Bool:=
 (gF s f).bind λx=>
 some (decide (x≥0))
def h49:Hint:=.z
def sp49:Spec fam:=⟨[.v (.slice (.st 7)) [],.fn [.st 7] .bool],[.v .bool []],λa=>jx a.1 a.2.1⟩
def mQ(l:List Cont)(holds:(TupT fam [.st 7]→Option Bool)):Option Bool:=(jx l (λx=>(holds x).bind λr=>some (!r))).bind λr=>some (!r)
def sp26:Spec fam:=⟨[.v (.slice (.st 7)) [],.fn [.st 7] .bool],[.v .bool []],λa=>mQ a.1 a.2.1⟩
def tE(s:List App)(f:(TupT fam [.st 6]→Option Bool))(t:Int):Option (Int ⊕ (Int ⊕ Unit)):=
 bif decide (t<(s.length:Int))then
 (idx s t).bind λx=>
 (f (x,())).bind λr=>
 bif r then
  some (.inr (.inl t))
 else
  some (.inl (w64 (t+1)))
 else
 some (.inr (.inr ()))
def nS(s:List App)(f:(TupT fam [.st 6]→Option Bool)):Option Int:=
 (loop (tE s f) 0).bind λq0=>
 match q0 with
 | .inl q=>
 some q
 | .inr _=>
 some (-1)
def h96:Hint:=(.s .z (.s (.s .z (.b (.l [(8,.v (.int .i64) [])] [4,5,8] [(1,[(4,.v (.int .i64) [])]),(2,[])] .z))) .z))
def sp96:Spec fam:=⟨[.v (.slice (.st 6)) [],.fn [.st 6] .bool],[.v (.int .i64) []],λa=>nS a.1 a.2.1⟩
def xG(a:App)(p:Int):Option Bool:=
 some (a.Id == p)
def h106:Hint:=.z
def sp106:Spec fam:=⟨[.v (.st 6) [],.rp (.int .i64)],[.v .bool []],λa=>xG a.1 a.2.1⟩
def nG(s:State)(id_:Int):Option Int:=
 (nS s.Apps (λa'=>xG a'.1 id_)).bind λx=>
 some x
def h66:Hint:=.z
def sp66:Spec fam:=⟨[.v (.st 10) [],.v (.int .i64) []],[.v (.int .i64) []],λa=>nG a.1 a.2.1⟩
def Ep(s:List Ask):Option (List Ask):=
 bif s.isEmpty then
 none
 else
 (app 64 [] s).bind λl=>
 some l
def rF(s:List Ask):Option (List Ask):=app 64 [] s
def h153:Hint:=.z
def sp153:Spec fam:=⟨[.v (.slice (.st 5)) []],[.v (.slice (.st 5)) [0]],λa=>rF a.1⟩
def HZ:Spec fam:=⟨[.v (.slice (.st 5)) []],[.v (.slice (.st 5)) [0]],λa=>Ep a.1⟩
def po(l:List Int):Option (List Int):=
 (mkl 8 (l.length:Int) (l.length:Int) 0).bind λl1=>
 some (cpy l1 0 l1.length l)
def h154:Hint:=.z
def sp154:Spec fam:=⟨[.v (.slice (.int .i64)) []],[.v (.slice (.int .i64)) [0]],λa=>po a.1⟩
def kS(a:App):Option App:=
 (rF a.Asks).bind λx=>
 (po a.Grants).bind λx1=>
 (po a.Kills).bind λx2=>
 (po a.Told).bind λx3=>
 (po a.Lost).bind λx4=>
 some (⟨a.Id,a.State,a.Queue,a.User,a.Prio,⟨a.Master.Mem,a.Master.Cores⟩,x,a.Seen,a.Beat,x1,x2,x3,x4⟩:App)
def h91:Hint:=.z
def sp91:Spec fam:=⟨[.v (.st 6) []],[.v (.st 6) [7,10,11,12,13,9999]],λa=>kS a.1⟩
def fg(s:State)(id_:Int):Option (App×Bool):=
 (nG s id_).bind λi=>
 bif decide (i<0)then
 some ((⟨0,0,[],0,0,⟨0,0⟩,[],0,0,[],[],[],[]⟩:App),false)
 else
 (idx s.Apps i).bind λx=>
 (kS x).bind λx1=>
 some (x1,true)
def h51:Hint:=.z
def sp51:Spec fam:=⟨[.v (.st 10) [],.v (.int .i64) []],[.v (.st 6) [7,10,11,12,13,9999],.v .bool []],λa=>fg a.1 a.2.1⟩
def sd(s:List Node)(f:(TupT fam [.st 4]→Option Bool))(t:Int):Option (Int ⊕ (Int ⊕ Unit)):=
 bif decide (t<(s.length:Int))then
 (idx s t).bind λx=>
 (f (x,())).bind λr=>
 bif r then
  some (.inr (.inl t))
 else
  some (.inl (w64 (t+1)))
 else
 some (.inr (.inr ()))
def oZ(s:List Node)(f:(TupT fam [.st 4]→Option Bool)):Option Int:=
 (loop (sd s f) 0).bind λq0=>
 match q0 with
 | .inl q=>
 some q
 | .inr _=>
 some (-1)
def h93:Hint:=(.s .z (.s (.s .z (.b (.l [(8,.v (.int .i64) [])] [4,5,8] [(1,[(4,.v (.int .i64) [])]),(2,[])] .z))) .z))
def sp93:Spec fam:=⟨[.v (.slice (.st 4)) [],.fn [.st 4] .bool],[.v (.int .i64) []],λa=>oZ a.1 a.2.1⟩
def rV(i:Int)(n:Node):Option Bool:=
 some (n.Id == i)
def h155:Hint:=.z
def sp155:Spec fam:=⟨[.v (.int .i64) [],.v (.st 4) []],[.v .bool []],λa=>rV a.1 a.2.1⟩
def om(s:State)(id_:Int):Option Int:=
 (oZ s.Nodes (λa'=>rV id_ a'.1)).bind λx=>
 some x
def h92:Hint:=.z
def sp92:Spec fam:=⟨[.v (.st 10) [],.v (.int .i64) []],[.v (.int .i64) []],λa=>om a.1 a.2.1⟩
def hU(s:State)(id_:Int):Option (Node×Bool):=
 (om s id_).bind λi=>
 bif decide (i<0)then
 some ((⟨0,0,0,⟨0,0⟩,0,0,false⟩:Node),false)
 else
 (idx s.Nodes i).bind λx=>
 some (x,true)
def h52:Hint:=.z
def sp52:Spec fam:=⟨[.v (.st 10) [],.v (.int .i64) []],[.v (.st 4) [],.v .bool []],λa=>hU a.1 a.2.1⟩
def cJ(a:App):Option Bool:=
 bif a.State == 1 then
 some true
 else
 some (a.State == 2)
def h53:Hint:=.z
def sp53:Spec fam:=⟨[.v (.st 6) []],[.v .bool []],λa=>cJ a.1⟩
def fO(k:Look)(c:Cont):Option Bool:=
 (fg k.s c.App).bind λx=>
 (hU k.s c.Node).bind λx1=>
 bif x.2 then
 (cJ x.1).bind λx2=>
 bif x2 then
  bif x1.2 then
  bif x1.1.Up then
   bif x1.1.Label == c.Label then
   bif decide (c.Notice≥0)then
    some (decide (c.Notice≤(imax k.s.Now 1)))
   else
    some false
   else
   some false
  else
   some false
  else
  some false
 else
  some false
 else
 some false
def h27:Hint:=.z
def sp27:Spec fam:=⟨[.v (.st 16) [],.v (.st 7) []],[.v .bool []],λa=>fO a.1 a.2.1⟩
def mP(s:List Node)(f:(TupT fam [.st 4]→Option Bool)):Option Bool:=
 (oZ s f).bind λx=>
 some (decide (x≥0))
def h54:Hint:=.z
def sp54:Spec fam:=⟨[.v (.slice (.st 4)) [],.fn [.st 4] .bool],[.v .bool []],λa=>mP a.1 a.2.1⟩
def mC(l:List Node)(holds:(TupT fam [.st 4]→Option Bool)):Option Bool:=(mP l (λx=>(holds x).bind λr=>some (!r))).bind λr=>some (!r)
def sp28:Spec fam:=⟨[.v (.slice (.st 4)) [],.fn [.st 4] .bool],[.v .bool []],λa=>mC a.1 a.2.1⟩
def b7(v:Vec):Option Bool:=
 bif decide (v.Mem≥0)then
 bif decide (v.Mem≤1125899906842624)then
  bif decide (v.Cores≥0)then
  some (decide (v.Cores≤1125899906842624))
  else
  some false
 else
  some false
 else
 some false
def h94:Hint:=.z
def sp94:Spec fam:=⟨[.v (.st 0) []],[.v .bool []],λa=>b7 a.1⟩
def xj(v:Vec):Option (Vec×Int):=
 (b7 v).bind λx=>
 bif ! x then
 some ((⟨0,0⟩:Vec),11)
 else
 some (v,0)
def h95:Hint:=.z
def sp95:Spec fam:=⟨[.v (.st 0) []],[.v (.st 0) [],.v (.int .i64) []],λa=>xj a.1⟩
def dC(a:Vec)(b:Vec):Option (Vec×Int):=
 (
 (b7 a).bind λx=>
 bif ! x then
  some true
 else
  (b7 b).bind λx1=>
  some (! x1)).bind λq=>
 bif q then
 some ((⟨0,0⟩:Vec),1)
 else
 (xj (⟨w64 (a.Mem+b.Mem),w64 (a.Cores+b.Cores)⟩:Vec)).bind λx2=>
 some (x2.1,x2.2)
def h56:Hint:=(.s .z (.s (.s (.j [] [(0,[(13,.v .bool [])])] .z) .z) .z))
def sp56:Spec fam:=⟨[.v (.st 0) [],.v (.st 0) []],[.v (.st 0) [],.v (.int .i64) []],λa=>dC a.1 a.2.1⟩
def cf(a:Vec)(b:Vec):Option Bool:=
 bif decide (a.Mem≤b.Mem)then
 some (decide (a.Cores≤b.Cores))
 else
 some false
def h57:Hint:=.z
def sp57:Spec fam:=⟨[.v (.st 0) [],.v (.st 0) []],[.v .bool []],λa=>cf a.1 a.2.1⟩
def m_(k:Look)(n:Node)(t:Vec×Int):Option ((Vec×Int) ⊕ (Bool ⊕ Vec)):=
 bif decide (t.2<(k.s.Conts.length:Int))then
 (
  (idx k.s.Conts t.2).bind λx=>
  bif x.Node != n.Id then
  some (.inl (t.1))
  else
  (dC t.1 x.Size).bind λx1=>
  bif x1.2 != 0 then
   some (.inr false)
  else
   some (.inl (x1.1)):Option (Vec ⊕ Bool)).bind λq0=>
 match q0 with
 | .inl sum=>
  some (.inl (sum,w64 (t.2+1)))
 | .inr q=>
  some (.inr (.inl q))
 else
 some (.inr (.inr (t.1)))
def fQ(k:Look)(n:Node):Option Bool:=
 (loop (m_ k n) ((⟨0,0⟩:Vec),0)).bind λq0=>
 match q0 with
 | .inl q1=>
 some q1
 | .inr sum1=>
 (cf sum1 n.Cap).bind λx2=>
 some x2
def h29:Hint:=(.s .z (.s .z (.s (.s .z (.b (.l [(5,.box (.st 0) []),(14,.v (.int .i64) [])] [4,5,7,8,9,14] [(1,[(4,.v .bool [])]),(2,[(5,.box (.st 0) [])])] (.s .z (.s .z (.s (.j [4,5,7,8,9] [(0,[(5,.box (.st 0) [])]),(1,[(4,.v .bool [])])] .z) .z)))))) .z)))
def sp29:Spec fam:=⟨[.v (.st 16) [],.v (.st 4) []],[.v .bool []],λa=>fQ a.1 a.2.1⟩
def oQ(s:List App)(f:(TupT fam [.st 6]→Option Bool)):Option Bool:=
 (nS s f).bind λx=>
 some (decide (x≥0))
def h58:Hint:=.z
def sp58:Spec fam:=⟨[.v (.slice (.st 6)) [],.fn [.st 6] .bool],[.v .bool []],λa=>oQ a.1 a.2.1⟩
def oH(l:List App)(holds:(TupT fam [.st 6]→Option Bool)):Option Bool:=(oQ l (λx=>(holds x).bind λr=>some (!r))).bind λr=>some (!r)
def sp30:Spec fam:=⟨[.v (.slice (.st 6)) [],.fn [.st 6] .bool],[.v .bool []],λa=>oH a.1 a.2.1⟩
def lG(c:Conf)(path:List UInt8):Option Bool:=
 (gG c path).bind λx=>
 bif x.2 then
 (jp c path).bind λx1=>
 some ((x1.length:Int) == 0)
 else
 some false
def h60:Hint:=.z
def sp60:Spec fam:=⟨[.v (.st 3) [],.v .str []],[.v .bool []],λa=>lG a.1 a.2.1⟩
def nj(k:Look)(a:App)(t:Int×Int×Int):Option ((Int×Int×Int) ⊕ ((Int×Int))):=
 bif decide (t.2.2<(k.s.Conts.length:Int))then
 (
  (idx k.s.Conts t.2.2).bind λx=>
  (
  bif x.App == a.Id then
   some (w64 (t.2.1+1))
  else
   some t.2.1).bind λall=>
  (
  bif x.App == a.Id then
   some x.Master
  else
   some false).bind λq=>
  bif q then
  some (w64 (t.1+1),all)
  else
  some (t.1,all)).bind λq1=>
 some (.inl (q1.1,q1.2,w64 (t.2.2+1)))
 else
 some (.inr (t.1,t.2.1))
def gP(k:Look)(a:App):Option Bool:=
 (loop (nj k a) (0,0,0)).bind λq2=>
 (
 bif a.State == 1 then
  bif decide (q2.2>0)then
  some (.inr false)
  else
  some (.inl ())
 else
  bif a.State == 2 then
  bif q2.1 != 1 then
   some (.inr false)
  else
   some (.inl ())
  else
  some (.inr true):Option (Unit ⊕ Bool)).bind λq0=>
 match q0 with
 | .inl _=>
 (lG k.s.Conf a.Queue).bind λx1=>
 some x1
 | .inr q3=>
 some q3
def h31:Hint:=(.s .z (.s .z (.s (.s .z (.b (.l [(5,.v (.int .i64) []),(6,.v (.int .i64) []),(13,.v (.int .i64) [])] [5,6,8,13,14,15,16,17,18,19,20,21,22,23,24,25,26,27,28,29,30,31,32,33,34,35] [(2,[(5,.v (.int .i64) []),(6,.v (.int .i64) [])])] (.s .z (.s .z (.s (.j [5,6,8,15,16,17,18,19,20,21,22,23,24,25,26,27,28,29,30,31,32,33,34] [(0,[(5,.v (.int .i64) []),(6,.v (.int .i64) [])])] (.b (.s .z (.s (.j [6,17,18,19,20,21,22,23] [(0,[(6,.v (.int .i64) [])])] .z) (.s (.j [24,25,26,27,28,29,30,31,32] [(0,[(32,.v .bool [])])] .z) .z))))) .z)))))) (.s (.j [4,36,37] [(0,[]),(1,[(4,.v .bool [])])] .z) .z))))
def sp31:Spec fam:=⟨[.v (.st 16) [],.v (.st 6) []],[.v .bool []],λa=>gP a.1 a.2.1⟩
def sm(s:List Slot)(f:(TupT fam [.st 8]→Option Bool))(t:Int):Option (Int ⊕ (Int ⊕ Unit)):=
 bif decide (t<(s.length:Int))then
 (idx s t).bind λx=>
 (f (x,())).bind λr=>
 bif r then
  some (.inr (.inl t))
 else
  some (.inl (w64 (t+1)))
 else
 some (.inr (.inr ()))
def oY(s:List Slot)(f:(TupT fam [.st 8]→Option Bool)):Option Int:=
 (loop (sm s f) 0).bind λq0=>
 match q0 with
 | .inl q=>
 some q
 | .inr _=>
 some (-1)
def h97:Hint:=(.s .z (.s (.s .z (.b (.l [(8,.v (.int .i64) [])] [4,5,8] [(1,[(4,.v (.int .i64) [])]),(2,[])] .z))) .z))
def sp97:Spec fam:=⟨[.v (.slice (.st 8)) [],.fn [.st 8] .bool],[.v (.int .i64) []],λa=>oY a.1 a.2.1⟩
def mq(s:List Slot)(f:(TupT fam [.st 8]→Option Bool)):Option Bool:=
 (oY s f).bind λx=>
 some (decide (x≥0))
def h61:Hint:=.z
def sp61:Spec fam:=⟨[.v (.slice (.st 8)) [],.fn [.st 8] .bool],[.v .bool []],λa=>mq a.1 a.2.1⟩
def lY(l:List Slot)(holds:(TupT fam [.st 8]→Option Bool)):Option Bool:=(mq l (λx=>(holds x).bind λr=>some (!r))).bind λr=>some (!r)
def sp32:Spec fam:=⟨[.v (.slice (.st 8)) [],.fn [.st 8] .bool],[.v .bool []],λa=>lY a.1 a.2.1⟩
def kg(_a0:Look)(_a1:Slot):Option Bool:=none
def sp33:Spec fam:=⟨[.v (.st 16) [],.v (.st 8) []],[.v .bool []],λa=>kg a.1 a.2.1⟩
def ij(s:State):Option Bool:=
 (na s.Conf).bind λx=>
 bif x == 0 then
 (e_ (⟨⟨⟨s.Conf.Labels,s.Conf.Queues⟩,s.Nodes,s.Apps,s.Conts,s.Slots,s.Plans,s.Now,s.Epoch,s.Seq⟩⟩:Look)).bind λx1=>
 bif x1 then
  (eC (⟨⟨⟨s.Conf.Labels,s.Conf.Queues⟩,s.Nodes,s.Apps,s.Conts,s.Slots,s.Plans,s.Now,s.Epoch,s.Seq⟩⟩:Look)).bind λx2=>
  bif x2 then
  (mQ s.Conts (λa'=>fO (⟨⟨⟨s.Conf.Labels,s.Conf.Queues⟩,s.Nodes,s.Apps,s.Conts,s.Slots,s.Plans,s.Now,s.Epoch,s.Seq⟩⟩:Look) a'.1)).bind λx3=>
  bif x3 then
   (mC s.Nodes (λa'=>fQ (⟨⟨⟨s.Conf.Labels,s.Conf.Queues⟩,s.Nodes,s.Apps,s.Conts,s.Slots,s.Plans,s.Now,s.Epoch,s.Seq⟩⟩:Look) a'.1)).bind λx4=>
   bif x4 then
   (oH s.Apps (λa'=>gP (⟨⟨⟨s.Conf.Labels,s.Conf.Queues⟩,s.Nodes,s.Apps,s.Conts,s.Slots,s.Plans,s.Now,s.Epoch,s.Seq⟩⟩:Look) a'.1)).bind λx5=>
   bif x5 then
    (lY s.Slots (λa'=>kg (⟨⟨⟨s.Conf.Labels,s.Conf.Queues⟩,s.Nodes,s.Apps,s.Conts,s.Slots,s.Plans,s.Now,s.Epoch,s.Seq⟩⟩:Look) a'.1)).bind λx6=>
    some x6
   else
    some false
   else
   some false
  else
   some false
  else
  some false
 else
  some false
 else
 some false
def h15:Hint:=.z
def sp15:Spec fam:=⟨[.v (.st 10) []],[.v .bool []],λa=>ij a.1⟩
def kN(s:List (List UInt8)):Option (List (List UInt8)):=
 bif s.isEmpty then
 none
 else
 (app 16 [] s).bind λl=>
 some l
def aJ(s:List (List UInt8)):Option (List (List UInt8)):=app 16 [] s
def h98:Hint:=.z
def sp98:Spec fam:=⟨[.v (.slice (.str)) []],[.v (.slice (.str)) [0]],λa=>aJ a.1⟩
def JQ:Spec fam:=⟨[.v (.slice (.str)) []],[.v (.slice (.str)) [0]],λa=>kN a.1⟩
def zq(s:List Queue):Option (List Queue):=
 bif s.isEmpty then
 none
 else
 (app 48 [] s).bind λl=>
 some l
def dz(s:List Queue):Option (List Queue):=app 48 [] s
def h99:Hint:=.z
def sp99:Spec fam:=⟨[.v (.slice (.st 2)) []],[.v (.slice (.st 2)) [0]],λa=>dz a.1⟩
def I1:Spec fam:=⟨[.v (.slice (.st 2)) []],[.v (.slice (.st 2)) [0]],λa=>zq a.1⟩
def zw(s:List Node):Option (List Node):=
 bif s.isEmpty then
 none
 else
 (app 64 [] s).bind λl=>
 some l
def dA(s:List Node):Option (List Node):=app 64 [] s
def h101:Hint:=.z
def sp101:Spec fam:=⟨[.v (.slice (.st 4)) []],[.v (.slice (.st 4)) [0]],λa=>dA a.1⟩
def Ie:Spec fam:=⟨[.v (.slice (.st 4)) []],[.v (.slice (.st 4)) [0]],λa=>zw a.1⟩
def zm(s:List Cont):Option (List Cont):=
 bif s.isEmpty then
 none
 else
 (app 72 [] s).bind λl=>
 some l
def bf(s:List Cont):Option (List Cont):=app 72 [] s
def h102:Hint:=.z
def sp102:Spec fam:=⟨[.v (.slice (.st 7)) []],[.v (.slice (.st 7)) [0]],λa=>bf a.1⟩
def Iw:Spec fam:=⟨[.v (.slice (.st 7)) []],[.v (.slice (.st 7)) [0]],λa=>zm a.1⟩
def zi(s:List Slot):Option (List Slot):=
 bif s.isEmpty then
 none
 else
 (app 24 [] s).bind λl=>
 some l
def dF(s:List Slot):Option (List Slot):=app 24 [] s
def h103:Hint:=.z
def sp103:Spec fam:=⟨[.v (.slice (.st 8)) []],[.v (.slice (.st 8)) [0]],λa=>dF a.1⟩
def HE:Spec fam:=⟨[.v (.slice (.st 8)) []],[.v (.slice (.st 8)) [0]],λa=>zi a.1⟩
def DD(s:List Plan):Option (List Plan):=
 bif s.isEmpty then
 none
 else
 (app 48 [] s).bind λl=>
 some l
def jd(s:List Plan):Option (List Plan):=app 48 [] s
def h104:Hint:=.z
def sp104:Spec fam:=⟨[.v (.slice (.st 9)) []],[.v (.slice (.st 9)) [0]],λa=>jd a.1⟩
def IB:Spec fam:=⟨[.v (.slice (.st 9)) []],[.v (.slice (.st 9)) [0]],λa=>DD a.1⟩
def AM(s:List App):Option (List App):=
 bif s.isEmpty then
 none
 else
 (app 200 [] s).bind λl=>
 some l
def en(s:List App):Option (List App):=app 200 [] s
def h105:Hint:=.z
def sp105:Spec fam:=⟨[.v (.slice (.st 6)) []],[.v (.slice (.st 6)) [0]],λa=>en a.1⟩
def IF:Spec fam:=⟨[.v (.slice (.st 6)) []],[.v (.slice (.st 6)) [0]],λa=>AM a.1⟩
def yH(x9:List App)(t1:List App×Nat×Int):Option ((List App×Nat×Int) ⊕ (List App×Nat×Int)):=
 bif decide (t1.2.2<(x9.length:Int))then
 (inb t1.2.2 t1.1.length).bind λi2=>
 bif Nat.ble t1.2.1 i2 then
  (t1.1[i2]?).bind λx10=>
  (kS x10).bind λx11=>
  (inb t1.2.2 t1.1.length).bind λi3=>
  bif Nat.beq i3 t1.2.1 then
  (t1.1[i3]?).bind λx12=>
  some (.inl (List.set t1.1 i3 x11,t1.2.1+1,w64 (t1.2.2+1)))
  else
  none
 else
  none
 else
 some (.inr (t1.1,t1.2.1,t1.2.2))
def y7(x1:List Queue)(t:List Queue×Nat×Int):Option ((List Queue×Nat×Int) ⊕ (List Queue×Nat×Int)):=
 bif decide (t.2.2<(x1.length:Int))then
 (inb t.2.2 t.1.length).bind λi=>
 bif Nat.ble t.2.1 i then
  (t.1[i]?).bind λx2=>
  (gh x2.Caps).bind λx3=>
  (inb t.2.2 t.1.length).bind λi1=>
  bif Nat.beq i1 t.2.1 then
  (t.1[i1]?).bind λx4=>
  some (.inl (List.set t.1 i1 (⟨x4.Path,x3,x4.User⟩:Queue),t.2.1+1,w64 (t.2.2+1)))
  else
  none
 else
  none
 else
 some (.inr (t.1,t.2.1,t.2.2))
def q_(s:State):Option State:=
 (aJ s.Conf.Labels).bind λx=>
 (dz s.Conf.Queues).bind λx1=>
 (loop (y7 x1) (x1,0,0)).bind λq=>
 bif Nat.ble q.1.length q.2.1 then
 (dA s.Nodes).bind λx5=>
 (bf s.Conts).bind λx6=>
 (dF s.Slots).bind λx7=>
 (jd s.Plans).bind λx8=>
 (en s.Apps).bind λx9=>
 (loop (yH x9) (x9,0,0)).bind λq1=>
 bif Nat.ble q1.1.length q1.2.1 then
  some (⟨⟨x,q.1⟩,x5,q1.1,x6,x7,x8,s.Now,s.Epoch,s.Seq⟩:State)
 else
  none
 else
 none
def h63:Hint:=(.s .z (.s .z (.s (.s .z (.b (.m 14 23 2 [3,4,24,25,26,27,28,29,30,31,32,33,34,35,36,37] .z))) (.s .z (.s .z (.s (.s .z (.b (.m 56 61 4 [5,6] .z))) .z))))))
def sp63:Spec fam:=⟨[.v (.st 10) []],[.v (.st 10) [0,1001,2,1003,4,5,6]],λa=>q_ a.1⟩
def vC(x9:List App)(t1:List App×Int):Option ((List App×Int) ⊕ List App):=
 bif decide (t1.2<(x9.length:Int))then
 (inb t1.2 t1.1.length).bind λi2=>
 (t1.1[i2]?).bind λx10=>
 (kS x10).bind λx11=>
 (inb t1.2 t1.1.length).bind λi3=>
 (t1.1[i3]?).bind λx12=>
 some (.inl (List.set t1.1 i3 x11,w64 (t1.2+1)))
 else
 some (.inr t1.1)
def vE(x1:List Queue)(t:List Queue×Int):Option ((List Queue×Int) ⊕ List Queue):=
 bif decide (t.2<(x1.length:Int))then
 (inb t.2 t.1.length).bind λi=>
 (t.1[i]?).bind λx2=>
 (gh x2.Caps).bind λx3=>
 (inb t.2 t.1.length).bind λi1=>
 (t.1[i1]?).bind λx4=>
 some (.inl (List.set t.1 i1 (⟨x4.Path,x3,x4.User⟩:Queue),w64 (t.2+1)))
 else
 some (.inr t.1)
def m9(s:State):Option State:=
 (aJ s.Conf.Labels).bind λx=>
 (dz s.Conf.Queues).bind λx1=>
 (loop (vE x1) (x1,0)).bind λq=>
 (dA s.Nodes).bind λx5=>
 (bf s.Conts).bind λx6=>
 (dF s.Slots).bind λx7=>
 (jd s.Plans).bind λx8=>
 (en s.Apps).bind λx9=>
 (loop (vC x9) (x9,0)).bind λq1=>
 some (⟨⟨x,q⟩,x5,q1,x6,x7,x8,s.Now,s.Epoch,s.Seq⟩:State)
def Je:Hint:=(.s .z (.s .z (.s (.s .z (.b (.l [(14,.row (.st 2) false),(23,.v (.int .i64) [])] [3,4,14,23,24,25,26,27,28,29,30,31,32,33,34,35,36,37] [(2,[(14,.row (.st 2) false)])] .z))) (.s .z (.s .z (.s (.s .z (.b (.l [(56,.row (.st 6) false),(61,.v (.int .i64) [])] [5,6,56,61] [(4,[(56,.row (.st 6) false)])] .z))) .z))))))
def Hi:Spec fam:=⟨[.v (.st 10) []],[.v (.st 10) [0,1,2,3,4,5,6]],λa=>m9 a.1⟩
def tI(c:Cont)(p:Int):Option Bool:=
 some (c.Id == p)
def h65:Hint:=.z
def sp65:Spec fam:=⟨[.v (.st 7) [],.rp (.int .i64)],[.v .bool []],λa=>tI a.1 a.2.1⟩
def Eg(_a0:State)(_a1:Int):Option State:=none
def sp67:Spec fam:=⟨[.v (.st 10) [],.v (.int .i64) []],[.v (.st 10) []],λa=>Eg a.1 a.2.1⟩
def jw(s:List Cont)(i:Int)(j:Int):Option (List Cont):=del s i j
def sp68:Spec fam:=⟨[.v (.slice (.st 7)) [0],.v (.int .i64) [],.v (.int .i64) []],[.v (.slice (.st 7)) [0]],λa=>jw a.1 a.2.1 a.2.2.1⟩
def ia(s:List Int)(v:Int)(t:Int):Option (Int ⊕ (Int ⊕ Unit)):=
 bif decide (t<(s.length:Int))then
 (idx s t).bind λx=>
 bif v == x then
  some (.inr (.inl t))
 else
  some (.inl (w64 (t+1)))
 else
 some (.inr (.inr ()))
def cP(s:List Int)(v:Int):Option Int:=
 (loop (ia s v) 0).bind λq0=>
 match q0 with
 | .inl q=>
 some q
 | .inr _=>
 some (-1)
def h69:Hint:=(.s .z (.s (.s .z (.b (.l [(8,.v (.int .i64) [])] [4,5,8] [(1,[(4,.v (.int .i64) [])]),(2,[])] .z))) .z))
def sp69:Spec fam:=⟨[.v (.slice (.int .i64)) [],.v (.int .i64) []],[.v (.int .i64) []],λa=>cP a.1 a.2.1⟩
def rM(_a0:List Int)(_a1:Int)(_a2:Int):Option (List Int):=none
def sp70:Spec fam:=⟨[.v (.slice (.int .i64)) [],.v (.int .i64) [],.v (.int .i64) []],[.v (.slice (.int .i64)) []],λa=>rM a.1 a.2.1 a.2.2.1⟩
def rP(ids:List Int)(t:State×Int):Option ((State×Int) ⊕ State):=
 bif decide (t.2<(ids.length:Int))then
 (
  (idx ids t.2).bind λx1=>
  (gF t.1.Conts (λa'=>tI a'.1 x1)).bind λk=>
  bif decide (k<0)then
  some t.1
  else
  (inb k t.1.Conts.length).bind λi=>
  (t.1.Conts[i]?).bind λx2=>
  (nG t.1 x2.App).bind λi1=>
  (
   bif decide (i1≥0)then
   some x2.Master
   else
   some false).bind λq=>
  bif q then
   none
  else
   (jw t.1.Conts k (w64 (k+1))).bind λx3=>
   bif decide (i1<0)then
   some (⟨⟨t.1.Conf.Labels,t.1.Conf.Queues⟩,t.1.Nodes,t.1.Apps,x3,t.1.Slots,t.1.Plans,t.1.Now,t.1.Epoch,t.1.Seq⟩:State)
   else
   (inb i1 t.1.Apps.length).bind λi2=>
   (t.1.Apps[i2]?).bind λx4=>
   (cP x4.Grants x1).bind λj=>
   bif decide (j≥0)then
    none
   else
    (app 8 x4.Kills [x1]).bind λl=>
    (inb i1 t.1.Apps.length).bind λi3=>
    bif Nat.beq i3 i2 then
    (t.1.Apps[i3]?).bind λx5=>
    some (⟨⟨t.1.Conf.Labels,t.1.Conf.Queues⟩,t.1.Nodes,List.set t.1.Apps i3 (⟨x4.Id,x4.State,x4.Queue,x4.User,x4.Prio,⟨x4.Master.Mem,x4.Master.Cores⟩,x4.Asks,x4.Seen,x4.Beat,x4.Grants,l,x4.Told,x4.Lost⟩:App),x3,t.1.Slots,t.1.Plans,t.1.Now,t.1.Epoch,t.1.Seq⟩:State)
    else
    none).bind λs1=>
 some (.inl (s1,w64 (t.2+1)))
 else
 some (.inr t.1)
def cL(s:State)(ids:List Int):Option State:=
 (q_ s).bind λx=>
 (loop (rP ids) (x,0)).bind λs2=>
 (q_ s2).bind λx6=>
 some x6
def h34:Hint:=(.s .z (.s .z (.s (.s .z (.b (.l [(2,.box (.st 10) [0,1001,2,1003,4,5,6]),(16,.v (.int .i64) [])] [2,6,7,8,9,10,11,13,16,40] [(2,[(2,.box (.st 10) [0,1001,2,1003,4,5,6])])] (.s .z (.s .z (.s (.j [2,6,7,8,9,10,11,40] [(0,[(2,.box (.st 10) [0,1001,2,1003,4,5,6])])] (.b (.s .z (.s .z (.s .z (.s .z (.s .z (.s (.s (.j [] [(0,[(40,.v .bool [])])] .z) .z) .z)))))))) .z)))))) .z)))
def sp34:Spec fam:=⟨[.v (.st 10) [],.v (.slice (.int .i64)) []],[.v (.st 10) [0,1001,2,1003,4,5,6]],λa=>cL a.1 a.2.1⟩
def C4(_a0:Int):Option Output:=none
def sp82:Spec fam:=⟨[.v (.int .i64) []],[.v (.st 11) []],λa=>C4 a.1⟩
def kx(s:List UInt8):Option (Int×Bool):=numD s
def sp226:Spec fam:=⟨[.v .str []],[.v (.int .i64) [],.v .bool []],λa=>kx a.1⟩
def s_(s:List UInt8)(sep:List UInt8):Option (List UInt8×List UInt8×Bool):=
 (j8 s sep).bind λi=>
 bif decide (i≥0)then
 (slc s 0 i).bind λs1=>
 (slc s (w64 (i+(sep.length:Int))) (s.length:Int)).bind λs2=>
 some (s1,s2,true)
 else
 some (s,([]:List UInt8),false)
def h311:Hint:=.z
def sp311:Spec fam:=⟨[.v .str [],.v .str []],[.v .str [],.v .str [],.v .bool []],λa=>s_ a.1 a.2.1⟩
def yI(s:List UInt8)(sep:List UInt8):Option (List UInt8×List UInt8×Bool):=
 (s_ s sep).bind λx=>
 some (x.1,x.2.1,x.2.2)
def h273:Hint:=.z
def sp273:Spec fam:=⟨[.v .str [],.v .str []],[.v .str [],.v .str [],.v .bool []],λa=>yI a.1 a.2.1⟩
def AR(w:List UInt8):Option (Cap×Bool):=
 (yI w ([47]:List UInt8)).bind λx=>
 (kx x.1).bind λx1=>
 (kx x.2.1).bind λx2=>
 bif x.2.2 then
 bif x1.2 then
  some ((⟨x1.1,x2.1⟩:Cap),x2.2)
 else
  some ((⟨x1.1,x2.1⟩:Cap),false)
 else
 some ((⟨x1.1,x2.1⟩:Cap),false)
def h227:Hint:=.z
def sp227:Spec fam:=⟨[.v .str []],[.v (.st 1) [],.v .bool []],λa=>AR a.1⟩
def lL(l:List (List UInt8))(t:Bool×Queue×Int):Option ((Bool×Queue×Int) ⊕ ((Bool×Queue))):=
 bif decide (t.2.2<(l.length:Int))then
 (idx l t.2.2).bind λx3=>
 (AR x3).bind λx4=>
 (
  bif t.1 then
  some x4.2
  else
  some false).bind λok=>
 (app 16 t.2.1.Caps [x4.1]).bind λl1=>
 some (.inl (ok,(⟨t.2.1.Path,l1,t.2.1.User⟩:Queue),w64 (t.2.2+1)))
 else
 some (.inr (t.1,t.2.1))
def fP(r:Reader)(w:List (List UInt8)):Option (Int×Reader):=
 bif decide ((r.c.Queues.length:Int)≥16)then
 some (4,r)
 else
 bif(w.length:Int) != (w64 (3+(r.c.Labels.length:Int)))then
  some (6,r)
 else
  (idx w 2).bind λx=>
  (kx x).bind λx1=>
  (idx w 1).bind λx2=>
  (slc w 3 (w.length:Int)).bind λl=>
  (loop (lL l) (x1.2,(⟨x2,[],x1.1⟩:Queue),0)).bind λq=>
  bif ! q.1 then
  some (6,r)
  else
  (app 48 r.c.Queues [q.2]).bind λl2=>
  some (0,(⟨⟨r.c.Labels,l2⟩,r.seen⟩:Reader))
def h194:Hint:=(.s .z (.s .z (.s .z (.s .z (.s .z (.s (.s .z (.b (.l [(6,.v .bool []),(7,.box (.st 2) [1]),(44,.v (.int .i64) [])] [6,7,9,10,11,44] [(2,[(6,.v .bool []),(7,.box (.st 2) [1])])] (.s .z (.s .z (.s (.b (.s .z (.s .z (.s (.j [6] [(0,[(6,.v .bool [])])] .z) .z)))) .z)))))) .z))))))
def sp194:Spec fam:=⟨[.box (.st 17) [0,1],.v (.slice (.str)) []],[.v (.int .i64) []],λa=>fP a.1 a.2.1⟩
def gI(r:Reader)(w:List (List UInt8)):Option (Int×Reader):=
 bif(w.length:Int) == 0 then
 some (0,r)
 else
 (
  bif ! r.seen then
  (idx w 0).bind λx=>
  some (x == ([108,97,98,101,108,115]:List UInt8))
  else
  some false).bind λq=>
 bif q then
  bif decide ((w.length:Int)>3)then
  some (4,(⟨⟨r.c.Labels,r.c.Queues⟩,true⟩:Reader))
  else
  (mkl 16 (w.length:Int) (w.length:Int) []).bind λl=>
  (inS 1 (l.length:Int) l.length).bind λp=>
  (slc w 1 (w.length:Int)).bind λl1=>
  some (0,(⟨⟨cpy l p.1 p.2 l1,r.c.Queues⟩,true⟩:Reader))
 else
  (
  bif ! r.seen then
   some true
  else
   (idx w 0).bind λx1=>
   some (! (x1 == ([113,117,101,117,101]:List UInt8)))).bind λq1=>
  bif q1 then
  some (6,r)
  else
  (fP r w).bind λx2=>
  some (x2.1,x2.2)
def h160:Hint:=(.s .z (.s (.b (.s .z (.c .z (.s (.j [] [(0,[(9,.v .bool [])])] .z) (.c .z (.s (.j [] [(0,[(43,.v .bool [])])] .z) .z)))))) .z))
def sp160:Spec fam:=⟨[.box (.st 17) [0,1],.v (.slice (.str)) []],[.v (.int .i64) []],λa=>gI a.1 a.2.1⟩
def bA(del:(TupT fam [.str]→Option Bool))(t:List (List UInt8)×Int×Int):Option ((List (List UInt8)×Int×Int) ⊕ ((List (List UInt8)×Int))):=
 bif decide (t.2.2<(t.1.length:Int))then
 (
  (inb t.2.2 t.1.length).bind λi1=>
  (t.1[i1]?).bind λx=>
  (del (x,())).bind λr=>
  bif ! r then
  (inb t.2.1 t.1.length).bind λi2=>
  (t.1[i2]?).bind λx1=>
  some (List.set t.1 i2 x,w64 (t.2.1+1))
  else
  some (t.1,t.2.1)).bind λq=>
 some (.inl (q.1,q.2,w64 (t.2.2+1)))
 else
 some (.inr (t.1,t.2.1))
def aZ(s:List (List UInt8))(del:(TupT fam [.str]→Option Bool)):Option (List (List UInt8)):=
 (aQ s del).bind λi=>
 bif i == (-1)then
 some s
 else
 (loop (bA del) (s,i,w64 (i+1))).bind λq1=>
 (inS q1.2 (q1.1.length:Int) q1.1.length).bind λp=>
 (inS 0 q1.2 (cpy q1.1 p.1 p.2 (List.replicate p.2 [])).length).bind λp1=>
 some (List.take p1.2 (cpy q1.1 p.1 p.2 (List.replicate p.2 [])))
def h195:Hint:=(.s .z (.s .z (.s .z (.s (.s .z (.b (.l [(0,.row .str false),(5,.v (.int .i64) []),(6,.v (.int .i64) [])] [0,5,6,7] [(2,[(0,.row .str false),(5,.v (.int .i64) [])])] (.s .z (.s (.j [0,5,7] [(0,[(0,.row .str false),(5,.v (.int .i64) [])])] .z) .z))))) (.s .z (.s (.r [9998]) .z))))))
def sp195:Spec fam:=⟨[.v (.slice (.str)) [0],.fn [.str] .bool],[.v (.slice (.str)) [0]],λa=>aZ a.1 a.2.1⟩
def sx(w:List UInt8):Option Bool:=
 some (w == ([]:List UInt8))
def h196:Hint:=.z
def sp196:Spec fam:=⟨[.v .str []],[.v .bool []],λa=>sx a.1⟩
def qG(line:List UInt8):Option (List (List UInt8)):=
 (eT line ([32]:List UInt8)).bind λx=>
 (aZ x (λa'=>sx a'.1)).bind λx1=>
 some x1
def h161:Hint:=.z
def sp161:Spec fam:=⟨[.v .str []],[.v (.slice (.str)) [0]],λa=>qG a.1⟩
def jX(a:Int)(cmp:(TupT fam [.st 2,.st 2]→Option Int))(t1:List Queue×Int):Option ((List Queue×Int) ⊕ List Queue):=
 (
 bif decide (t1.2>a)then
  (inb t1.2 t1.1.length).bind λi=>
  (t1.1[i]?).bind λx=>
  (inb (w64 (t1.2 - 1)) t1.1.length).bind λi1=>
  (t1.1[i1]?).bind λx1=>
  (cmp (x,x1,())).bind λr=>
  some (decide (r<0))
 else
  some false).bind λq=>
 bif q then
 (inb (w64 (t1.2 - 1)) t1.1.length).bind λi2=>
 (t1.1[i2]?).bind λx2=>
 (inb t1.2 t1.1.length).bind λi3=>
 (t1.1[i3]?).bind λx3=>
 (inb t1.2 t1.1.length).bind λi4=>
 (t1.1[i4]?).bind λx4=>
 (inb (w64 (t1.2 - 1)) (List.set t1.1 i4 x2).length).bind λi5=>
 ((List.set t1.1 i4 x2)[i5]?).bind λx5=>
 some (.inl (List.set (List.set t1.1 i4 x2) i5 x3,w64 (t1.2 - 1)))
 else
 some (.inr t1.1)
def kj(a:Int)(b:Int)(cmp:(TupT fam [.st 2,.st 2]→Option Int))(t:List Queue×Int):Option ((List Queue×Int) ⊕ List Queue):=
 bif decide (t.2<b)then
 (loop (jX a cmp) (t.1,t.2)).bind λdata1=>
 some (.inl (data1,w64 (t.2+1)))
 else
 some (.inr t.1)
def gq(data:List Queue)(a:Int)(b:Int)(cmp:(TupT fam [.st 2,.st 2]→Option Int)):Option (List Queue):=
 (loop (kj a b cmp) (data,w64 (a+1))).bind λdata2=>
 some data2
def h228:Hint:=(.s .z (.b (.l [(0,.row (.st 2) false),(8,.v (.int .i64) [])] [0,8,9,34] [(2,[(0,.row (.st 2) false)])] (.s .z (.s (.b (.s .z (.b (.l [(0,.row (.st 2) false),(9,.v (.int .i64) [])] [0,9,34] [(4,[(0,.row (.st 2) false)])] (.s (.s (.j [] [(0,[(34,.v .bool [])])] .z) .z) .z))))) .z)))))
def sp228:Spec fam:=⟨[.row (.st 2) false,.v (.int .i64) [],.v (.int .i64) [],.fn [.st 2,.st 2] (.int .i64)],[],λa=>gq a.1 a.2.1 a.2.2.1 a.2.2.2.1⟩
def BO(_a0:List Queue)(_a1:Int)(_a2:Int)(_a3:Int)(_a4:(TupT fam [.st 2,.st 2]→Option Int)):Option Unit:=none
def sp274:Spec fam:=⟨[.v (.slice (.st 2)) [],.v (.int .i64) [],.v (.int .i64) [],.v (.int .i64) [],.fn [.st 2,.st 2] (.int .i64)],[],λa=>BO a.1 a.2.1 a.2.2.1 a.2.2.2.1 a.2.2.2.2.1⟩
def vW(data:List Queue)(cmp:(TupT fam [.st 2,.st 2]→Option Int))(p:Int)(t4:Int×Int):Option ((Int×Int) ⊕ Int):=
 bif decide (t4.1<t4.2)then
 let c:=w64 (shrK .u64 (IntKind.u64.wrap (w64 (t4.1+t4.2))) 1)
 (inb (w64 (p - c)) data.length).bind λi14=>
 (data[i14]?).bind λx12=>
 (inb c data.length).bind λi15=>
 (data[i15]?).bind λx13=>
 (cmp (x12,x13,())).bind λr2=>
 bif ! (decide (r2<0))then
  some (.inl (w64 (c+1),t4.2))
 else
  some (.inl (t4.1,c))
 else
 some (.inr t4.1)
def wj(i9:Int)(t3:List Queue×Int):Option ((List Queue×Int) ⊕ List Queue):=
 bif decide (t3.2>i9)then
 (inb (w64 (t3.2 - 1)) t3.1.length).bind λi10=>
 (t3.1[i10]?).bind λx8=>
 (inb t3.2 t3.1.length).bind λi11=>
 (t3.1[i11]?).bind λx9=>
 (inb t3.2 t3.1.length).bind λi12=>
 (t3.1[i12]?).bind λx10=>
 (inb (w64 (t3.2 - 1)) (List.set t3.1 i12 x8).length).bind λi13=>
 ((List.set t3.1 i12 x8)[i13]?).bind λx11=>
 some (.inl (List.set (List.set t3.1 i12 x8) i13 x9,w64 (t3.2 - 1)))
 else
 some (.inr t3.1)
def wh(data:List Queue)(m:Int)(cmp:(TupT fam [.st 2,.st 2]→Option Int))(t2:Int×Int):Option ((Int×Int) ⊕ Int):=
 bif decide (t2.1<t2.2)then
 let h1:=w64 (shrK .u64 (IntKind.u64.wrap (w64 (t2.1+t2.2))) 1)
 (inb m data.length).bind λi7=>
 (data[i7]?).bind λx6=>
 (inb h1 data.length).bind λi8=>
 (data[i8]?).bind λx7=>
 (cmp (x6,x7,())).bind λr1=>
 bif ! (decide (r1<0))then
  some (.inl (w64 (h1+1),t2.2))
 else
  some (.inl (t2.1,h1))
 else
 some (.inr t2.1)
def vY(i2:Int)(t1:List Queue×Int):Option ((List Queue×Int) ⊕ List Queue):=
 bif decide (t1.2<(w64 (i2 - 1)))then
 (inb (w64 (t1.2+1)) t1.1.length).bind λi3=>
 (t1.1[i3]?).bind λx2=>
 (inb t1.2 t1.1.length).bind λi4=>
 (t1.1[i4]?).bind λx3=>
 (inb t1.2 t1.1.length).bind λi5=>
 (t1.1[i5]?).bind λx4=>
 (inb (w64 (t1.2+1)) (List.set t1.1 i5 x2).length).bind λi6=>
 ((List.set t1.1 i5 x2)[i6]?).bind λx5=>
 some (.inl (List.set (List.set t1.1 i5 x2) i6 x3,w64 (t1.2+1)))
 else
 some (.inr t1.1)
def wd(data:List Queue)(a:Int)(cmp:(TupT fam [.st 2,.st 2]→Option Int))(t:Int×Int):Option ((Int×Int) ⊕ Int):=
 bif decide (t.1<t.2)then
 let h:=w64 (shrK .u64 (IntKind.u64.wrap (w64 (t.1+t.2))) 1)
 (inb h data.length).bind λi=>
 (data[i]?).bind λx=>
 (inb a data.length).bind λi1=>
 (data[i1]?).bind λx1=>
 (cmp (x,x1,())).bind λr=>
 bif decide (r<0)then
  some (.inl (w64 (h+1),t.2))
 else
  some (.inl (t.1,h))
 else
 some (.inr t.1)
def zO(self:(List Queue)→Int→Int→Int→((TupT fam [.st 2,.st 2]→Option Int))→Option (List Queue))(data:List Queue)(a:Int)(m:Int)(b:Int)(cmp:(TupT fam [.st 2,.st 2]→Option Int)):Option (List Queue):=
 bif(w64 (m - a)) == 1 then
 (loop (wd data a cmp) (m,b)).bind λi2=>
 (loop (vY i2) (data,a)).bind λdata1=>
 some data1
 else
 bif(w64 (b - m)) == 1 then
  (loop (wh data m cmp) (a,m)).bind λi9=>
  (loop (wj i9) (data,m)).bind λdata2=>
  some data2
 else
  let mid:=w64 (shrK .u64 (IntKind.u64.wrap (w64 (a+b))) 1)
  (
  bif decide (m>mid)then
   let start:=w64 ((w64 (mid+m)) - b)
   some (start,mid)
  else
   some (a,m)).bind λq=>
  let p:=w64 ((w64 (mid+m)) - 1)
  (loop (vW data cmp p) (q.1,q.2)).bind λstart1=>
  let end_:=w64 ((w64 (mid+m)) - start1)
  (
  bif decide (start1<m)then
   some (decide (m<end_))
  else
   some false).bind λq1=>
  bif q1 then
  none
  else
  (
   (
   bif decide (a<start1)then
    some (decide (start1<mid))
   else
    some false).bind λq2=>
   bif q2 then
   (self data a start1 mid cmp).bind λx14=>
   some x14
   else
   some data).bind λdata3=>
  (
   bif decide (mid<end_)then
   some (decide (end_<b))
   else
   some false).bind λq3=>
  bif q3 then
   (self data3 mid end_ b cmp).bind λx15=>
   some x15
  else
   some data3
def kP:Nat→(List Queue)→Int→Int→Int→((TupT fam [.st 2,.st 2]→Option Int))→Option (List Queue)
 | 0=>λ_ _ _ _ _=>none
 | n+1=>zO (kP n)
def jB(a0:List Queue)(a1:Int)(a2:Int)(a3:Int)(a4:(TupT fam [.st 2,.st 2]→Option Int)):Option (List Queue):=kP 64 a0 a1 a2 a3 a4
def h229:Hint:=(.s (.s .z (.c (.s .z (.s .z (.s (.b (.l [(10,.v (.int .i64) []),(11,.v (.int .i64) [])] [10,11,12] [(2,[(10,.v (.int .i64) [])])] .z)) (.s (.s .z (.b (.l [(0,.row (.st 2) false),(13,.v (.int .i64) [])] [0,13] [(4,[(0,.row (.st 2) false)])] .z))) .z)))) .z)) (.s (.s .z (.c (.s .z (.s .z (.s (.b (.l [(14,.v (.int .i64) []),(15,.v (.int .i64) [])] [14,15,16] [(6,[(14,.v (.int .i64) [])])] .z)) (.s (.s .z (.b (.l [(0,.row (.st 2) false),(17,.v (.int .i64) [])] [0,17] [(8,[(0,.row (.st 2) false)])] .z))) .z)))) .z)) (.s .z (.s .z (.s .z (.s (.j [20,21] [(0,[(20,.v (.int .i64) []),(21,.v (.int .i64) [])])] .z) (.s .z (.s (.b (.l [(20,.v (.int .i64) []),(21,.v (.int .i64) [])] [20,21,23] [(10,[(20,.v (.int .i64) [])])] .z)) (.s .z (.s (.s (.j [] [(0,[(185,.v .bool [])])] .z) .z) (.s (.j [0,199] [(0,[(0,.row (.st 2) false)])] (.s (.j [] [(0,[(199,.v .bool [])])] .z) .z)) (.s (.j [] [(0,[(213,.v .bool [])])] .z) .z))))))))))))
def sp229:Spec fam:=⟨[.row (.st 2) false,.v (.int .i64) [],.v (.int .i64) [],.v (.int .i64) [],.fn [.st 2,.st 2] (.int .i64)],[],λa=>jB a.1 a.2.1 a.2.2.1 a.2.2.2.1 a.2.2.2.2.1⟩
def Jd(n:Nat):Spec fam:=⟨[.row (.st 2) false,.v (.int .i64) [],.v (.int .i64) [],.v (.int .i64) [],.fn [.st 2,.st 2] (.int .i64)],[],λa=>kP n a.1 a.2.1 a.2.2.1 a.2.2.2.1 a.2.2.2.2.1⟩
def qm(n:Int)(cmp:(TupT fam [.st 2,.st 2]→Option Int))(t1:List Queue×Int)(t2:List Queue×Int×Int):Option ((List Queue×Int×Int) ⊕ ((List Queue×Int))):=
 bif decide (t2.2.2≤n)then
 (jB t2.1 t2.2.1 (w64 (t2.2.1+t1.2)) t2.2.2 cmp).bind λx2=>
 let b:=w64 (t2.2.2+(w64 (2*t1.2)))
 some (.inl (x2,t2.2.2,b))
 else
 some (.inr (t2.1,t2.2.1))
def j_(n:Int)(cmp:(TupT fam [.st 2,.st 2]→Option Int))(t1:List Queue×Int):Option ((List Queue×Int) ⊕ List Queue):=
 bif decide (t1.2<n)then
 (loop (qm n cmp t1) (t1.1,0,w64 (2*t1.2))).bind λq1=>
 (
  let m:=w64 (q1.2+t1.2)
  bif decide (m<n)then
  (jB q1.1 q1.2 m n cmp).bind λx3=>
  some x3
  else
  some q1.1).bind λdata1=>
 some (.inl (data1,w64 (t1.2*2)))
 else
 some (.inr t1.1)
def kc(n:Int)(cmp:(TupT fam [.st 2,.st 2]→Option Int))(t:List Queue×Int×Int):Option ((List Queue×Int×Int) ⊕ ((List Queue×Int))):=
 bif decide (t.2.2≤n)then
 (gq t.1 t.2.1 t.2.2 cmp).bind λx=>
 some (.inl (x,t.2.2,w64 (t.2.2+20)))
 else
 some (.inr (t.1,t.2.1))
def jD(data:List Queue)(n:Int)(cmp:(TupT fam [.st 2,.st 2]→Option Int)):Option (List Queue):=
 (loop (kc n cmp) (data,0,20)).bind λq=>
 (gq q.1 q.2 n cmp).bind λx1=>
 (loop (j_ n cmp) (x1,20)).bind λdata2=>
 some data2
def h197:Hint:=(.s .z (.s .z (.s (.b (.l [(0,.row (.st 2) false),(7,.v (.int .i64) []),(8,.v (.int .i64) [])] [0,7,8] [(2,[(0,.row (.st 2) false),(7,.v (.int .i64) [])])] .z)) (.s .z (.b (.l [(0,.row (.st 2) false),(6,.v (.int .i64) [])] [0,6,7,8,9] [(4,[(0,.row (.st 2) false)])] (.s .z (.b (.s .z (.s (.b (.l [(0,.row (.st 2) false),(7,.v (.int .i64) []),(8,.v (.int .i64) [])] [0,7,8] [(6,[(0,.row (.st 2) false),(7,.v (.int .i64) [])])] .z)) (.s (.j [0,9] [(0,[(0,.row (.st 2) false)])] .z) .z)))))))))))
def sp197:Spec fam:=⟨[.row (.st 2) false,.v (.int .i64) [],.fn [.st 2,.st 2] (.int .i64)],[],λa=>jD a.1 a.2.1 a.2.2.1⟩
def jJ(x:List Queue)(cmp:(TupT fam [.st 2,.st 2]→Option Int)):Option (List Queue):=
 (jD x (x.length:Int) cmp).bind λx1=>
 some x1
def h162:Hint:=.z
def sp162:Spec fam:=⟨[.row (.st 2) false,.fn [.st 2,.st 2] (.int .i64)],[],λa=>jJ a.1 a.2.1⟩
def kf(x:List UInt8):Option Bool:=
 some (! (x == x))
def h198:Hint:=.z
def sp198:Spec fam:=⟨[.v .str []],[.v .bool []],λa=>kf a.1⟩
def eE(x:List UInt8)(y:List UInt8):Option Int:=
 (kf x).bind λxNaN=>
 (kf y).bind λyNaN=>
 bif xNaN then
 bif yNaN then
  some 0
 else
  some (-1)
 else
 bif yNaN then
  some 1
 else
  bif Op.bytesLess x y then
  some (-1)
  else
  bif ! (strLe x y)then
   some 1
  else
   some 0
def h164:Hint:=.z
def sp164:Spec fam:=⟨[.v .str [],.v .str []],[.v (.int .i64) []],λa=>eE a.1 a.2.1⟩
def ri(a:Queue)(b:Queue):Option Int:=
 (eE a.Path b.Path).bind λx=>
 some x
def h163:Hint:=.z
def sp163:Spec fam:=⟨[.v (.st 2) [],.v (.st 2) []],[.v (.int .i64) []],λa=>ri a.1 a.2.1⟩
def vt(x3:List Queue)(t1:Conf×Int):Option ((Conf×Int) ⊕ ((Conf×Int) ⊕ Conf)):=
 bif decide (t1.2<(x3.length:Int))then
 (
  bif decide (t1.2>0)then
  (inb (w64 (t1.2 - 1)) x3.length).bind λi1=>
  (x3[i1]?).bind λx4=>
  (inb t1.2 x3.length).bind λi2=>
  (x3[i2]?).bind λx5=>
  some (x4.Path == x5.Path)
  else
  some false).bind λq2=>
 bif q2 then
  some (.inr (.inl ((⟨[],[]⟩:Conf),7)))
 else
  some (.inl (t1.1,w64 (t1.2+1)))
 else
 some (.inr (.inr (t1.1)))
def p9(x:List (List UInt8))(t:Conf×Reader×Int):Option ((Conf×Reader×Int) ⊕ ((Conf×Int) ⊕ (Conf×Reader))):=
 bif decide (t.2.2<(x.length:Int))then
 (inb t.2.2 x.length).bind λi=>
 (x[i]?).bind λx1=>
 (qG x1).bind λx2=>
 (gI t.2.1 x2).bind λe=>
 bif e.1 != 0 then
  some (.inr (.inl ((⟨[],[]⟩:Conf),e.1)))
 else
  some (.inl (t.1,e.2,w64 (t.2.2+1)))
 else
 some (.inr (.inr (t.1,t.2.1)))
def qU(s:List UInt8):Option (Conf×Int):=
 bif decide ((s.length:Int)>2000)then
 some ((⟨[],[]⟩:Conf),5)
 else
 (eT s ([10]:List UInt8)).bind λx=>
 (loop (p9 x) ((⟨[],[]⟩:Conf),(⟨⟨[],[]⟩,false⟩:Reader),0)).bind λq0=>
 match q0 with
 | .inl q=>
  some (q.1,q.2)
 | .inr q1=>
  bif ! q1.2.seen then
  some ((⟨[],[]⟩:Conf),6)
  else
  (jJ q1.2.c.Queues (λa'=>ri a'.1 a'.2.1)).bind λx3=>
  (loop (vt x3) (q1.1,0)).bind λq0=>
  match q0 with
  | .inl q3=>
   some (q3.1,q3.2)
  | .inr q4=>
   some ((⟨q1.2.c.Labels,x3⟩:Conf),0)
def h109:Hint:=(.s .z (.s .z (.s .z (.s .z (.s (.s .z (.b (.l [(2,.box (.st 3) [0,1]),(4,.box (.st 17) [0,1]),(22,.v (.int .i64) [])] [2,3,4,7,8,22,23,24,25,26,27,28,29,30,31,32,33,34] [(1,[(2,.box (.st 3) [0,1]),(3,.v (.int .i64) [])]),(2,[(2,.box (.st 3) [0,1]),(4,.box (.st 17) [0,1])])] .z))) (.s .z (.s .z (.s .z (.s (.s .z (.b (.l [(2,.box (.st 3) [0,1]),(50,.v (.int .i64) [])] [2,3,10,50,68] [(1,[(2,.box (.st 3) [0,1]),(3,.v (.int .i64) [])]),(4,[(2,.box (.st 3) [0,1])])] (.s .z (.s .z (.s (.b (.s .z (.s (.j [] [(0,[(68,.v .bool [])])] .z) .z))) .z)))))) .z)))))))))
def sp109:Spec fam:=⟨[.v .str []],[.v (.st 3) [0,1],.v (.int .i64) []],λa=>qU a.1⟩
def em(s1:List (List UInt8))(s2:List (List UInt8))(t:Int):Option (Int ⊕ (Bool ⊕ Unit)):=
 bif decide (t<(s1.length:Int))then
 (idx s1 t).bind λx=>
 (idx s2 t).bind λx1=>
 bif ! (x == x1)then
  some (.inr (.inl false))
 else
  some (.inl (w64 (t+1)))
 else
 some (.inr (.inr ()))
def bF(s1:List (List UInt8))(s2:List (List UInt8)):Option Bool:=
 bif(s1.length:Int) != (s2.length:Int)then
 some false
 else
 (loop (em s1 s2) 0).bind λq0=>
 match q0 with
 | .inl q=>
  some q
 | .inr _=>
  some true
def h110:Hint:=(.s .z (.s .z (.s (.s .z (.b (.l [(13,.v (.int .i64) [])] [4,5,13] [(1,[(4,.v .bool [])]),(2,[])] .z))) .z)))
def sp110:Spec fam:=⟨[.v (.slice (.str)) [],.v (.slice (.str)) []],[.v .bool []],λa=>bF a.1 a.2.1⟩
def dU(t:Step)(x:Conf×Int)(t1:Int):Option (Int ⊕ Unit):=
 bif decide (t1<(t.s.Apps.length:Int))then
 (idx t.s.Apps t1).bind λx2=>
 (
  (cJ x2).bind λx3=>
  bif x3 then
  (lG x.1 x2.Queue).bind λx4=>
  some (! x4)
  else
  some false).bind λq1=>
 bif q1 then
  none
 else
  some (.inl (w64 (t1+1)))
 else
 some (.inr ())
def cX(t:Step):Option (Output×Step):=
 (qU t.x.Text).bind λx=>
 (
 bif x.2 == 0 then
  (na x.1).bind λe=>
  some e
 else
  some x.2).bind λe1=>
 bif e1 != 0 then
 none
 else
 (
  bif decide ((t.s.Conf.Labels.length:Int)>(x.1.Labels.length:Int))then
  some true
  else
  (inS 0 (t.s.Conf.Labels.length:Int) x.1.Labels.length).bind λp=>
  (bF t.s.Conf.Labels (sub x.1.Labels p.1 p.2)).bind λx1=>
  some (! x1)).bind λq=>
 bif q then
  none
 else
  (loop (dU t x) 0).bind λ_=>
  some ((⟨0,[],[],[],0⟩:Output),(⟨⟨⟨x.1.Labels,x.1.Queues⟩,t.s.Nodes,t.s.Apps,t.s.Conts,t.s.Slots,t.s.Plans,t.s.Now,t.s.Epoch,t.s.Seq⟩,⟨t.x.Kind,t.x.Id,t.x.Beat,t.x.N,t.x.Text,⟨t.x.Node.Id,t.x.Node.Label,t.x.Node.Rack,⟨t.x.Node.Cap.Mem,t.x.Node.Cap.Cores⟩,t.x.Node.Seen,t.x.Node.Beat,t.x.Node.Up⟩,⟨t.x.App.Id,t.x.App.State,t.x.App.Queue,t.x.App.User,t.x.App.Prio,⟨t.x.App.Master.Mem,t.x.App.Master.Cores⟩,t.x.App.Asks,t.x.App.Seen,t.x.App.Beat,t.x.App.Grants,t.x.App.Kills,t.x.App.Told,t.x.App.Lost⟩,t.x.Asks,t.x.Ids,⟨t.x.Plan.Id,t.x.Plan.Label,t.x.Plan.From,t.x.Plan.Until,⟨t.x.Plan.Need.Mem,t.x.Plan.Need.Cores⟩⟩⟩⟩:Step))
def h71:Hint:=(.s .z (.s .z (.s (.j [4,17,18,19,20] [(0,[(4,.v (.int .i64) [])])] .z) (.s .z (.s .z (.s (.s (.j [32,33,34,35,36,37,38,39,40,41,42,43,44,45,46,47,48,49,50] [(0,[(50,.v .bool [])])] .z) .z) (.s (.s .z (.b (.l [(58,.v (.int .i64) [])] [7,58,70] [(2,[])] (.s .z (.s .z (.s (.b (.s .z (.s (.j [] [(0,[(70,.v .bool [])])] .z) .z))) .z)))))) .z)))))))
def sp71:Spec fam:=⟨[.box (.st 18) [0,2,4,5,6,7000]],[.v (.st 11) [1,2,3]],λa=>cX a.1⟩
def dh(t:Step)(s:State)(e:Int):Option (Output×Step):=
 bif e != 0 then
 none
 else
 some ((⟨0,[],[],[],0⟩:Output),(⟨⟨⟨s.Conf.Labels,s.Conf.Queues⟩,s.Nodes,s.Apps,s.Conts,s.Slots,s.Plans,s.Now,s.Epoch,s.Seq⟩,⟨t.x.Kind,t.x.Id,t.x.Beat,t.x.N,t.x.Text,⟨t.x.Node.Id,t.x.Node.Label,t.x.Node.Rack,⟨t.x.Node.Cap.Mem,t.x.Node.Cap.Cores⟩,t.x.Node.Seen,t.x.Node.Beat,t.x.Node.Up⟩,⟨t.x.App.Id,t.x.App.State,t.x.App.Queue,t.x.App.User,t.x.App.Prio,⟨t.x.App.Master.Mem,t.x.App.Master.Cores⟩,t.x.App.Asks,t.x.App.Seen,t.x.App.Beat,t.x.App.Grants,t.x.App.Kills,t.x.App.Told,t.x.App.Lost⟩,t.x.Asks,t.x.Ids,⟨t.x.Plan.Id,t.x.Plan.Label,t.x.Plan.From,t.x.Plan.Until,⟨t.x.Plan.Need.Mem,t.x.Plan.Need.Cores⟩⟩⟩⟩:Step))
def h72:Hint:=.z
def sp72:Spec fam:=⟨[.box (.st 18) [],.v (.st 10) [],.v (.int .i64) []],[.v (.st 11) [1,2,3]],λa=>dh a.1 a.2.1 a.2.2.1⟩
def lK(l:List Int):Option (List Int):=
 (mkl 8 (l.length:Int) (l.length:Int) 0).bind λl1=>
 some (cpy l1 0 l1.length l)
def h165:Hint:=.z
def sp165:Spec fam:=⟨[.v (.slice (.int .i64)) []],[.v (.slice (.int .i64)) [0]],λa=>lK a.1⟩
def xB(x9:List App)(t1:List App×Int):Option ((List App×Int) ⊕ List App):=
 bif decide (t1.2<(x9.length:Int))then
 (inb t1.2 t1.1.length).bind λi2=>
 (t1.1[i2]?).bind λx10=>
 (rF x10.Asks).bind λx11=>
 (lK x10.Grants).bind λx12=>
 (lK x10.Kills).bind λx13=>
 (lK x10.Told).bind λx14=>
 (lK x10.Lost).bind λx15=>
 (inb t1.2 t1.1.length).bind λi3=>
 (t1.1[i3]?).bind λx16=>
 some (.inl (List.set t1.1 i3 (⟨x10.Id,x10.State,x10.Queue,x10.User,x10.Prio,⟨x10.Master.Mem,x10.Master.Cores⟩,x11,x10.Seen,x10.Beat,x12,x13,x14,x15⟩:App),w64 (t1.2+1)))
 else
 some (.inr t1.1)
def xA(x1:List Queue)(t:List Queue×Int):Option ((List Queue×Int) ⊕ List Queue):=
 bif decide (t.2<(x1.length:Int))then
 (inb t.2 t.1.length).bind λi=>
 (t.1[i]?).bind λx2=>
 (gh x2.Caps).bind λx3=>
 (inb t.2 t.1.length).bind λi1=>
 (t.1[i1]?).bind λx4=>
 some (.inl (List.set t.1 i1 (⟨x4.Path,x3,x4.User⟩:Queue),w64 (t.2+1)))
 else
 some (.inr t.1)
def pm(s:State):Option State:=
 (aJ s.Conf.Labels).bind λx=>
 (dz s.Conf.Queues).bind λx1=>
 (loop (xA x1) (x1,0)).bind λq=>
 (dA s.Nodes).bind λx5=>
 (bf s.Conts).bind λx6=>
 (dF s.Slots).bind λx7=>
 (jd s.Plans).bind λx8=>
 (en s.Apps).bind λx9=>
 (loop (xB x9) (x9,0)).bind λq1=>
 some (⟨⟨x,q⟩,x5,q1,x6,x7,x8,s.Now,s.Epoch,s.Seq⟩:State)
def h111:Hint:=(.s .z (.s .z (.s (.s .z (.b (.l [(14,.row (.st 2) false),(23,.v (.int .i64) [])] [3,4,14,23,24,25,26,27,28,29,30,31,32,33,34,35,36,37] [(2,[(14,.row (.st 2) false)])] .z))) (.s .z (.s .z (.s (.s .z (.b (.l [(56,.row (.st 6) false),(61,.v (.int .i64) [])] [5,6,56,61] [(4,[(56,.row (.st 6) false)])] .z))) .z))))))
def sp111:Spec fam:=⟨[.v (.st 10) []],[.v (.st 10) [0,1,2,3,4,5,6]],λa=>pm a.1⟩
def bH(n:Int)(most:Int):Option Bool:=
 bif decide (n≥0)then
 some (decide (n≤most))
 else
 some false
def h112:Hint:=.z
def sp112:Spec fam:=⟨[.v (.int .i64) [],.v (.int .i64) []],[.v .bool []],λa=>bH a.1 a.2.1⟩
def AN(s:List Node)(i:Int)(v:List Node):Option (List Node):=
 (inS i (s.length:Int) s.length).bind λp=>
 bif(v.length:Int) == 0 then
 some s
 else
 bif i == (s.length:Int)then
  (app 64 s v).bind λl=>
  some l
 else
  none
def qc(s:List Node)(i:Int)(v:List Node):Option (List Node):=ins s i v
def h113:Hint:=.z
def sp113:Spec fam:=⟨[.v (.slice (.st 4)) [0],.v (.int .i64) [],.v (.slice (.st 4)) [0]],[.v (.slice (.st 4)) [0]],λa=>qc a.1 a.2.1 a.2.2.1⟩
def Jf:Spec fam:=⟨[.v (.slice (.st 4)) [0],.v (.int .i64) [],.v (.slice (.st 4)) [0]],[.v (.slice (.st 4)) [0]],λa=>AN a.1 a.2.1 a.2.2.1⟩
def qn(n:Node)(x:State)(k:Int):Option (Int ⊕ Int):=
 (
 bif decide (k<(x.Nodes.length:Int))then
  (inb k x.Nodes.length).bind λi3=>
  (x.Nodes[i3]?).bind λx8=>
  some (decide (x8.Id<n.Id))
 else
  some false).bind λq3=>
 bif q3 then
 some (.inl (w64 (k+1)))
 else
 some (.inr k)
def jA(s:State)(n:Node):Option (State×Int):=
 (pm s).bind λx=>
 (om x n.Id).bind λi=>
 (
 (bH n.Id 999).bind λx1=>
 bif ! x1 then
  some true
 else
  (bH n.Label (w64 ((x.Conf.Labels.length:Int) - 1))).bind λx2=>
  bif ! x2 then
  some true
  else
  (bH n.Rack 99).bind λx3=>
  bif ! x3 then
   some true
  else
   (bH n.Cap.Mem 1073741824).bind λx4=>
   bif ! x4 then
   some true
   else
   (bH n.Cap.Cores 1073741824).bind λx5=>
   some (! x5)).bind λq=>
 bif q then
 some (x,1)
 else
 (
  bif decide (i≥0)then
  (inb i x.Nodes.length).bind λi1=>
  (x.Nodes[i1]?).bind λx6=>
  some x6.Up
  else
  some false).bind λq1=>
 bif q1 then
  some (x,7)
 else
  (
  bif decide (i<0)then
   some (decide ((x.Nodes.length:Int)≥12))
  else
   some false).bind λq2=>
  bif q2 then
  some (x,4)
  else
  bif decide (i≥0)then
   (inb i x.Nodes.length).bind λi2=>
   (x.Nodes[i2]?).bind λx7=>
   some ((⟨⟨x.Conf.Labels,x.Conf.Queues⟩,List.set x.Nodes i2 (⟨n.Id,n.Label,n.Rack,⟨n.Cap.Mem,n.Cap.Cores⟩,x.Now,0,true⟩:Node),x.Apps,x.Conts,x.Slots,x.Plans,x.Now,x.Epoch,x.Seq⟩:State),0)
  else
   (loop (qn n x) 0).bind λk1=>
   (qc x.Nodes k1 [(⟨n.Id,n.Label,n.Rack,⟨n.Cap.Mem,n.Cap.Cores⟩,x.Now,0,true⟩:Node)]).bind λx9=>
   some ((⟨⟨x.Conf.Labels,x.Conf.Queues⟩,x9,x.Apps,x.Conts,x.Slots,x.Plans,x.Now,x.Epoch,x.Seq⟩:State),0)
def h73:Hint:=(.s .z (.s .z (.s .z (.s (.b (.s (.j [] [(0,[(14,.v .bool [])])] .z) (.c .z (.s (.j [] [(0,[(51,.v .bool [])])] .z) (.c .z (.s (.j [] [(0,[(63,.v .bool [])])] .z) .z)))))) (.s .z (.s .z (.s .z (.s (.b (.l [(7,.v (.int .i64) [])] [7,107] [(3,[(7,.v (.int .i64) [])])] (.s (.s (.j [] [(0,[(107,.v .bool [])])] .z) .z) .z))) .z))))))))
def sp73:Spec fam:=⟨[.v (.st 10) [],.v (.st 4) []],[.v (.st 10) [0,1,2,3,4,5,6],.v (.int .i64) []],λa=>jA a.1 a.2.1⟩
def pz(t:Step)(node:Int)(t1:List Int×Int):Option ((List Int×Int) ⊕ List Int):=
 bif decide (t1.2<(t.s.Conts.length:Int))then
 (
  (idx t.s.Conts t1.2).bind λx=>
  bif x.Node == node then
  (app 8 t1.1 [x.Id]).bind λl=>
  some l
  else
  some t1.1).bind λout=>
 some (.inl (out,w64 (t1.2+1)))
 else
 some (.inr t1.1)
def dv(t:Step)(node:Int):Option (List Int):=
 (loop (pz t node) ([],0)).bind λout1=>
 some out1
def h114:Hint:=(.s .z (.s .z (.s (.s .z (.b (.l [(5,.v (.slice (.int .i64)) [0]),(14,.v (.int .i64) [])] [5,7,14] [(2,[(5,.v (.slice (.int .i64)) [0])])] (.s .z (.s .z (.s (.j [5,7] [(0,[(5,.v (.slice (.int .i64)) [0])])] .z) .z)))))) .z)))
def sp114:Spec fam:=⟨[.rp (.st 18),.v (.int .i64) []],[.v (.slice (.int .i64)) [0]],λa=>dv a.1 a.2.1⟩
def qH(s:State)(id_:Int)(beat:Int):Option (State×Int):=
 (pm s).bind λx=>
 (om x id_).bind λi=>
 bif decide (i<0)then
 some (x,2)
 else
 (inb i x.Nodes.length).bind λi1=>
 (x.Nodes[i1]?).bind λx1=>
 bif ! x1.Up then
  some (x,18)
 else
  (
  bif decide (beat<0)then
   some true
  else
   (inb i x.Nodes.length).bind λi2=>
   (x.Nodes[i2]?).bind λx2=>
   some (decide (beat<x2.Beat))).bind λq=>
  bif q then
  some (x,15)
  else
  (inb i x.Nodes.length).bind λi3=>
  (x.Nodes[i3]?).bind λx3=>
  bif decide ((w64 (beat - x3.Beat))>1)then
   some (x,1)
  else
   (inb i x.Nodes.length).bind λi4=>
   (x.Nodes[i4]?).bind λx4=>
   (inb i (List.set x.Nodes i4 (⟨x4.Id,x4.Label,x4.Rack,⟨x4.Cap.Mem,x4.Cap.Cores⟩,x.Now,x4.Beat,x4.Up⟩:Node)).length).bind λi5=>
   ((List.set x.Nodes i4 (⟨x4.Id,x4.Label,x4.Rack,⟨x4.Cap.Mem,x4.Cap.Cores⟩,x.Now,x4.Beat,x4.Up⟩:Node))[i5]?).bind λx5=>
   some ((⟨⟨x.Conf.Labels,x.Conf.Queues⟩,List.set (List.set x.Nodes i4 (⟨x4.Id,x4.Label,x4.Rack,⟨x4.Cap.Mem,x4.Cap.Cores⟩,x.Now,x4.Beat,x4.Up⟩:Node)) i5 (⟨x5.Id,x5.Label,x5.Rack,⟨x5.Cap.Mem,x5.Cap.Cores⟩,x5.Seen,beat,x5.Up⟩:Node),x.Apps,x.Conts,x.Slots,x.Plans,x.Now,x.Epoch,x.Seq⟩:State),0)
def h115:Hint:=(.s .z (.s .z (.s .z (.s (.b (.s .z (.c .z (.s .z (.c .z (.s (.j [] [(0,[(27,.v .bool [])])] .z) .z)))))) .z))))
def sp115:Spec fam:=⟨[.v (.st 10) [],.v (.int .i64) [],.v (.int .i64) []],[.v (.st 10) [0,1,2,3,4,5,6],.v (.int .i64) []],λa=>qH a.1 a.2.1 a.2.2.1⟩
def cF(s:List Int)(f:(TupT fam [.int .i64]→Option Bool))(t:Int):Option (Int ⊕ (Int ⊕ Unit)):=
 bif decide (t<(s.length:Int))then
 (idx s t).bind λx=>
 (f (x,())).bind λr=>
 bif r then
  some (.inr (.inl t))
 else
  some (.inl (w64 (t+1)))
 else
 some (.inr (.inr ()))
def a_(s:List Int)(f:(TupT fam [.int .i64]→Option Bool)):Option Int:=
 (loop (cF s f) 0).bind λq0=>
 match q0 with
 | .inl q=>
 some q
 | .inr _=>
 some (-1)
def h168:Hint:=(.s .z (.s (.s .z (.b (.l [(8,.v (.int .i64) [])] [4,5,8] [(1,[(4,.v (.int .i64) [])]),(2,[])] .z))) .z))
def sp168:Spec fam:=⟨[.v (.slice (.int .i64)) [],.fn [.int .i64] .bool],[.v (.int .i64) []],λa=>a_ a.1 a.2.1⟩
def eH(del:(TupT fam [.int .i64]→Option Bool))(t:List Int×Int×Int):Option ((List Int×Int×Int) ⊕ ((List Int×Int))):=
 bif decide (t.2.2<(t.1.length:Int))then
 (
  (inb t.2.2 t.1.length).bind λi1=>
  (t.1[i1]?).bind λx=>
  (del (x,())).bind λr=>
  bif ! r then
  (inb t.2.1 t.1.length).bind λi2=>
  (t.1[i2]?).bind λx1=>
  some (List.set t.1 i2 x,w64 (t.2.1+1))
  else
  some (t.1,t.2.1)).bind λq=>
 some (.inl (q.1,q.2,w64 (t.2.2+1)))
 else
 some (.inr (t.1,t.2.1))
def a7(s:List Int)(del:(TupT fam [.int .i64]→Option Bool)):Option (List Int):=
 (a_ s del).bind λi=>
 bif i == (-1)then
 some s
 else
 (loop (eH del) (s,i,w64 (i+1))).bind λq1=>
 (inS q1.2 (q1.1.length:Int) q1.1.length).bind λp=>
 (inS 0 q1.2 (cpy q1.1 p.1 p.2 (List.replicate p.2 0)).length).bind λp1=>
 some (List.take p1.2 (cpy q1.1 p.1 p.2 (List.replicate p.2 0)))
def h116:Hint:=(.s .z (.s .z (.s .z (.s (.s .z (.b (.l [(0,.row (.int .i64) false),(5,.v (.int .i64) []),(6,.v (.int .i64) [])] [0,5,6,7] [(2,[(0,.row (.int .i64) false),(5,.v (.int .i64) [])])] (.s .z (.s (.j [0,5,7] [(0,[(0,.row (.int .i64) false),(5,.v (.int .i64) [])])] .z) .z))))) (.s .z (.s (.r [9998]) .z))))))
def sp116:Spec fam:=⟨[.v (.slice (.int .i64)) [0],.fn [.int .i64] .bool],[.v (.slice (.int .i64)) [0]],λa=>a7 a.1 a.2.1⟩
def qd(s:List Int):Option (List Int):=
 bif s.isEmpty then
 none
 else
 (app 8 [] s).bind λl=>
 some l
def bO(s:List Int):Option (List Int):=app 8 [] s
def h117:Hint:=.z
def sp117:Spec fam:=⟨[.v (.slice (.int .i64)) []],[.v (.slice (.int .i64)) [0]],λa=>bO a.1⟩
def IE:Spec fam:=⟨[.v (.slice (.int .i64)) []],[.v (.slice (.int .i64)) [0]],λa=>qd a.1⟩
def iF(_a0:Int)(_a1:List Int):Option Bool:=none
def sp118:Spec fam:=⟨[.v (.int .i64) [],.rp (.slice (.int .i64))],[.v .bool []],λa=>iF a.1 a.2.1⟩
def vK(s:State)(id_:Int)(t:Vec×Int):Option ((Vec×Int) ⊕ Vec):=
 bif decide (t.2<(s.Conts.length:Int))then
 (
  (idx s.Conts t.2).bind λx=>
  bif x.Node == id_ then
  (dC t.1 x.Size).bind λx1=>
  some x1.1
  else
  some t.1).bind λout=>
 some (.inl (out,w64 (t.2+1)))
 else
 some (.inr t.1)
def qz(s:State)(id_:Int):Option Vec:=
 (loop (vK s id_) ((⟨0,0⟩:Vec),0)).bind λout1=>
 some out1
def h231:Hint:=(.s .z (.s .z (.s (.s .z (.b (.l [(5,.box (.st 0) []),(11,.v (.int .i64) [])] [5,7,11] [(2,[(5,.box (.st 0) [])])] (.s .z (.s .z (.s (.j [5,7] [(0,[(5,.box (.st 0) [])])] .z) .z)))))) .z)))
def sp231:Spec fam:=⟨[.v (.st 10) [],.v (.int .i64) []],[.v (.st 0) []],λa=>qz a.1 a.2.1⟩
def qt(s:State)(id_:Int):Option Vec:=
 (hU s id_).bind λx=>
 (
 bif ! x.2 then
  some true
 else
  some (! x.1.Up)).bind λq=>
 bif q then
 some (⟨0,0⟩:Vec)
 else
 (qz s id_).bind λx1=>
 some (⟨imax (w64 (x.1.Cap.Mem - x1.Mem)) 0,imax (w64 (x.1.Cap.Cores - x1.Cores)) 0⟩:Vec)
def h200:Hint:=(.s .z (.s .z (.s (.s (.j [] [(0,[(20,.v .bool [])])] .z) .z) .z)))
def sp200:Spec fam:=⟨[.v (.st 10) [],.v (.int .i64) []],[.v (.st 0) []],λa=>qt a.1 a.2.1⟩
def uC(_a0:Slot)(_a1:Bool):Option Bool:=none
def sp232:Spec fam:=⟨[.v (.st 8) [],.rp .bool],[.v .bool []],λa=>uC a.1 a.2.1⟩
def Ed(_a0:App)(_a1:Int):Option (Ask×Bool):=none
def sp233:Spec fam:=⟨[.v (.st 6) [],.v (.int .i64) []],[.v (.st 5) [],.v .bool []],λa=>Ed a.1 a.2.1⟩
def tQ(a:Ask)(n:Node):Option Int:=
 (
 (
  bif ! n.Up then
  some true
  else
  some (n.Label != a.Label)).bind λq=>
 bif q then
  some (.inr (.inl 4))
 else
  bif a.Rack == (-1)then
  some (.inl ())
  else
  (
   bif a.Node == n.Id then
   some (a.Node == n.Id)
   else
   bif a.Node == (-1)then
    some (a.Rack == n.Rack)
   else
    some false).bind λq1=>
  bif q1 then
   some (.inl ())
  else
   bif a.Rack == n.Rack then
   some (.inr (.inr (.inr ())))
   else
   some (.inr (.inr (.inl ()))):Option (Unit ⊕ Int ⊕ Unit ⊕ Unit)).bind λq0=>
 match q0 with
 | .inl _=>
 some 1
 | .inr (.inl q2)=>
 some q2
 | .inr (.inr (.inl _))=>
 some 3
 | .inr (.inr (.inr _))=>
 some 2
def h275:Hint:=(.s .z (.s (.b (.s (.b (.s (.j [5,20] [(0,[]),(1,[(4,.v (.int .i64) [])]),(2,[]),(6,[])] (.b (.b (.s (.b (.s (.s (.s (.j [] [(0,[(5,.v .bool [])])] .z) .z) (.s .z (.s (.s (.j [] [(0,[(20,.v .bool [])])] .z) .z) .z))) .z)) .z)))) .z)) .z)) .z))
def sp275:Spec fam:=⟨[.v (.st 5) [],.v (.st 4) []],[.v (.int .i64) []],λa=>tQ a.1 a.2.1⟩
def pA(a:Ask)(n:Node):Option Bool:=
 (tQ a n).bind λx=>
 bif x == 1 then
 some true
 else
 bif x == 2 then
  some (decide (a.Missed≥2))
 else
  bif x == 3 then
  some (decide (a.Missed≥4))
  else
  some false
def h234:Hint:=.z
def sp234:Spec fam:=⟨[.v (.st 5) [],.v (.st 4) []],[.v .bool []],λa=>pA a.1 a.2.1⟩
def hZ(t:Attempt)(x:Ask):Option Bool:=
 (tQ x t.n).bind λx1=>
 bif x1 != 4 then
 (cf x.Size t.n.Cap).bind λx2=>
 some x2
 else
 some false
def h235:Hint:=.z
def sp235:Spec fam:=⟨[.rp (.st 19),.v (.st 5) []],[.v .bool []],λa=>hZ a.1 a.2.1⟩
def nq(v:View)(c:Cont)(t:App×Int):Option ((App×Int) ⊕ ((App×Bool) ⊕ App)):=
 bif decide (t.2<(v.s.Apps.length:Int))then
 (idx v.s.Apps t.2).bind λx=>
 bif x.Id == c.App then
  some (.inr (.inl (x,true)))
 else
  some (.inl (t.1,w64 (t.2+1)))
 else
 some (.inr (.inr (t.1)))
def hF(v:View)(c:Cont):Option (App×Bool):=
 (loop (nq v c) ((⟨0,0,[],0,0,⟨0,0⟩,[],0,0,[],[],[],[]⟩:App),0)).bind λq0=>
 match q0 with
 | .inl q=>
 some (q.1,q.2)
 | .inr q1=>
 some ((⟨0,0,[],0,0,⟨0,0⟩,[],0,0,[],[],[],[]⟩:App),false)
def h329:Hint:=(.s .z (.s (.s .z (.b (.l [(4,.box (.st 6) [7,10,11,12,13]),(12,.v (.int .i64) [])] [4,5,7,12] [(1,[(4,.box (.st 6) []),(5,.v .bool [])]),(2,[(4,.box (.st 6) [7,10,11,12,13])])] .z))) .z))
def sp329:Spec fam:=⟨[.v (.st 14) [],.v (.st 7) []],[.v (.st 6) [],.v .bool []],λa=>hF a.1 a.2.1⟩
def lv(s:List UInt8)(prefix_:List UInt8):Option Bool:=
 bif decide ((s.length:Int)≥(prefix_.length:Int))then
 (slc s 0 (prefix_.length:Int)).bind λs1=>
 some (s1 == prefix_)
 else
 some false
def h371:Hint:=.z
def sp371:Spec fam:=⟨[.v .str [],.v .str []],[.v .bool []],λa=>lv a.1 a.2.1⟩
def ql(s:List UInt8)(prefix_:List UInt8):Option Bool:=
 (lv s prefix_).bind λx=>
 some x
def h353:Hint:=.z
def sp353:Spec fam:=⟨[.v .str [],.v .str []],[.v .bool []],λa=>ql a.1 a.2.1⟩
def fY(v:View)(a:App):Option Bool:=
 (
 bif a.Queue == v.path then
  some true
 else
  (cat v.path ([46]:List UInt8)).bind λs=>
  (ql a.Queue s).bind λx=>
  some x).bind λbelow=>
 bif below then
 bif v.user == (-1)then
  some true
 else
  some (a.User == v.user)
 else
 some false
def h330:Hint:=(.s .z (.s (.j [] [(0,[(5,.v .bool [])])] .z) .z))
def sp330:Spec fam:=⟨[.v (.st 14) [],.v (.st 6) []],[.v .bool []],λa=>fY a.1 a.2.1⟩
def jq(v:View)(t:Vec×Int):Option ((Vec×Int) ⊕ Vec):=
 bif decide (t.2<(v.s.Conts.length:Int))then
 (
  (idx v.s.Conts t.2).bind λx=>
  (hF v x).bind λx1=>
  (
  bif x1.2 then
   bif x.Label == v.label then
   (fY v x1.1).bind λx2=>
   some x2
   else
   some false
  else
   some false).bind λq=>
  bif q then
  (dC t.1 x.Size).bind λx3=>
  some x3.1
  else
  some t.1).bind λout=>
 some (.inl (out,w64 (t.2+1)))
 else
 some (.inr t.1)
def fj(v:View):Option Vec:=
 (loop (jq v) ((⟨0,0⟩:Vec),0)).bind λout1=>
 some out1
def h288:Hint:=(.s .z (.s .z (.s .z (.s (.s .z (.b (.l [(3,.box (.st 0) []),(15,.v (.int .i64) [])] [3,6,7,8,15,37] [(2,[(3,.box (.st 0) [])])] (.s .z (.s .z (.s (.j [3,6,7,8,37] [(0,[(3,.box (.st 0) [])])] (.b (.s .z (.s .z (.s (.j [] [(0,[(37,.v .bool [])])] .z) .z))))) .z)))))) .z))))
def sp288:Spec fam:=⟨[.v (.st 14) []],[.v (.st 0) []],λa=>fj a.1⟩
def cE(s:State)(path:List UInt8)(label:Int):Option Vec:=
 (fj (⟨⟨⟨s.Conf.Labels,s.Conf.Queues⟩,s.Nodes,s.Apps,s.Conts,s.Slots,s.Plans,s.Now,s.Epoch,s.Seq⟩,path,label,(-1)⟩:View)).bind λx=>
 some x
def h247:Hint:=.z
def sp247:Spec fam:=⟨[.v (.st 10) [],.v .str [],.v (.int .i64) []],[.v (.st 0) []],λa=>cE a.1 a.2.1 a.2.2.1⟩
def xL(l:List Vec)(t:Vec×Int):Option ((Vec×Int) ⊕ Vec):=
 bif decide (t.2<(l.length:Int))then
 (idx l t.2).bind λx=>
 (dC t.1 x).bind λx1=>
 some (.inl (x1.1,w64 (t.2+1)))
 else
 some (.inr t.1)
def oX(l:List Vec):Option Vec:=
 (loop (xL l) ((⟨0,0⟩:Vec),0)).bind λout=>
 some out
def h221:Hint:=(.s .z (.s .z (.s (.s .z (.b (.l [(3,.box (.st 0) []),(8,.v (.int .i64) [])] [3,5,8] [(2,[(3,.box (.st 0) [])])] .z))) .z)))
def sp221:Spec fam:=⟨[.v (.slice (.st 0)) []],[.v (.st 0) []],λa=>oX a.1⟩
def tY(s:State)(label:Int)(t:List Vec×Int):Option ((List Vec×Int) ⊕ List Vec):=
 bif decide (t.2<(s.Nodes.length:Int))then
 (
  (idx s.Nodes t.2).bind λx=>
  (
  bif x.Up then
   some (x.Label == label)
  else
   some false).bind λq=>
  bif q then
  (app 16 t.1 [x.Cap]).bind λl=>
  some l
  else
  some t.1).bind λl1=>
 some (.inl (l1,w64 (t.2+1)))
 else
 some (.inr t.1)
def fK(s:State)(label:Int):Option Vec:=
 (loop (tY s label) ([],0)).bind λl2=>
 (oX l2).bind λx1=>
 some x1
def h188:Hint:=(.s .z (.s .z (.s (.s .z (.b (.l [(5,.v (.slice (.st 0)) [0]),(11,.v (.int .i64) [])] [5,7,11,22] [(2,[(5,.v (.slice (.st 0)) [0])])] (.s .z (.s .z (.s (.j [5,7,22] [(0,[(5,.v (.slice (.st 0)) [0])])] (.b (.s .z (.s (.j [] [(0,[(22,.v .bool [])])] .z) .z)))) .z)))))) .z)))
def sp188:Spec fam:=⟨[.v (.st 10) [],.v (.int .i64) []],[.v (.st 0) []],λa=>fK a.1 a.2.1⟩
def qE(x:Int)(y:Int):Option (Int×Int):=
 let w0:=IntKind.u64.wrap ((andK .u64 x 4294967295)*(andK .u64 y 4294967295))
 let t:=IntKind.u64.wrap ((IntKind.u64.wrap ((shrK .u64 x 32)*(andK .u64 y 4294967295)))+(shrK .u64 w0 32))
 let w1:=IntKind.u64.wrap ((andK .u64 t 4294967295)+(IntKind.u64.wrap ((andK .u64 x 4294967295)*(shrK .u64 y 32))))
 let hi:=IntKind.u64.wrap ((IntKind.u64.wrap ((IntKind.u64.wrap ((shrK .u64 x 32)*(shrK .u64 y 32)))+(shrK .u64 t 32)))+(shrK .u64 w1 32))
 some (hi,IntKind.u64.wrap (x*y))
def h363:Hint:=.z
def sp363:Spec fam:=⟨[.v (.int .u64) [],.v (.int .u64) []],[.v (.int .u64) [],.v (.int .u64) []],λa=>qE a.1 a.2.1⟩
def wa(_a0:Int):Option Int:=none
def sp377:Spec fam:=⟨[.v (.int .u64) []],[.v (.int .i64) []],λa=>wa a.1⟩
def zX(hi:Int)(lo:Int)(y:Int):Option (Int×Int):=
 bif y == 0 then
 none
 else
 bif decide (y≤hi)then
  none
 else
  bif hi == 0 then
  (nz y).bind λ_=>
  (nz y).bind λ_=>
  some (IntKind.u64.wrap (Int.tdiv lo y),Int.tmod lo y)
  else
  none
def h364:Hint:=.z
def sp364:Spec fam:=⟨[.v (.int .u64) [],.v (.int .u64) [],.v (.int .u64) []],[.v (.int .u64) [],.v (.int .u64) []],λa=>zX a.1 a.2.1 a.2.2.1⟩
def wP(n:Int)(bp:Int):Option Int:=
 (qE (IntKind.u64.wrap n) (IntKind.u64.wrap bp)).bind λx=>
 (zX x.1 x.2 10000).bind λx1=>
 some (w64 x1.1)
def h344:Hint:=.z
def sp344:Spec fam:=⟨[.v (.int .i64) [],.v (.int .i64) []],[.v (.int .i64) []],λa=>wP a.1 a.2.1⟩
def mh(a:Vec)(bp:Int):Option (Vec×Int):=
 (
 (b7 a).bind λx=>
 bif ! x then
  some true
 else
  bif decide (bp<0)then
  some true
  else
  some (decide (bp>1000000))).bind λq=>
 bif q then
 some ((⟨0,0⟩:Vec),1)
 else
 (wP a.Mem bp).bind λx1=>
 (wP a.Cores bp).bind λx2=>
 (xj (⟨x1,x2⟩:Vec)).bind λx3=>
 some (x3.1,x3.2)
def h315:Hint:=(.s .z (.s (.s (.j [] [(0,[(16,.v .bool [])])] .z) .z) .z))
def sp315:Spec fam:=⟨[.v (.st 0) [],.v (.int .i64) []],[.v (.st 0) [],.v (.int .i64) []],λa=>mh a.1 a.2.1⟩
def uW(t:List UInt8×List (List UInt8)):Option ((List UInt8×List (List UInt8)) ⊕ List (List UInt8)):=
 bif ! (t.1 == ([]:List UInt8))then
 (app 16 t.2 [t.1]).bind λl=>
 (jO t.1).bind λx=>
 some (.inl (x.1,l))
 else
 some (.inr t.2)
def uB(path:List UInt8):Option (List (List UInt8)):=
 (loop uW (path,[])).bind λout=>
 some out
def h316:Hint:=(.s .z (.s .z (.s (.b (.l [(0,.v .str []),(3,.v (.slice (.str)) [0])] [0,3] [(2,[(3,.v (.slice (.str)) [0])])] .z)) .z)))
def sp316:Spec fam:=⟨[.v .str []],[.v (.slice (.str)) [0]],λa=>uB a.1⟩
def pG(s:State)(label:Int)(part:(TupT fam [.st 1]→Option Int))(up:List (List UInt8))(t:Vec×Vec×Int):Option ((Vec×Vec×Int) ⊕ (Vec ⊕ (Vec×Vec))):=
 bif decide (t.2.2≥0)then
 (inb t.2.2 up.length).bind λi1=>
 (up[i1]?).bind λx2=>
 (gG s.Conf x2).bind λx3=>
 (
  bif ! x3.2 then
  some true
  else
  bif decide (label<0)then
   some true
  else
   some (decide (label≥(x3.1.Caps.length:Int)))).bind λq=>
 bif q then
  some (.inr (.inl (⟨0,0⟩:Vec)))
 else
  (inb label x3.1.Caps.length).bind λi2=>
  (x3.1.Caps[i2]?).bind λx4=>
  (part (x4,())).bind λr=>
  (mh t.2.1 r).bind λx5=>
  some (.inl (t.1,x5.1,w64 (t.2.2 - 1)))
 else
 some (.inr (.inr (t.1,t.2.1)))
def mZ(s:State)(path:List UInt8)(label:Int)(part:(TupT fam [.st 1]→Option Int)):Option Vec:=
 (uB path).bind λup=>
 (gG s.Conf path).bind λx=>
 bif ! x.2 then
 some (⟨0,0⟩:Vec)
 else
 (fK s label).bind λx1=>
 let i:=w64 ((up.length:Int) - 2)
 (loop (pG s label part up) ((⟨0,0⟩:Vec),x1,i)).bind λq0=>
 match q0 with
 | .inl q1=>
  some q1
 | .inr q2=>
  some q2.2
def h313:Hint:=(.s .z (.s .z (.s .z (.s .z (.s (.s .z (.b (.l [(8,.box (.st 0) []),(12,.box (.st 0) []),(13,.v (.int .i64) [])] [8,12,13,14,60] [(1,[(8,.box (.st 0) [])]),(2,[(8,.box (.st 0) []),(12,.box (.st 0) [])])] (.s .z (.s (.b (.s .z (.s (.s (.j [] [(0,[(60,.v .bool [])])] .z) .z) .z))) .z))))) .z)))))
def sp313:Spec fam:=⟨[.v (.st 10) [],.v .str [],.v (.int .i64) [],.fn [.st 1] (.int .i64)],[.v (.st 0) []],λa=>mZ a.1 a.2.1 a.2.2.1 a.2.2.2.1⟩
def g_(c:Cap):Option Int:=
 some c.Least
def h314:Hint:=.z
def sp314:Spec fam:=⟨[.v (.st 1) []],[.v (.int .i64) []],λa=>g_ a.1⟩
def d4(s:State)(path:List UInt8)(label:Int):Option Vec:=
 (mZ s path label (λa'=>g_ a'.1)).bind λx=>
 some x
def h276:Hint:=.z
def sp276:Spec fam:=⟨[.v (.st 10) [],.v .str [],.v (.int .i64) []],[.v (.st 0) []],λa=>d4 a.1 a.2.1 a.2.2.1⟩
def eW(t:Attempt)(a:App)(x:Ask):Option Bool:=
 (cE t.s a.Queue t.n.Label).bind λx1=>
 (dC x1 x.Size).bind λx2=>
 bif x2.2 == 0 then
 (d4 t.s a.Queue t.n.Label).bind λx3=>
 (cf x2.1 x3).bind λx4=>
 some x4
 else
 some false
def h236:Hint:=.z
def sp236:Spec fam:=⟨[.rp (.st 19),.v (.st 6) [],.v (.st 5) []],[.v .bool []],λa=>eW a.1 a.2.1 a.2.2.1⟩
def jH(s:State)(path:List UInt8)(label:Int)(user:Int):Option Vec:=
 bif user == (-1)then
 some (⟨0,0⟩:Vec)
 else
 (fj (⟨⟨⟨s.Conf.Labels,s.Conf.Queues⟩,s.Nodes,s.Apps,s.Conts,s.Slots,s.Plans,s.Now,s.Epoch,s.Seq⟩,path,label,user⟩:View)).bind λx=>
 some x
def h277:Hint:=.z
def sp277:Spec fam:=⟨[.v (.st 10) [],.v .str [],.v (.int .i64) [],.v (.int .i64) []],[.v (.st 0) []],λa=>jH a.1 a.2.1 a.2.2.1 a.2.2.2.1⟩
def qI(s:State)(path:List UInt8)(label:Int):Option Vec:=
 (gG s.Conf path).bind λx=>
 (d4 s path label).bind λx1=>
 (mh x1 x.1.User).bind λx2=>
 some x2.1
def h278:Hint:=.z
def sp278:Spec fam:=⟨[.v (.st 10) [],.v .str [],.v (.int .i64) []],[.v (.st 0) []],λa=>qI a.1 a.2.1 a.2.2.1⟩
def eu(t:Attempt)(a:App):Option Bool:=
 (jH t.s a.Queue t.n.Label a.User).bind λx=>
 (qI t.s a.Queue t.n.Label).bind λx1=>
 (cf x x1).bind λx2=>
 some x2
def h237:Hint:=.z
def sp237:Spec fam:=⟨[.rp (.st 19),.v (.st 6) []],[.v .bool []],λa=>eu a.1 a.2.1⟩
def iC(t:Attempt)(x:Ask):Option Bool:=
 (cf x.Size t.free).bind λx1=>
 some x1
def h238:Hint:=.z
def sp238:Spec fam:=⟨[.rp (.st 19),.v (.st 5) []],[.v .bool []],λa=>iC a.1 a.2.1⟩
def iE(c:Cap):Option Int:=
 some c.Most
def h345:Hint:=.z
def sp345:Spec fam:=⟨[.v (.st 1) []],[.v (.int .i64) []],λa=>iE a.1⟩
def nh(s:State)(path:List UInt8)(label:Int):Option Vec:=
 (mZ s path label (λa'=>iE a'.1)).bind λx=>
 some x
def h317:Hint:=.z
def sp317:Spec fam:=⟨[.v (.st 10) [],.v .str [],.v (.int .i64) []],[.v (.st 0) []],λa=>nh a.1 a.2.1 a.2.2.1⟩
def vL(s:State)(label:Int)(t:List Vec×Int):Option ((List Vec×Int) ⊕ List Vec):=
 bif decide (t.2<(s.Plans.length:Int))then
 (
  (idx s.Plans t.2).bind λx=>
  (
  bif x.Label == label then
   bif decide (x.From≤s.Now)then
   some (decide (x.Until>s.Now))
   else
   some false
  else
   some false).bind λq=>
  bif q then
  (app 16 t.1 [x.Need]).bind λl=>
  some l
  else
  some t.1).bind λl1=>
 some (.inl (l1,w64 (t.2+1)))
 else
 some (.inr t.1)
def qy(s:State)(label:Int):Option Vec:=
 (loop (vL s label) ([],0)).bind λl2=>
 (oX l2).bind λx1=>
 some x1
def h318:Hint:=(.s .z (.s .z (.s (.s .z (.b (.l [(5,.v (.slice (.st 0)) [0]),(11,.v (.int .i64) [])] [5,7,11,32] [(2,[(5,.v (.slice (.st 0)) [0])])] (.s .z (.s .z (.s (.j [5,7,32] [(0,[(5,.v (.slice (.st 0)) [0])])] (.b (.s .z (.s (.j [] [(0,[(32,.v .bool [])])] .z) .z)))) .z)))))) .z)))
def sp318:Spec fam:=⟨[.v (.st 10) [],.v (.int .i64) []],[.v (.st 0) []],λa=>qy a.1 a.2.1⟩
def pQ(s:State)(label:Int)(size:Vec)(x:List (List UInt8))(t:Int):Option (Int ⊕ (Bool ⊕ Unit)):=
 bif decide (t<(x.length:Int))then
 (inb t x.length).bind λi=>
 (x[i]?).bind λx1=>
 (cE s x1 label).bind λx2=>
 (dC x2 size).bind λx3=>
 (
  bif x3.2 != 0 then
  some true
  else
  (nh s x1 label).bind λx4=>
  (cf x3.1 x4).bind λx5=>
  some (! x5)).bind λq=>
 bif q then
  some (.inr (.inl false))
 else
  (fK s label).bind λx6=>
  (qy s label).bind λx7=>
  (
  bif x1 == ([114,111,111,116]:List UInt8)then
   bif ! (((imax (w64 (x6.Mem - x7.Mem)) 0) == x6.Mem)&&((imax (w64 (x6.Cores - x7.Cores)) 0) == x6.Cores))then
   (cf x3.1 (⟨imax (w64 (x6.Mem - x7.Mem)) 0,imax (w64 (x6.Cores - x7.Cores)) 0⟩:Vec)).bind λx8=>
   some (! x8)
   else
   some false
  else
   some false).bind λq1=>
  bif q1 then
  some (.inr (.inl false))
  else
  some (.inl (w64 (t+1)))
 else
 some (.inr (.inr ()))
def qA(s:State)(path:List UInt8)(label:Int)(size:Vec):Option Bool:=
 (uB path).bind λx=>
 (loop (pQ s label size x) 0).bind λq0=>
 match q0 with
 | .inl q2=>
 some q2
 | .inr _=>
 some true
def h279:Hint:=(.s .z (.s (.s .z (.b (.l [(19,.v (.int .i64) [])] [8,10,11,12,13,14,15,19,42,74] [(1,[(8,.v .bool [])]),(2,[])] (.s .z (.s .z (.s (.b (.s .z (.s .z (.s (.s (.j [] [(0,[(42,.v .bool [])])] .z) .z) (.s .z (.s .z (.s (.j [] [(0,[(74,.v .bool [])])] .z) .z))))))) .z)))))) .z))
def sp279:Spec fam:=⟨[.v (.st 10) [],.v .str [],.v (.int .i64) [],.v (.st 0) []],[.v .bool []],λa=>qA a.1 a.2.1 a.2.2.1 a.2.2.2.1⟩
def eD(t:Attempt)(a:App)(x:Ask):Option Bool:=
 (qA t.s a.Queue t.n.Label x.Size).bind λx1=>
 some x1
def h239:Hint:=.z
def sp239:Spec fam:=⟨[.rp (.st 19),.v (.st 6) [],.v (.st 5) []],[.v .bool []],λa=>eD a.1 a.2.1 a.2.2.1⟩
def Bc(s:List App)(i:Int)(v:List App):Option (List App):=
 (inS i (s.length:Int) s.length).bind λp=>
 bif(v.length:Int) == 0 then
 some s
 else
 bif i == (s.length:Int)then
  (app 200 s v).bind λl=>
  some l
 else
  none
def sf(s:List App)(i:Int)(v:List App):Option (List App):=ins s i v
def h170:Hint:=.z
def sp170:Spec fam:=⟨[.v (.slice (.st 6)) [0],.v (.int .i64) [],.v (.slice (.st 6)) [0]],[.v (.slice (.st 6)) [0]],λa=>sf a.1 a.2.1 a.2.2.1⟩
def Jm:Spec fam:=⟨[.v (.slice (.st 6)) [0],.v (.int .i64) [],.v (.slice (.st 6)) [0]],[.v (.slice (.st 6)) [0]],λa=>Bc a.1 a.2.1 a.2.2.1⟩
def yZ(s:State)(a:App)(k:Int):Option (Int ⊕ Int):=
 (
 bif decide (k<(s.Apps.length:Int))then
  (inb k s.Apps.length).bind λi2=>
  (s.Apps[i2]?).bind λx1=>
  some (decide (x1.Id<a.Id))
 else
  some false).bind λq=>
 bif q then
 some (.inl (w64 (k+1)))
 else
 some (.inr k)
def r7(s:State)(a:App):Option State:=
 (nG s a.Id).bind λi=>
 bif decide (i≥0)then
 (inb i s.Apps.length).bind λi1=>
 (s.Apps[i1]?).bind λx=>
 some (⟨⟨s.Conf.Labels,s.Conf.Queues⟩,s.Nodes,List.set s.Apps i1 a,s.Conts,s.Slots,s.Plans,s.Now,s.Epoch,s.Seq⟩:State)
 else
 (loop (yZ s a) 0).bind λk1=>
 (sf s.Apps k1 [a]).bind λx2=>
 some (⟨⟨s.Conf.Labels,s.Conf.Queues⟩,s.Nodes,x2,s.Conts,s.Slots,s.Plans,s.Now,s.Epoch,s.Seq⟩:State)
def h125:Hint:=(.s .z (.s .z (.s .z (.s (.b (.l [(6,.v (.int .i64) [])] [6,34] [(2,[(6,.v (.int .i64) [])])] (.s (.s (.j [] [(0,[(34,.v .bool [])])] .z) .z) .z))) .z))))
def sp125:Spec fam:=⟨[.v (.st 10) [0,1,2,3,4,5,6],.v (.st 6) [7,10,11,12,13,9999]],[.v (.st 10) [0,1,2,3,4,5,6]],λa=>r7 a.1 a.2.1⟩
def rE(s:State)(a:App):Option State:=
 (m9 s).bind λx=>
 (kS a).bind λx1=>
 (r7 x x1).bind λx2=>
 some x2
def h131:Hint:=.z
def sp131:Spec fam:=⟨[.v (.st 10) [],.ln (.st 6)],[.v (.st 10) [0,1,2,3,4,5,6]],λa=>rE a.1 a.2.1⟩
def rg(l:List Ask):Option (List Ask):=
 (mkl 64 (l.length:Int) (l.length:Int) (⟨0,0,⟨0,0⟩,0,0,0,0⟩:Ask)).bind λl1=>
 some (cpy l1 0 l1.length l)
def h173:Hint:=.z
def sp173:Spec fam:=⟨[.v (.slice (.st 5)) []],[.v (.slice (.st 5)) [0]],λa=>rg a.1⟩
def mX(s:List Ask)(f:(TupT fam [.st 5]→Option Bool))(t:Int):Option (Int ⊕ (Int ⊕ Unit)):=
 bif decide (t<(s.length:Int))then
 (idx s t).bind λx=>
 (f (x,())).bind λr=>
 bif r then
  some (.inr (.inl t))
 else
  some (.inl (w64 (t+1)))
 else
 some (.inr (.inr ()))
def jm(s:List Ask)(f:(TupT fam [.st 5]→Option Bool)):Option Int:=
 (loop (mX s f) 0).bind λq0=>
 match q0 with
 | .inl q=>
 some q
 | .inr _=>
 some (-1)
def h207:Hint:=(.s .z (.s (.s .z (.b (.l [(8,.v (.int .i64) [])] [4,5,8] [(1,[(4,.v (.int .i64) [])]),(2,[])] .z))) .z))
def sp207:Spec fam:=⟨[.v (.slice (.st 5)) [],.fn [.st 5] .bool],[.v (.int .i64) []],λa=>jm a.1 a.2.1⟩
def wN(a:Ask)(p:Int):Option Bool:=
 some (a.Prio == p)
def h346:Hint:=.z
def sp346:Spec fam:=⟨[.v (.st 5) [],.rp (.int .i64)],[.v .bool []],λa=>wN a.1 a.2.1⟩
def xY(l:List Ask)(prio:Int):Option Int:=
 (jm l (λa'=>wN a'.1 prio)).bind λx=>
 some x
def h319:Hint:=.z
def sp319:Spec fam:=⟨[.v (.slice (.st 5)) [],.v (.int .i64) []],[.v (.int .i64) []],λa=>xY a.1 a.2.1⟩
def rv(s:List Ask)(i:Int)(j:Int):Option (List Ask):=del s i j
def sp320:Spec fam:=⟨[.v (.slice (.st 5)) [0],.v (.int .i64) [],.v (.int .i64) []],[.v (.slice (.st 5)) [0]],λa=>rv a.1 a.2.1 a.2.2.1⟩
def sW(l:List Ask)(prio:Int):Option (List Ask×Bool):=
 (rg l).bind λout=>
 (xY out prio).bind λi=>
 bif decide (i<0)then
 some (out,false)
 else
 (inb i out.length).bind λi1=>
 (out[i1]?).bind λx=>
 (inb i (List.set out i1 (⟨x.Prio,x.Label,⟨x.Size.Mem,x.Size.Cores⟩,x.Count,x.Node,x.Rack,0⟩:Ask)).length).bind λi2=>
 ((List.set out i1 (⟨x.Prio,x.Label,⟨x.Size.Mem,x.Size.Cores⟩,x.Count,x.Node,x.Rack,0⟩:Ask))[i2]?).bind λx1=>
 (inb i (List.set out i1 (⟨x.Prio,x.Label,⟨x.Size.Mem,x.Size.Cores⟩,x.Count,x.Node,x.Rack,0⟩:Ask)).length).bind λi3=>
 ((List.set out i1 (⟨x.Prio,x.Label,⟨x.Size.Mem,x.Size.Cores⟩,x.Count,x.Node,x.Rack,0⟩:Ask))[i3]?).bind λx2=>
 (
  (inb i (List.set (List.set out i1 (⟨x.Prio,x.Label,⟨x.Size.Mem,x.Size.Cores⟩,x.Count,x.Node,x.Rack,0⟩:Ask)) i3 (⟨x2.Prio,x2.Label,⟨x2.Size.Mem,x2.Size.Cores⟩,w64 (x1.Count - 1),x2.Node,x2.Rack,x2.Missed⟩:Ask)).length).bind λi4=>
  ((List.set (List.set out i1 (⟨x.Prio,x.Label,⟨x.Size.Mem,x.Size.Cores⟩,x.Count,x.Node,x.Rack,0⟩:Ask)) i3 (⟨x2.Prio,x2.Label,⟨x2.Size.Mem,x2.Size.Cores⟩,w64 (x1.Count - 1),x2.Node,x2.Rack,x2.Missed⟩:Ask))[i4]?).bind λx3=>
  bif decide (x3.Count≤0)then
  (rv (List.set (List.set out i1 (⟨x.Prio,x.Label,⟨x.Size.Mem,x.Size.Cores⟩,x.Count,x.Node,x.Rack,0⟩:Ask)) i3 (⟨x2.Prio,x2.Label,⟨x2.Size.Mem,x2.Size.Cores⟩,w64 (x1.Count - 1),x2.Node,x2.Rack,x2.Missed⟩:Ask)) i (w64 (i+1))).bind λout1=>
  some out1
  else
  some (List.set (List.set out i1 (⟨x.Prio,x.Label,⟨x.Size.Mem,x.Size.Cores⟩,x.Count,x.Node,x.Rack,0⟩:Ask)) i3 (⟨x2.Prio,x2.Label,⟨x2.Size.Mem,x2.Size.Cores⟩,w64 (x1.Count - 1),x2.Node,x2.Rack,x2.Missed⟩:Ask))).bind λout2=>
 some (out2,true)
def h280:Hint:=(.s .z (.s .z (.s .z (.s .z (.s .z (.s .z (.s (.j [6] [(0,[(6,.v (.slice (.st 5)) [0])])] .z) .z)))))))
def sp280:Spec fam:=⟨[.v (.slice (.st 5)) [],.v (.int .i64) []],[.v (.slice (.st 5)) [0],.v .bool []],λa=>sW a.1 a.2.1⟩
def AW(s:List Cont)(i:Int)(v:List Cont):Option (List Cont):=
 (inS i (s.length:Int) s.length).bind λp=>
 bif(v.length:Int) == 0 then
 some s
 else
 bif i == (s.length:Int)then
  (app 72 s v).bind λl=>
  some l
 else
  none
def qj(s:List Cont)(i:Int)(v:List Cont):Option (List Cont):=ins s i v
def h281:Hint:=.z
def sp281:Spec fam:=⟨[.v (.slice (.st 7)) [0],.v (.int .i64) [],.v (.slice (.st 7)) [0]],[.v (.slice (.st 7)) [0]],λa=>qj a.1 a.2.1 a.2.2.1⟩
def Jn:Spec fam:=⟨[.v (.slice (.st 7)) [0],.v (.int .i64) [],.v (.slice (.st 7)) [0]],[.v (.slice (.st 7)) [0]],λa=>AW a.1 a.2.1 a.2.2.1⟩
def jP(t:Attempt)(x2:State)(k:Int):Option (Int ⊕ Int):=
 (
 bif decide (k<(x2.Conts.length:Int))then
  (inb k x2.Conts.length).bind λi=>
  (x2.Conts[i]?).bind λx3=>
  some (decide (x3.Id<(w64 ((shlK .i64 t.s.Epoch 20)+(w64 (t.s.Seq+1))))))
 else
  some false).bind λq=>
 bif q then
 some (.inl (w64 (k+1)))
 else
 some (.inr k)
def dY(t:Attempt)(a:App)(x:Ask):Option (Cont×Attempt):=
 (sW a.Asks x.Prio).bind λx1=>
 (
 bif a.State == 1 then
  some (⟨a.Id,2,a.Queue,a.User,a.Prio,⟨a.Master.Mem,a.Master.Cores⟩,[],t.s.Now,0,a.Grants,a.Kills,a.Told,a.Lost⟩:App)
 else
  (app 8 a.Grants [w64 ((shlK .i64 t.s.Epoch 20)+(w64 (t.s.Seq+1)))]).bind λl=>
  some (⟨a.Id,a.State,a.Queue,a.User,a.Prio,⟨a.Master.Mem,a.Master.Cores⟩,x1.1,a.Seen,a.Beat,l,a.Kills,a.Told,a.Lost⟩:App)).bind λa1=>
 (rE (⟨⟨t.s.Conf.Labels,t.s.Conf.Queues⟩,t.s.Nodes,t.s.Apps,t.s.Conts,t.s.Slots,t.s.Plans,t.s.Now,t.s.Epoch,w64 (t.s.Seq+1)⟩:State) a1).bind λx2=>
 (loop (jP t x2) 0).bind λk1=>
 (qj x2.Conts k1 [(⟨w64 ((shlK .i64 t.s.Epoch 20)+(w64 (t.s.Seq+1))),a.Id,t.n.Id,⟨x.Size.Mem,x.Size.Cores⟩,x.Prio,x.Label,a.State == 1,0⟩:Cont)]).bind λx4=>
 some ((⟨w64 ((shlK .i64 t.s.Epoch 20)+(w64 (t.s.Seq+1))),a.Id,t.n.Id,⟨x.Size.Mem,x.Size.Cores⟩,x.Prio,x.Label,a.State == 1,0⟩:Cont),(⟨⟨⟨x2.Conf.Labels,x2.Conf.Queues⟩,x2.Nodes,x2.Apps,x4,x2.Slots,x2.Plans,x2.Now,x2.Epoch,x2.Seq⟩,⟨t.n.Id,t.n.Label,t.n.Rack,⟨t.n.Cap.Mem,t.n.Cap.Cores⟩,t.n.Seen,t.n.Beat,t.n.Up⟩,⟨t.free.Mem,t.free.Cores⟩⟩:Attempt))
def h241:Hint:=(.s .z (.s .z (.s .z (.s .z (.s (.j [1,4] [(0,[(4,.box (.st 6) [7,10,11,12,13])])] .z) (.s .z (.s .z (.s (.b (.l [(8,.v (.int .i64) [])] [8,104] [(2,[(8,.v (.int .i64) [])])] (.s (.s (.j [] [(0,[(104,.v .bool [])])] .z) .z) .z))) .z))))))))
def sp241:Spec fam:=⟨[.box (.st 19) [0,2,4,5,6],.v (.st 6) [7,10,11,12,13],.v (.st 5) []],[.v (.st 7) []],λa=>dY a.1 a.2.1 a.2.2.1⟩
def ew(t:Attempt):Option (Int×Cont×Bool×Attempt):=
 (oY t.s.Slots (λa'=>none)).bind λi=>
 bif decide (i<0)then
 some (0,(⟨0,0,0,⟨0,0⟩,0,0,false,0⟩:Cont),false,t)
 else
 (inb i t.s.Slots.length).bind λi1=>
 (t.s.Slots[i1]?).bind λx=>
 (fg t.s x.App).bind λx1=>
 none
def h201:Hint:=.z
def sp201:Spec fam:=⟨[.box (.st 19) [0,2,4,5,6]],[.v (.int .i64) [],.v (.st 7) [],.v .bool []],λa=>ew a.1⟩
def oF(s:List Load)(f:(TupT fam [.st 15,.st 15]→Option Int)):Option (List Load):=sortG (F:=fam) (.st 15) f s
def sp348:Spec fam:=⟨[.row (.st 15) false,.fn [.st 15,.st 15] (.int .i64)],[],λa=>oF a.1 a.2.1⟩
def uF(vals:List Int)(t:Int):Option (Int ⊕ (Int ⊕ Unit)):=
 bif decide (t<(vals.length:Int))then
 (idx vals t).bind λx=>
 bif x != 0 then
  some (.inr (.inl x))
 else
  some (.inl (w64 (t+1)))
 else
 some (.inr (.inr ()))
def oV(vals:List Int):Option Int:=
 (loop (uF vals) 0).bind λq0=>
 match q0 with
 | .inl q=>
 some q
 | .inr _=>
 some 0
def h252:Hint:=(.s .z (.s .z (.s (.s .z (.b (.l [(8,.v (.int .i64) [])] [2,5,8] [(1,[(2,.v (.int .i64) [])]),(2,[])] .z))) .z)))
def sp252:Spec fam:=⟨[.v (.slice (.int .i64)) []],[.v (.int .i64) []],λa=>oV a.1⟩
def jk(r:Ratio)(q:Ratio):Option Int:=
 (
 bif r.of == 0 then
  some (q.of == 0)
 else
  some false).bind λq1=>
 bif q1 then
 some 0
 else
 bif r.of == 0 then
  some 1
 else
  bif q.of == 0 then
  some (-1)
  else
  (qE r.n q.of).bind λx=>
  (qE q.n r.of).bind λx1=>
  (
   bif decide (x.1<x1.1)then
   some true
   else
   bif x.1 == x1.1 then
    some (decide (x.2<x1.2))
   else
    some false).bind λq2=>
  bif q2 then
   some (-1)
  else
   (
   bif x.1 == x1.1 then
    some (x.2 == x1.2)
   else
    some false).bind λq3=>
   bif q3 then
   some 0
   else
   some 1
def h387:Hint:=(.s .z (.s (.b (.s (.j [] [(0,[(9,.v .bool [])])] .z) .z)) (.s .z (.s .z (.s (.b (.s (.j [] [(0,[(42,.v .bool [])])] .z) (.c .z (.s (.j [] [(0,[(56,.v .bool [])])] .z) .z)))) .z)))))
def sp387:Spec fam:=⟨[.v (.st 20) [],.v (.st 20) []],[.v (.int .i64) []],λa=>jk a.1 a.2.1⟩
def BI(a:Vec)(p:Vec)(get:(TupT fam [.st 0]→Option Int)):Option Ratio:=
 (get (a,())).bind λr=>
 (get (p,())).bind λr1=>
 bif r == 0 then
 some (⟨0,1⟩:Ratio)
 else
 some (⟨IntKind.u64.wrap r,IntKind.u64.wrap r1⟩:Ratio)
def h394:Hint:=.z
def sp394:Spec fam:=⟨[.v (.st 0) [],.v (.st 0) [],.fn [.st 0] (.int .i64)],[.v (.st 20) []],λa=>BI a.1 a.2.1 a.2.2.1⟩
def ww(v:Vec):Option Int:=
 some v.Mem
def h395:Hint:=.z
def sp395:Spec fam:=⟨[.v (.st 0) []],[.v (.int .i64) []],λa=>ww a.1⟩
def ub(v:Vec):Option Int:=
 some v.Cores
def h396:Hint:=.z
def sp396:Spec fam:=⟨[.v (.st 0) []],[.v (.int .i64) []],λa=>ub a.1⟩
def xP(a:Vec)(p:Vec):Option Ratio:=
 (BI a p (λa'=>ww a'.1)).bind λx=>
 (BI a p (λa'=>ub a'.1)).bind λx1=>
 (jk x x1).bind λx2=>
 bif decide (x2<0)then
 some x1
 else
 some x
def h386:Hint:=.z
def sp386:Spec fam:=⟨[.v (.st 0) [],.v (.st 0) []],[.v (.st 20) []],λa=>xP a.1 a.2.1⟩
def uM(a:Vec)(p:Vec)(b:Vec)(q:Vec):Option Int:=
 (
 (b7 a).bind λx=>
 bif ! x then
  some true
 else
  (b7 p).bind λx1=>
  bif ! x1 then
  some true
  else
  (b7 b).bind λx2=>
  bif ! x2 then
   some true
  else
   (b7 q).bind λx3=>
   some (! x3)).bind λq1=>
 bif q1 then
 some 0
 else
 (xP a p).bind λx4=>
 (xP b q).bind λx5=>
 (jk x4 x5).bind λx6=>
 some x6
def h367:Hint:=(.s .z (.s (.s (.j [] [(0,[(26,.v .bool [])])] .z) .z) .z))
def sp367:Spec fam:=⟨[.v (.st 0) [],.v (.st 0) [],.v (.st 0) [],.v (.st 0) []],[.v (.int .i64) []],λa=>uM a.1 a.2.1 a.2.2.1 a.2.2.2.1⟩
def fm(a:Load)(b:Load):Option Int:=
 (uM a.used a.least b.used b.least).bind λx=>
 (eE a.path b.path).bind λx1=>
 (oV [x,x1]).bind λx2=>
 some x2
def h349:Hint:=.z
def sp349:Spec fam:=⟨[.v (.st 15) [],.v (.st 15) []],[.v (.int .i64) []],λa=>fm a.1 a.2.1⟩
def vH(x4:List Load)(t1:List (List UInt8)×Int):Option ((List (List UInt8)×Int) ⊕ List (List UInt8)):=
 bif decide (t1.2<(x4.length:Int))then
 (inb t1.2 x4.length).bind λi1=>
 (x4[i1]?).bind λx5=>
 (inS t1.2 (t1.1.length:Int) t1.1.length).bind λp=>
 some (.inl (cpy t1.1 p.1 p.2 [x5.path],w64 (t1.2+1)))
 else
 some (.inr t1.1)
def qb(s:State)(label:Int)(x:List (List UInt8))(t:List Load×Int):Option ((List Load×Int) ⊕ List Load):=
 bif decide (t.2<(x.length:Int))then
 (inb t.2 x.length).bind λi=>
 (x[i]?).bind λx1=>
 (cE s x1 label).bind λx2=>
 (d4 s x1 label).bind λx3=>
 (app 48 t.1 [(⟨x1,⟨x2.Mem,x2.Cores⟩,⟨x3.Mem,x3.Cores⟩⟩:Load)]).bind λl=>
 some (.inl (l,w64 (t.2+1)))
 else
 some (.inr t.1)
def qu(s:State)(path:List UInt8)(label:Int):Option (List (List UInt8)):=
 (jp s.Conf path).bind λx=>
 (loop (qb s label x) ([],0)).bind λl1=>
 (oF l1 (λa'=>fm a'.1 a'.2.1)).bind λx4=>
 (mkl 16 (x4.length:Int) (x4.length:Int) []).bind λl2=>
 (loop (vH x4) (l2,0)).bind λout=>
 some out
def h323:Hint:=(.s .z (.s .z (.s (.s .z (.b (.l [(7,.v (.slice (.st 15)) [0]),(18,.v (.int .i64) [])] [7,9,18,19,20,21,22,23,24,25,26,27,28,29,30,31,32,33,34,35] [(2,[(7,.v (.slice (.st 15)) [0])])] .z))) (.s .z (.s .z (.s (.s .z (.b (.l [(10,.row .str false),(43,.v (.int .i64) [])] [10,11,12,43] [(4,[(10,.row .str false)])] .z))) .z))))))
def sp323:Spec fam:=⟨[.v (.st 10) [],.v .str [],.v (.int .i64) []],[.v (.slice (.str)) [0]],λa=>qu a.1 a.2.1 a.2.2.1⟩
def lj(s:State)(label:Int)(deep:Int)(self:State→(List UInt8)→Int→Int→Option (List (List UInt8)))(kids:List (List UInt8))(t:List (List UInt8)×Int):Option ((List (List UInt8)×Int) ⊕ List (List UInt8)):=
 bif decide (t.2<(kids.length:Int))then
 (inb t.2 kids.length).bind λi=>
 (kids[i]?).bind λx=>
 (self s x label (w64 (deep+1))).bind λx1=>
 (app 16 t.1 x1).bind λl=>
 some (.inl (l,w64 (t.2+1)))
 else
 some (.inr t.1)
def qe(self:State→(List UInt8)→Int→Int→Option (List (List UInt8)))(s:State)(path:List UInt8)(label:Int)(deep:Int):Option (List (List UInt8)):=
 (qu s path label).bind λkids=>
 (
 bif(kids.length:Int) == 0 then
  some true
 else
  some (decide (deep>4))).bind λq=>
 bif q then
 some [path]
 else
 (loop (lj s label deep self kids) ([],0)).bind λout=>
 some out
def ig:Nat→State→(List UInt8)→Int→Int→Option (List (List UInt8))
 | 0=>λ_ _ _ _=>none
 | n+1=>qe (ig n)
def oI(a0:State)(a1:List UInt8)(a2:Int)(a3:Int):Option (List (List UInt8)):=ig 64 a0 a1 a2 a3
def h282:Hint:=(.s .z (.s .z (.s (.s (.j [17,18,19,20,21,22,23] [(0,[(23,.v .bool [])])] .z) .z) (.s .z (.s (.s .z (.b (.l [(10,.v (.slice (.str)) [0]),(28,.v (.int .i64) [])] [10,12,28] [(2,[(10,.v (.slice (.str)) [0])])] .z))) .z)))))
def sp282:Spec fam:=⟨[.v (.st 10) [],.v .str [],.v (.int .i64) [],.v (.int .i64) []],[.v (.slice (.str)) [0]],λa=>oI a.1 a.2.1 a.2.2.1 a.2.2.2.1⟩
def Jh(n:Nat):Spec fam:=⟨[.v (.st 10) [],.v .str [],.v (.int .i64) [],.v (.int .i64) []],[.v (.slice (.str)) [0]],λa=>ig n a.1 a.2.1 a.2.2.1 a.2.2.2.1⟩
def mr(s:State)(label:Int):Option (List (List UInt8)):=
 (oI s ([114,111,111,116]:List UInt8) label 1).bind λx=>
 some x
def h242:Hint:=.z
def sp242:Spec fam:=⟨[.v (.st 10) [],.v (.int .i64) []],[.v (.slice (.str)) [0]],λa=>mr a.1 a.2.1⟩
def sX(a:Int)(cmp:(TupT fam [.st 6,.st 6]→Option Int))(t1:List App×Int):Option ((List App×Int) ⊕ List App):=
 (
 bif decide (t1.2>a)then
  (inb t1.2 t1.1.length).bind λi=>
  (t1.1[i]?).bind λx=>
  (inb (w64 (t1.2 - 1)) t1.1.length).bind λi1=>
  (t1.1[i1]?).bind λx1=>
  (cmp (x,x1,())).bind λr=>
  some (decide (r<0))
 else
  some false).bind λq=>
 bif q then
 (inb (w64 (t1.2 - 1)) t1.1.length).bind λi2=>
 (t1.1[i2]?).bind λx2=>
 (inb t1.2 t1.1.length).bind λi3=>
 (t1.1[i3]?).bind λx3=>
 (inb t1.2 t1.1.length).bind λi4=>
 (t1.1[i4]?).bind λx4=>
 (inb (w64 (t1.2 - 1)) (List.set t1.1 i4 x2).length).bind λi5=>
 ((List.set t1.1 i4 x2)[i5]?).bind λx5=>
 some (.inl (List.set (List.set t1.1 i4 x2) i5 x3,w64 (t1.2 - 1)))
 else
 some (.inr t1.1)
def mA(a:Int)(b:Int)(cmp:(TupT fam [.st 6,.st 6]→Option Int))(t:List App×Int):Option ((List App×Int) ⊕ List App):=
 bif decide (t.2<b)then
 (loop (sX a cmp) (t.1,t.2)).bind λdata1=>
 some (.inl (data1,w64 (t.2+1)))
 else
 some (.inr t.1)
def jr(data:List App)(a:Int)(b:Int)(cmp:(TupT fam [.st 6,.st 6]→Option Int)):Option (List App):=
 (loop (mA a b cmp) (data,w64 (a+1))).bind λdata2=>
 some data2
def h368:Hint:=(.s .z (.b (.l [(0,.row (.st 6) false),(8,.v (.int .i64) [])] [0,8,9,34] [(2,[(0,.row (.st 6) false)])] (.s .z (.s (.b (.s .z (.b (.l [(0,.row (.st 6) false),(9,.v (.int .i64) [])] [0,9,34] [(4,[(0,.row (.st 6) false)])] (.s (.s (.j [] [(0,[(34,.v .bool [])])] .z) .z) .z))))) .z)))))
def sp368:Spec fam:=⟨[.row (.st 6) false,.v (.int .i64) [],.v (.int .i64) [],.fn [.st 6,.st 6] (.int .i64)],[],λa=>jr a.1 a.2.1 a.2.2.1 a.2.2.2.1⟩
def AF(a:Int)(b:Int)(n:Int)(t:List App×Int):Option ((List App×Int) ⊕ List App):=
 bif decide (t.2<n)then
 (inb (w64 (b+t.2)) t.1.length).bind λi=>
 (t.1[i]?).bind λx=>
 (inb (w64 (a+t.2)) t.1.length).bind λi1=>
 (t.1[i1]?).bind λx1=>
 (inb (w64 (a+t.2)) t.1.length).bind λi2=>
 (t.1[i2]?).bind λx2=>
 (inb (w64 (b+t.2)) (List.set t.1 i2 x).length).bind λi3=>
 ((List.set t.1 i2 x)[i3]?).bind λx3=>
 some (.inl (List.set (List.set t.1 i2 x) i3 x1,w64 (t.2+1)))
 else
 some (.inr t.1)
def lO(data:List App)(a:Int)(b:Int)(n:Int)(cmp:(TupT fam [.st 6,.st 6]→Option Int)):Option (List App):=
 (loop (AF a b n) (data,0)).bind λdata1=>
 some data1
def h397:Hint:=(.s .z (.b (.l [(0,.row (.st 6) false),(10,.v (.int .i64) [])] [0,10] [(2,[(0,.row (.st 6) false)])] .z)))
def sp397:Spec fam:=⟨[.row (.st 6) false,.v (.int .i64) [],.v (.int .i64) [],.v (.int .i64) [],.fn [.st 6,.st 6] (.int .i64)],[],λa=>lO a.1 a.2.1 a.2.2.1 a.2.2.2.1 a.2.2.2.2.1⟩
def AB(m:Int)(cmp:(TupT fam [.st 6,.st 6]→Option Int))(t:List App×Int×Int):Option ((List App×Int×Int) ⊕ ((List App×Int))):=
 bif t.2.1 != t.2.2 then
 bif decide (t.2.1>t.2.2)then
  (lO t.1 (w64 (m - t.2.1)) m t.2.2 cmp).bind λx=>
  let i:=w64 (t.2.1 - t.2.2)
  some (.inl (x,i,t.2.2))
 else
  (lO t.1 (w64 (m - t.2.1)) (w64 ((w64 (m+t.2.2)) - t.2.1)) t.2.1 cmp).bind λx1=>
  let j:=w64 (t.2.2 - t.2.1)
  some (.inl (x1,t.2.1,j))
 else
 some (.inr (t.1,t.2.1))
def xm(data:List App)(a:Int)(m:Int)(b:Int)(cmp:(TupT fam [.st 6,.st 6]→Option Int)):Option (List App):=
 (loop (AB m cmp) (data,w64 (m - a),w64 (b - m))).bind λq=>
 (lO q.1 (w64 (m - q.2)) m q.2 cmp).bind λx2=>
 some x2
def h388:Hint:=(.s .z (.s .z (.s (.b (.l [(0,.row (.st 6) false),(10,.v (.int .i64) []),(11,.v (.int .i64) [])] [0,10,11] [(2,[(0,.row (.st 6) false),(10,.v (.int .i64) [])])] .z)) .z)))
def sp388:Spec fam:=⟨[.row (.st 6) false,.v (.int .i64) [],.v (.int .i64) [],.v (.int .i64) [],.fn [.st 6,.st 6] (.int .i64)],[],λa=>xm a.1 a.2.1 a.2.2.1 a.2.2.2.1 a.2.2.2.2.1⟩
def yw(data:List App)(cmp:(TupT fam [.st 6,.st 6]→Option Int))(p:Int)(t4:Int×Int):Option ((Int×Int) ⊕ Int):=
 bif decide (t4.1<t4.2)then
 let c:=w64 (shrK .u64 (IntKind.u64.wrap (w64 (t4.1+t4.2))) 1)
 (inb (w64 (p - c)) data.length).bind λi14=>
 (data[i14]?).bind λx12=>
 (inb c data.length).bind λi15=>
 (data[i15]?).bind λx13=>
 (cmp (x12,x13,())).bind λr2=>
 bif ! (decide (r2<0))then
  some (.inl (w64 (c+1),t4.2))
 else
  some (.inl (t4.1,c))
 else
 some (.inr t4.1)
def yo(i9:Int)(t3:List App×Int):Option ((List App×Int) ⊕ List App):=
 bif decide (t3.2>i9)then
 (inb (w64 (t3.2 - 1)) t3.1.length).bind λi10=>
 (t3.1[i10]?).bind λx8=>
 (inb t3.2 t3.1.length).bind λi11=>
 (t3.1[i11]?).bind λx9=>
 (inb t3.2 t3.1.length).bind λi12=>
 (t3.1[i12]?).bind λx10=>
 (inb (w64 (t3.2 - 1)) (List.set t3.1 i12 x8).length).bind λi13=>
 ((List.set t3.1 i12 x8)[i13]?).bind λx11=>
 some (.inl (List.set (List.set t3.1 i12 x8) i13 x9,w64 (t3.2 - 1)))
 else
 some (.inr t3.1)
def yv(data:List App)(m:Int)(cmp:(TupT fam [.st 6,.st 6]→Option Int))(t2:Int×Int):Option ((Int×Int) ⊕ Int):=
 bif decide (t2.1<t2.2)then
 let h1:=w64 (shrK .u64 (IntKind.u64.wrap (w64 (t2.1+t2.2))) 1)
 (inb m data.length).bind λi7=>
 (data[i7]?).bind λx6=>
 (inb h1 data.length).bind λi8=>
 (data[i8]?).bind λx7=>
 (cmp (x6,x7,())).bind λr1=>
 bif ! (decide (r1<0))then
  some (.inl (w64 (h1+1),t2.2))
 else
  some (.inl (t2.1,h1))
 else
 some (.inr t2.1)
def yB(i2:Int)(t1:List App×Int):Option ((List App×Int) ⊕ List App):=
 bif decide (t1.2<(w64 (i2 - 1)))then
 (inb (w64 (t1.2+1)) t1.1.length).bind λi3=>
 (t1.1[i3]?).bind λx2=>
 (inb t1.2 t1.1.length).bind λi4=>
 (t1.1[i4]?).bind λx3=>
 (inb t1.2 t1.1.length).bind λi5=>
 (t1.1[i5]?).bind λx4=>
 (inb (w64 (t1.2+1)) (List.set t1.1 i5 x2).length).bind λi6=>
 ((List.set t1.1 i5 x2)[i6]?).bind λx5=>
 some (.inl (List.set (List.set t1.1 i5 x2) i6 x3,w64 (t1.2+1)))
 else
 some (.inr t1.1)
def yA(data:List App)(a:Int)(cmp:(TupT fam [.st 6,.st 6]→Option Int))(t:Int×Int):Option ((Int×Int) ⊕ Int):=
 bif decide (t.1<t.2)then
 let h:=w64 (shrK .u64 (IntKind.u64.wrap (w64 (t.1+t.2))) 1)
 (inb h data.length).bind λi=>
 (data[i]?).bind λx=>
 (inb a data.length).bind λi1=>
 (data[i1]?).bind λx1=>
 (cmp (x,x1,())).bind λr=>
 bif decide (r<0)then
  some (.inl (w64 (h+1),t.2))
 else
  some (.inl (t.1,h))
 else
 some (.inr t.1)
def Bn(self:(List App)→Int→Int→Int→((TupT fam [.st 6,.st 6]→Option Int))→Option (List App))(data:List App)(a:Int)(m:Int)(b:Int)(cmp:(TupT fam [.st 6,.st 6]→Option Int)):Option (List App):=
 bif(w64 (m - a)) == 1 then
 (loop (yA data a cmp) (m,b)).bind λi2=>
 (loop (yB i2) (data,a)).bind λdata1=>
 some data1
 else
 bif(w64 (b - m)) == 1 then
  (loop (yv data m cmp) (a,m)).bind λi9=>
  (loop (yo i9) (data,m)).bind λdata2=>
  some data2
 else
  let mid:=w64 (shrK .u64 (IntKind.u64.wrap (w64 (a+b))) 1)
  (
  bif decide (m>mid)then
   let start:=w64 ((w64 (mid+m)) - b)
   some (start,mid)
  else
   some (a,m)).bind λq=>
  let p:=w64 ((w64 (mid+m)) - 1)
  (loop (yw data cmp p) (q.1,q.2)).bind λstart1=>
  let end_:=w64 ((w64 (mid+m)) - start1)
  (
  (
   bif decide (start1<m)then
   some (decide (m<end_))
   else
   some false).bind λq1=>
  bif q1 then
   (xm data start1 m end_ cmp).bind λx14=>
   some x14
  else
   some data).bind λdata3=>
  (
  (
   bif decide (a<start1)then
   some (decide (start1<mid))
   else
   some false).bind λq2=>
  bif q2 then
   (self data3 a start1 mid cmp).bind λx15=>
   some x15
  else
   some data3).bind λdata4=>
  (
  bif decide (mid<end_)then
   some (decide (end_<b))
  else
   some false).bind λq3=>
  bif q3 then
  (self data4 mid end_ b cmp).bind λx16=>
  some x16
  else
  some data4
def nQ:Nat→(List App)→Int→Int→Int→((TupT fam [.st 6,.st 6]→Option Int))→Option (List App)
 | 0=>λ_ _ _ _ _=>none
 | n+1=>Bn (nQ n)
def lR(a0:List App)(a1:Int)(a2:Int)(a3:Int)(a4:(TupT fam [.st 6,.st 6]→Option Int)):Option (List App):=nQ 64 a0 a1 a2 a3 a4
def h369:Hint:=(.s (.s .z (.c (.s .z (.s .z (.s (.b (.l [(10,.v (.int .i64) []),(11,.v (.int .i64) [])] [10,11,12] [(2,[(10,.v (.int .i64) [])])] .z)) (.s (.s .z (.b (.l [(0,.row (.st 6) false),(13,.v (.int .i64) [])] [0,13] [(4,[(0,.row (.st 6) false)])] .z))) .z)))) .z)) (.s (.s .z (.c (.s .z (.s .z (.s (.b (.l [(14,.v (.int .i64) []),(15,.v (.int .i64) [])] [14,15,16] [(6,[(14,.v (.int .i64) [])])] .z)) (.s (.s .z (.b (.l [(0,.row (.st 6) false),(17,.v (.int .i64) [])] [0,17] [(8,[(0,.row (.st 6) false)])] .z))) .z)))) .z)) (.s .z (.s .z (.s .z (.s (.j [20,21] [(0,[(20,.v (.int .i64) []),(21,.v (.int .i64) [])])] .z) (.s .z (.s (.b (.l [(20,.v (.int .i64) []),(21,.v (.int .i64) [])] [20,21,23] [(10,[(20,.v (.int .i64) [])])] .z)) (.s .z (.s (.j [0,185] [(0,[(0,.row (.st 6) false)])] (.s (.j [] [(0,[(185,.v .bool [])])] .z) .z)) (.s (.j [0,199] [(0,[(0,.row (.st 6) false)])] (.s (.j [] [(0,[(199,.v .bool [])])] .z) .z)) (.s (.j [] [(0,[(213,.v .bool [])])] .z) .z))))))))))))
def sp369:Spec fam:=⟨[.row (.st 6) false,.v (.int .i64) [],.v (.int .i64) [],.v (.int .i64) [],.fn [.st 6,.st 6] (.int .i64)],[],λa=>lR a.1 a.2.1 a.2.2.1 a.2.2.2.1 a.2.2.2.2.1⟩
def IS(n:Nat):Spec fam:=⟨[.row (.st 6) false,.v (.int .i64) [],.v (.int .i64) [],.v (.int .i64) [],.fn [.st 6,.st 6] (.int .i64)],[],λa=>nQ n a.1 a.2.1 a.2.2.1 a.2.2.2.1 a.2.2.2.2.1⟩
def sR(n:Int)(cmp:(TupT fam [.st 6,.st 6]→Option Int))(t1:List App×Int)(t2:List App×Int×Int):Option ((List App×Int×Int) ⊕ ((List App×Int))):=
 bif decide (t2.2.2≤n)then
 (lR t2.1 t2.2.1 (w64 (t2.2.1+t1.2)) t2.2.2 cmp).bind λx2=>
 let b:=w64 (t2.2.2+(w64 (2*t1.2)))
 some (.inl (x2,t2.2.2,b))
 else
 some (.inr (t2.1,t2.2.1))
def mF(n:Int)(cmp:(TupT fam [.st 6,.st 6]→Option Int))(t1:List App×Int):Option ((List App×Int) ⊕ List App):=
 bif decide (t1.2<n)then
 (loop (sR n cmp t1) (t1.1,0,w64 (2*t1.2))).bind λq1=>
 (
  let m:=w64 (q1.2+t1.2)
  bif decide (m<n)then
  (lR q1.1 q1.2 m n cmp).bind λx3=>
  some x3
  else
  some q1.1).bind λdata1=>
 some (.inl (data1,w64 (t1.2*2)))
 else
 some (.inr t1.1)
def lW(n:Int)(cmp:(TupT fam [.st 6,.st 6]→Option Int))(t:List App×Int×Int):Option ((List App×Int×Int) ⊕ ((List App×Int))):=
 bif decide (t.2.2≤n)then
 (jr t.1 t.2.1 t.2.2 cmp).bind λx=>
 some (.inl (x,t.2.2,w64 (t.2.2+20)))
 else
 some (.inr (t.1,t.2.1))
def m7(data:List App)(n:Int)(cmp:(TupT fam [.st 6,.st 6]→Option Int)):Option (List App):=
 (loop (lW n cmp) (data,0,20)).bind λq=>
 (jr q.1 q.2 n cmp).bind λx1=>
 (loop (mF n cmp) (x1,20)).bind λdata2=>
 some data2
def h350:Hint:=(.s .z (.s .z (.s (.b (.l [(0,.row (.st 6) false),(7,.v (.int .i64) []),(8,.v (.int .i64) [])] [0,7,8] [(2,[(0,.row (.st 6) false),(7,.v (.int .i64) [])])] .z)) (.s .z (.b (.l [(0,.row (.st 6) false),(6,.v (.int .i64) [])] [0,6,7,8,9] [(4,[(0,.row (.st 6) false)])] (.s .z (.b (.s .z (.s (.b (.l [(0,.row (.st 6) false),(7,.v (.int .i64) []),(8,.v (.int .i64) [])] [0,7,8] [(6,[(0,.row (.st 6) false),(7,.v (.int .i64) [])])] .z)) (.s (.j [0,9] [(0,[(0,.row (.st 6) false)])] .z) .z)))))))))))
def sp350:Spec fam:=⟨[.row (.st 6) false,.v (.int .i64) [],.fn [.st 6,.st 6] (.int .i64)],[],λa=>m7 a.1 a.2.1 a.2.2.1⟩
def mM(x:List App)(cmp:(TupT fam [.st 6,.st 6]→Option Int)):Option (List App):=
 (m7 x (x.length:Int) cmp).bind λx1=>
 some x1
def h324:Hint:=.z
def sp324:Spec fam:=⟨[.row (.st 6) false,.fn [.st 6,.st 6] (.int .i64)],[],λa=>mM a.1 a.2.1⟩
def se(_a0:App)(_a1:App):Option Int:=none
def sp325:Spec fam:=⟨[.v (.st 6) [],.v (.st 6) []],[.v (.int .i64) []],λa=>se a.1 a.2.1⟩
def vB(x2:List App)(t1:List Int×Int):Option ((List Int×Int) ⊕ List Int):=
 bif decide (t1.2<(x2.length:Int))then
 (inb t1.2 x2.length).bind λi=>
 (x2[i]?).bind λx3=>
 (inb t1.2 t1.1.length).bind λi1=>
 (t1.1[i1]?).bind λx4=>
 some (.inl (List.set t1.1 i1 x3.Id,w64 (t1.2+1)))
 else
 some (.inr t1.1)
def vv(s:State)(queue:List UInt8)(t:List App×Int):Option ((List App×Int) ⊕ List App):=
 bif decide (t.2<(s.Apps.length:Int))then
 (
  (idx s.Apps t.2).bind λx=>
  (
  (cJ x).bind λx1=>
  bif x1 then
   some (x.Queue == queue)
  else
   some false).bind λq=>
  bif q then
  (app 200 t.1 [x]).bind λl=>
  some l
  else
  some t.1).bind λl1=>
 some (.inl (l1,w64 (t.2+1)))
 else
 some (.inr t.1)
def qL(s:State)(queue:List UInt8):Option (List Int):=
 (loop (vv s queue) ([],0)).bind λl2=>
 (mM l2 (λa'=>se a'.1 a'.2.1)).bind λx2=>
 (mkl 8 (x2.length:Int) (x2.length:Int) 0).bind λl3=>
 (loop (vB x2) (l3,0)).bind λout=>
 some out
def h283:Hint:=(.s .z (.s .z (.s (.s .z (.b (.l [(5,.v (.slice (.st 6)) [0]),(14,.v (.int .i64) [])] [5,7,14,15,16,17,18,19,20,21,22,23,24,25,26,27,28,29,30] [(2,[(5,.v (.slice (.st 6)) [0])])] (.s .z (.s .z (.s (.j [5,7,16,17,18,19,20,21,22,23,24,25,26,27,28,29] [(0,[(5,.v (.slice (.st 6)) [0])])] (.b (.s .z (.s (.j [18,19,20,21,22,23,24,25] [(0,[(25,.v .bool [])])] .z) .z)))) .z)))))) (.s .z (.s .z (.s (.s .z (.b (.l [(8,.row (.int .i64) false),(38,.v (.int .i64) [])] [8,9,10,38] [(4,[(8,.row (.int .i64) false)])] .z))) .z))))))
def sp283:Spec fam:=⟨[.v (.st 10) [],.v .str []],[.v (.slice (.int .i64)) [0]],λa=>qL a.1 a.2.1⟩
def v_(_a0:Attempt)(_a1:App)(_a2:Int):Option App:=none
def sp284:Spec fam:=⟨[.rp (.st 19),.v (.st 6) [],.v (.int .i64) []],[.v (.st 6) []],λa=>v_ a.1 a.2.1 a.2.2.1⟩
def wc(_a0:Attempt)(_a1:Int)(_a2:Int):Option Bool:=none
def sp285:Spec fam:=⟨[.rp (.st 19),.v (.int .i64) [],.v (.int .i64) []],[.v .bool []],λa=>wc a.1 a.2.1 a.2.2.1⟩
def eL(first:Bool)(may:(TupT fam [.st 5,.st 4]→Option Bool))(x5:List Ask)(t3:Attempt×Cont×App×Int):Option ((Attempt×Cont×App×Int) ⊕ ((Attempt×Int×Cont) ⊕ (Attempt×Cont))):=
 bif decide (t3.2.2.2<(x5.length:Int))then
 (
  (inb t3.2.2.2 x5.length).bind λi1=>
  (x5[i1]?).bind λx6=>
  (eW t3.1 t3.2.2.1 x6).bind λdue=>
  (
  (hZ t3.1 x6).bind λx7=>
  bif ! x7 then
   some true
  else
   bif first then
   some (! due)
   else
   some false).bind λq=>
  bif q then
  some (.inl (t3.1,t3.2.1,t3.2.2.1))
  else
  (may (x6,t3.1.n,())).bind λr=>
  bif ! r then
   bif first == due then
   none
   else
   some (.inl (t3.1,t3.2.1,t3.2.2.1))
  else
   (eD t3.1 t3.2.2.1 x6).bind λx8=>
   bif ! x8 then
   some (.inl (t3.1,t3.2.1,t3.2.2.1))
   else
   (iC t3.1 x6).bind λx9=>
   bif x9 then
    (dY t3.1 t3.2.2.1 x6).bind λx10=>
    some (.inr (x10.2,1,x10.1))
   else
    bif first then
    none
    else
    some (.inl (t3.1,t3.2.1,t3.2.2.1)):Option ((Attempt×Cont×App) ⊕ (Attempt×Int×Cont))).bind λq0=>
 match q0 with
 | .inl q1=>
  some (.inl (q1.1,q1.2.1,q1.2.2,w64 (t3.2.2.2+1)))
 | .inr q2=>
  some (.inr (.inl (q2.1,q2.2.1,q2.2.2)))
 else
 some (.inr (.inr (t3.1,t3.2.1)))
def eJ(first:Bool)(may:(TupT fam [.st 5,.st 4]→Option Bool))(x1:List Int)(t2:Attempt×Cont×Int):Option ((Attempt×Cont×Int) ⊕ ((Attempt×Int×Cont) ⊕ (Attempt×Cont) ⊕ (Attempt×Cont))):=
 bif decide (t2.2.2<(x1.length:Int))then
 (
  (inb t2.2.2 x1.length).bind λi=>
  (x1[i]?).bind λx2=>
  (fg t2.1.s x2).bind λx3=>
  bif ! x3.2 then
  some (.inr (.inr (t2.1,t2.2.1)))
  else
  (eu t2.1 x3.1).bind λx4=>
  bif ! x4 then
   some (.inl (t2.1,t2.2.1))
  else
   (rF x3.1.Asks).bind λx5=>
   (loop (eL first may x5) (t2.1,t2.2.1,x3.1,0)).bind λq0=>
   match q0 with
   | .inl q3=>
   some (.inr (.inl (q3.1,q3.2.1,q3.2.2)))
   | .inr q4=>
   some (.inl (q4.1,q4.2)):Option ((Attempt×Cont) ⊕ (Attempt×Int×Cont) ⊕ (Attempt×Cont))).bind λq0=>
 match q0 with
 | .inl q5=>
  some (.inl (q5.1,q5.2,w64 (t2.2.2+1)))
 | .inr (.inl q6)=>
  some (.inr (.inl (q6.1,q6.2.1,q6.2.2)))
 | .inr (.inr q7)=>
  some (.inr (.inr (.inl (q7.1,q7.2))))
 else
 some (.inr (.inr (.inr (t2.1,t2.2.1))))
def eK(leaves:List (List UInt8))(first:Bool)(may:(TupT fam [.st 5,.st 4]→Option Bool))(t1:Attempt×Cont×Int):Option ((Attempt×Cont×Int) ⊕ ((Attempt×Int×Cont) ⊕ (Attempt×Cont))):=
 bif decide (t1.2.2<(leaves.length:Int))then
 (
  (idx leaves t1.2.2).bind λx=>
  (qL t1.1.s x).bind λx1=>
  (loop (eJ first may x1) (t1.1,t1.2.1,0)).bind λq0=>
  match q0 with
  | .inl q8=>
  some (.inr (q8.1,q8.2.1,q8.2.2))
  | .inr (.inl q9)=>
  some (.inl (q9.1,q9.2))
  | .inr (.inr q10)=>
  some (.inl (q10.1,q10.2)):Option ((Attempt×Cont) ⊕ (Attempt×Int×Cont))).bind λq0=>
 match q0 with
 | .inl q11=>
  some (.inl (q11.1,q11.2,w64 (t1.2.2+1)))
 | .inr q12=>
  some (.inr (.inl (q12.1,q12.2.1,q12.2.2)))
 else
 some (.inr (.inr (t1.1,t1.2.1)))
def cq(t:Attempt)(leaves:List (List UInt8))(first:Bool)(may:(TupT fam [.st 5,.st 4]→Option Bool)):Option (Int×Cont×Attempt):=
 (loop (eK leaves first may) (t,(⟨0,0,0,⟨0,0⟩,0,0,false,0⟩:Cont),0)).bind λq0=>
 match q0 with
 | .inl q13=>
 some (q13.2.1,q13.2.2,q13.1)
 | .inr q14=>
 some (0,(⟨0,0,0,⟨0,0⟩,0,0,false,0⟩:Cont),q14.1)
def h243:Hint:=(.s .z (.b (.s .z (.s .z (.s (.s .z (.b (.l [(0,.box (.st 19) [0,2,4,5,6]),(9,.box (.st 7) []),(24,.v (.int .i64) [])] [0,8,9,12,14,15,16,18,19,24,25,26,27,28,29,30,31,32,33,34,35,36,37,38,39,40,41,42,43,44,45,46,47,48,49,50,51,52,53,54,55,56,57,58,66] [(1,[(0,.box (.st 19) [0,2,4,5,6]),(8,.v (.int .i64) []),(9,.box (.st 7) [])]),(2,[(0,.box (.st 19) [0,2,4,5,6]),(9,.box (.st 7) [])])] (.s .z (.s .z (.s (.j [0,8,9,12,14,15,16,18,19,26,27,28,29,30,31,32,33,34,35,36,37,38,39,40,41,42,43,44,45,46,47,48,49,50,51,52,53,54,55,56,57,58,66] [(0,[(0,.box (.st 19) [0,2,4,5,6]),(9,.box (.st 7) [])]),(1,[(0,.box (.st 19) [0,2,4,5,6]),(8,.v (.int .i64) []),(9,.box (.st 7) [])])] (.b (.s .z (.s .z (.b (.l [(0,.box (.st 19) [0,2,4,5,6]),(9,.box (.st 7) []),(35,.v (.int .i64) [])] [0,8,9,14,15,16,18,19,31,35,36,37,38,39,40,41,42,43,44,45,46,47,48,49,50,51,52,53,54,55,56,57,58,66] [(1,[(0,.box (.st 19) [0,2,4,5,6]),(8,.v (.int .i64) []),(9,.box (.st 7) [])]),(3,[(0,.box (.st 19) [0,2,4,5,6]),(9,.box (.st 7) [])]),(4,[(0,.box (.st 19) [0,2,4,5,6]),(9,.box (.st 7) [])])] (.s .z (.s .z (.s (.j [0,8,9,14,15,16,18,19,37,38,39,40,41,42,43,44,45,46,47,48,49,50,51,52,53,54,55,56,57,58,66] [(0,[(0,.box (.st 19) [0,2,4,5,6]),(9,.box (.st 7) [])]),(1,[(0,.box (.st 19) [0,2,4,5,6]),(8,.v (.int .i64) []),(9,.box (.st 7) [])]),(3,[(0,.box (.st 19) [0,2,4,5,6]),(9,.box (.st 7) [])])] (.b (.s .z (.s .z (.s .z (.s .z (.s .z (.b (.l [(0,.box (.st 19) [0,2,4,5,6]),(9,.box (.st 7) []),(15,.box (.st 6) [7,10,11,12,13]),(58,.v (.int .i64) [])] [0,8,9,15,18,19,43,46,51,54,55,58,66] [(1,[(0,.box (.st 19) [0,2,4,5,6]),(8,.v (.int .i64) []),(9,.box (.st 7) [])]),(6,[(0,.box (.st 19) [0,2,4,5,6]),(9,.box (.st 7) [])])] (.s .z (.s .z (.s (.j [0,8,9,15,18,19,66] [(0,[(0,.box (.st 19) [0,2,4,5,6]),(9,.box (.st 7) []),(15,.box (.st 6) [7,10,11,12,13])]),(1,[(0,.box (.st 19) [0,2,4,5,6]),(8,.v (.int .i64) []),(9,.box (.st 7) [])])] (.b (.s .z (.s .z (.b (.s (.j [] [(0,[(66,.v .bool [])])] .z) .z)))))) .z)))))))))))) .z))))))))) .z)))))) .z)))))
def sp243:Spec fam:=⟨[.box (.st 19) [0,2,4,5,6],.v (.slice (.str)) [],.v .bool [],.fn [.st 5,.st 4] .bool],[.v (.int .i64) [],.v (.st 7) []],λa=>cq a.1 a.2.1 a.2.2.1 a.2.2.2.1⟩
def dq(t:Attempt):Option (Int×Cont×Attempt):=
 (mr t.s t.n.Label).bind λleaves=>
 (cq t leaves true (λa'=>pA a'.1 a'.2.1)).bind λx=>
 bif x.1 != 0 then
 some (x.1,x.2.1,x.2.2)
 else
 (cq x.2.2 leaves false (λa'=>pA a'.1 a'.2.1)).bind λx1=>
 some (x1.1,x1.2.1,x1.2.2)
def h202:Hint:=.z
def sp202:Spec fam:=⟨[.box (.st 19) [0,2,4,5,6]],[.v (.int .i64) [],.v (.st 7) []],λa=>dq a.1⟩
def qR(s:State)(node:Int):Option (State×Int×Cont):=
 (cL s []).bind λx=>
 (hU s node).bind λx1=>
 (
 bif ! x1.2 then
  some true
 else
  bif ! x1.1.Up then
  some true
  else
  bif decide ((s.Conts.length:Int)≥200)then
   some true
  else
   some (decide (s.Seq≥1048575))).bind λq=>
 bif q then
 some (x,0,(⟨0,0,0,⟨0,0⟩,0,0,false,0⟩:Cont))
 else
 (qt s node).bind λx2=>
 (ew (⟨⟨⟨x.Conf.Labels,x.Conf.Queues⟩,x.Nodes,x.Apps,x.Conts,x.Slots,x.Plans,x.Now,x.Epoch,x.Seq⟩,⟨x1.1.Id,x1.1.Label,x1.1.Rack,⟨x1.1.Cap.Mem,x1.1.Cap.Cores⟩,x1.1.Seen,x1.1.Beat,x1.1.Up⟩,⟨x2.Mem,x2.Cores⟩⟩:Attempt)).bind λx3=>
 (
  bif ! x3.2.2.1 then
  (dq x3.2.2.2).bind λx4=>
  some (x4.1,x4.2.1,x4.2.2)
  else
  some (x3.1,x3.2.1,x3.2.2.2)).bind λq1=>
 (cL q1.2.2.s []).bind λx5=>
 some (x5,q1.1,q1.2.1)
def h169:Hint:=(.s .z (.s .z (.s .z (.s (.s (.j [] [(0,[(37,.v .bool [])])] .z) .z) (.s .z (.s .z (.s (.j [5,6,10] [(0,[(5,.v (.int .i64) []),(6,.box (.st 7) []),(10,.box (.st 19) [0,2,4,5,6])])] .z) .z)))))))
def sp169:Spec fam:=⟨[.v (.st 10) [],.v (.int .i64) []],[.v (.st 10) [0,1001,2,1003,4,5,6],.v (.int .i64) [],.v (.st 7) []],λa=>qR a.1 a.2.1⟩
def nX(node:Int)(t:State×List Cont):Option ((State×List Cont) ⊕ ((State×List Cont))):=
 bif decide ((t.2.length:Int)<3)then
 (qR t.1 node).bind λx1=>
 bif x1.2.1 != 1 then
  some (.inr (x1.1,t.2))
 else
  (app 72 t.2 [x1.2.2]).bind λl=>
  some (.inl (x1.1,l))
 else
 some (.inr (t.1,t.2))
def oP(s:State)(node:Int):Option (State×List Cont):=
 (cL s []).bind λx=>
 (loop (nX node) (x,[])).bind λq=>
 some (q.1,q.2)
def h120:Hint:=(.s .z (.s .z (.s .z (.s (.b (.l [(2,.box (.st 10) [0,1001,2,1003,4,5,6]),(6,.v (.slice (.st 7)) [0])] [2,6,7,8,9] [(2,[(2,.box (.st 10) [0,1001,2,1003,4,5,6]),(6,.v (.slice (.st 7)) [0])])] .z)) .z))))
def sp120:Spec fam:=⟨[.v (.st 10) [],.v (.int .i64) []],[.v (.st 10) [0,1001,2,1003,4,5,6],.v (.slice (.st 7)) [0]],λa=>oP a.1 a.2.1⟩
def fM(t:Step):Option (Output×Step):=
 (hU t.s t.x.Id).bind λx=>
 (
 bif x.2 then
  bif x.1.Up then
  some (t.x.Beat == x.1.Beat)
  else
  some false
 else
  some false).bind λq=>
 bif q then
 (dv t x.1.Id).bind λx1=>
 some ((⟨0,[],x1,[],0⟩:Output),t)
 else
 (qH t.s t.x.Id t.x.Beat).bind λx2=>
 bif x2.2 != 0 then
  none
 else
  (dv t x.1.Id).bind λx3=>
  (bO t.x.Ids).bind λx4=>
  (a7 x4 (λa'=>iF a'.1 x3)).bind λended=>
  (cL x2.1 ended).bind λx5=>
  (oP x5 x.1.Id).bind λx6=>
  (dv (⟨⟨⟨x6.1.Conf.Labels,x6.1.Conf.Queues⟩,x6.1.Nodes,x6.1.Apps,x6.1.Conts,x6.1.Slots,x6.1.Plans,x6.1.Now,x6.1.Epoch,x6.1.Seq⟩,⟨t.x.Kind,t.x.Id,t.x.Beat,t.x.N,t.x.Text,⟨t.x.Node.Id,t.x.Node.Label,t.x.Node.Rack,⟨t.x.Node.Cap.Mem,t.x.Node.Cap.Cores⟩,t.x.Node.Seen,t.x.Node.Beat,t.x.Node.Up⟩,⟨t.x.App.Id,t.x.App.State,t.x.App.Queue,t.x.App.User,t.x.App.Prio,⟨t.x.App.Master.Mem,t.x.App.Master.Cores⟩,t.x.App.Asks,t.x.App.Seen,t.x.App.Beat,t.x.App.Grants,t.x.App.Kills,t.x.App.Told,t.x.App.Lost⟩,t.x.Asks,t.x.Ids,⟨t.x.Plan.Id,t.x.Plan.Label,t.x.Plan.From,t.x.Plan.Until,⟨t.x.Plan.Need.Mem,t.x.Plan.Need.Cores⟩⟩⟩⟩:Step) x.1.Id).bind λx7=>
  some ((⟨0,[],x7,[],0⟩:Output),(⟨⟨⟨x6.1.Conf.Labels,x6.1.Conf.Queues⟩,x6.1.Nodes,x6.1.Apps,x6.1.Conts,x6.1.Slots,x6.1.Plans,x6.1.Now,x6.1.Epoch,x6.1.Seq⟩,⟨t.x.Kind,t.x.Id,t.x.Beat,t.x.N,t.x.Text,⟨t.x.Node.Id,t.x.Node.Label,t.x.Node.Rack,⟨t.x.Node.Cap.Mem,t.x.Node.Cap.Cores⟩,t.x.Node.Seen,t.x.Node.Beat,t.x.Node.Up⟩,⟨t.x.App.Id,t.x.App.State,t.x.App.Queue,t.x.App.User,t.x.App.Prio,⟨t.x.App.Master.Mem,t.x.App.Master.Cores⟩,t.x.App.Asks,t.x.App.Seen,t.x.App.Beat,t.x.App.Grants,t.x.App.Kills,t.x.App.Told,t.x.App.Lost⟩,t.x.Asks,t.x.Ids,⟨t.x.Plan.Id,t.x.Plan.Label,t.x.Plan.From,t.x.Plan.Until,⟨t.x.Plan.Need.Mem,t.x.Plan.Need.Cores⟩⟩⟩⟩:Step))
def h74:Hint:=(.s .z (.s .z (.s (.s (.j [] [(0,[(36,.v .bool [])])] .z) .z) .z)))
def sp74:Spec fam:=⟨[.box (.st 18) [0,2,4,5,6,7000]],[.v (.st 11) [1,2,3]],λa=>fM a.1⟩
def sY(del:(TupT fam [.st 5]→Option Bool))(t:List Ask×Int×Int):Option ((List Ask×Int×Int) ⊕ ((List Ask×Int))):=
 bif decide (t.2.2<(t.1.length:Int))then
 (
  (inb t.2.2 t.1.length).bind λi1=>
  (t.1[i1]?).bind λx=>
  (del (x,())).bind λr=>
  bif ! r then
  (inb t.2.1 t.1.length).bind λi2=>
  (t.1[i2]?).bind λx1=>
  some (List.set t.1 i2 x,w64 (t.2.1+1))
  else
  some (t.1,t.2.1)).bind λq=>
 some (.inl (q.1,q.2,w64 (t.2.2+1)))
 else
 some (.inr (t.1,t.2.1))
def lS(s:List Ask)(del:(TupT fam [.st 5]→Option Bool)):Option (List Ask):=
 (jm s del).bind λi=>
 bif i == (-1)then
 some s
 else
 (loop (sY del) (s,i,w64 (i+1))).bind λq1=>
 (inS q1.2 (q1.1.length:Int) q1.1.length).bind λp=>
 (inS 0 q1.2 (cpy q1.1 p.1 p.2 (List.replicate p.2 (⟨0,0,⟨0,0⟩,0,0,0,0⟩:Ask))).length).bind λp1=>
 some (List.take p1.2 (cpy q1.1 p.1 p.2 (List.replicate p.2 (⟨0,0,⟨0,0⟩,0,0,0,0⟩:Ask))))
def h172:Hint:=(.s .z (.s .z (.s .z (.s (.s .z (.b (.l [(0,.row (.st 5) false),(5,.v (.int .i64) []),(6,.v (.int .i64) [])] [0,5,6,7] [(2,[(0,.row (.st 5) false),(5,.v (.int .i64) [])])] (.s .z (.s (.j [0,5,7] [(0,[(0,.row (.st 5) false),(5,.v (.int .i64) [])])] .z) .z))))) (.s .z (.s (.r [9998]) .z))))))
def sp172:Spec fam:=⟨[.v (.slice (.st 5)) [0],.fn [.st 5] .bool],[.v (.slice (.st 5)) [0]],λa=>lS a.1 a.2.1⟩
def uO(_a0:Ask)(_a1:Ask):Option Bool:=none
def sp174:Spec fam:=⟨[.v (.st 5) [],.rp (.st 5)],[.v .bool []],λa=>uO a.1 a.2.1⟩
def Bi(s:List Ask)(i:Int)(v:List Ask):Option (List Ask):=
 (inS i (s.length:Int) s.length).bind λp=>
 bif(v.length:Int) == 0 then
 some s
 else
 bif i == (s.length:Int)then
  (app 64 s v).bind λl=>
  some l
 else
  none
def rB(s:List Ask)(i:Int)(v:List Ask):Option (List Ask):=ins s i v
def h175:Hint:=.z
def sp175:Spec fam:=⟨[.v (.slice (.st 5)) [0],.v (.int .i64) [],.v (.slice (.st 5)) [0]],[.v (.slice (.st 5)) [0]],λa=>rB a.1 a.2.1 a.2.2.1⟩
def Ju:Spec fam:=⟨[.v (.slice (.st 5)) [0],.v (.int .i64) [],.v (.slice (.st 5)) [0]],[.v (.slice (.st 5)) [0]],λa=>Bi a.1 a.2.1 a.2.2.1⟩
def yK(a:Ask)(out:List Ask)(k:Int):Option (Int ⊕ Int):=
 (
 bif decide (k<(out.length:Int))then
  (inb k out.length).bind λi=>
  (out[i]?).bind λx1=>
  some (decide (x1.Prio<a.Prio))
 else
  some false).bind λq=>
 bif q then
 some (.inl (w64 (k+1)))
 else
 some (.inr k)
def ro(l:List Ask)(a:Ask):Option (List Ask×Int):=
 (rg l).bind λx=>
 (lS x (λa'=>uO a'.1 a)).bind λout=>
 bif a.Count == 0 then
 some (out,0)
 else
 bif decide ((out.length:Int)≥8)then
  some ([],4)
 else
  (loop (yK a out) 0).bind λk1=>
  (rB out k1 [(⟨a.Prio,a.Label,⟨a.Size.Mem,a.Size.Cores⟩,a.Count,a.Node,a.Rack,0⟩:Ask)]).bind λx2=>
  some (x2,0)
def h129:Hint:=(.s .z (.s .z (.s .z (.s .z (.s .z (.s .z (.s (.b (.l [(7,.v (.int .i64) [])] [7,33] [(2,[(7,.v (.int .i64) [])])] (.s (.s (.j [] [(0,[(33,.v .bool [])])] .z) .z) .z))) .z)))))))
def sp129:Spec fam:=⟨[.v (.slice (.st 5)) [],.v (.st 5) []],[.v (.slice (.st 5)) [0],.v (.int .i64) []],λa=>ro a.1 a.2.1⟩
def qx(a:App):Option (List Ask):=
 (ro [] (⟨0,0,⟨a.Master.Mem,a.Master.Cores⟩,1,(-1),(-1),0⟩:Ask)).bind λx=>
 some x.1
def h107:Hint:=.z
def sp107:Spec fam:=⟨[.v (.st 6) []],[.v (.slice (.st 5)) [0]],λa=>qx a.1⟩
def bV(n:Int)(least:Int)(most:Int):Option Bool:=
 bif decide (n≥least)then
 some (decide (n≤most))
 else
 some false
def h121:Hint:=.z
def sp121:Spec fam:=⟨[.v (.int .i64) [],.v (.int .i64) [],.v (.int .i64) []],[.v .bool []],λa=>bV a.1 a.2.1 a.2.2.1⟩
def xd(l:List App)(t:Int×Int):Option ((Int×Int) ⊕ Int):=
 bif decide (t.2<(l.length:Int))then
 (
  (idx l t.2).bind λx=>
  (cJ x).bind λx1=>
  bif x1 then
  some (w64 (t.1+1))
  else
  some t.1).bind λn=>
 some (.inl (n,w64 (t.2+1)))
 else
 some (.inr t.1)
def th(l:List App):Option Int:=
 (loop (xd l) (0,0)).bind λn1=>
 some n1
def h122:Hint:=(.s .z (.s .z (.s (.s .z (.b (.l [(3,.v (.int .i64) []),(8,.v (.int .i64) [])] [3,5,8] [(2,[(3,.v (.int .i64) [])])] (.s .z (.s .z (.s (.j [3,5] [(0,[(3,.v (.int .i64) [])])] .z) .z)))))) .z)))
def sp122:Spec fam:=⟨[.v (.slice (.st 6)) []],[.v (.int .i64) []],λa=>th a.1⟩
def xa(a:App):Option Bool:=
 (cJ a).bind λx=>
 some (! x)
def h123:Hint:=.z
def sp123:Spec fam:=⟨[.v (.st 6) []],[.v .bool []],λa=>xa a.1⟩
def C6(_a0:List App)(_a1:Int)(_a2:Int):Option (List App):=none
def sp124:Spec fam:=⟨[.v (.slice (.st 6)) [],.v (.int .i64) [],.v (.int .i64) []],[.v (.slice (.st 6)) []],λa=>C6 a.1 a.2.1 a.2.2.1⟩
def oR(s:State)(a:App):Option (State×Int):=
 (m9 s).bind λx=>
 (
 (bV a.Id 0 9999).bind λx1=>
 bif ! x1 then
  some true
 else
  (bV a.User 0 99).bind λx2=>
  bif ! x2 then
  some true
  else
  (bV a.Prio 0 9).bind λx3=>
  bif ! x3 then
   some true
  else
   (bV a.Master.Mem 1 1073741824).bind λx4=>
   bif ! x4 then
   some true
   else
   (bV a.Master.Cores 1 1073741824).bind λx5=>
   some (! x5)).bind λq=>
 bif q then
 some (x,1)
 else
 (nG x a.Id).bind λx6=>
 bif decide (x6≥0)then
  some (x,7)
 else
  (th x.Apps).bind λx7=>
  bif decide (x7≥16)then
  some (x,4)
  else
  (lG x.Conf a.Queue).bind λx8=>
  bif ! x8 then
   some (x,19)
  else
   (nS x.Apps (λa'=>xa a'.1)).bind λk=>
   (
   bif decide ((x.Apps.length:Int)≥16)then
    some (decide (k≥0))
   else
    some false).bind λq1=>
   bif q1 then
   none
   else
   (qx (⟨a.Id,1,a.Queue,a.User,a.Prio,⟨a.Master.Mem,a.Master.Cores⟩,[],x.Now,0,[],[],[],[]⟩:App)).bind λx9=>
   (r7 x (⟨a.Id,1,a.Queue,a.User,a.Prio,⟨a.Master.Mem,a.Master.Cores⟩,x9,x.Now,0,[],[],[],[]⟩:App)).bind λx10=>
   some (x10,0)
def h75:Hint:=(.s .z (.s .z (.s (.b (.s (.j [] [(0,[(10,.v .bool [])])] .z) .z)) (.s (.s .z (.s (.j [] [(0,[(73,.v .bool [])])] .z) .z)) .z))))
def sp75:Spec fam:=⟨[.v (.st 10) [],.v (.st 6) []],[.v (.st 10) [0,1,2,3,4,5,6],.v (.int .i64) []],λa=>oR a.1 a.2.1⟩
def ls(t:Step)(x:Int)(t2:List Cont×Int):Option ((List Cont×Int) ⊕ List Cont):=
 bif decide (t2.2<(t.s.Conts.length:Int))then
 (
  (idx t.s.Conts t2.2).bind λx1=>
  bif x1.Id == x then
  (app 72 t2.1 [x1]).bind λl=>
  some l
  else
  some t2.1).bind λout=>
 some (.inl (out,w64 (t2.2+1)))
 else
 some (.inr t2.1)
def gu(t:Step)(ids:List Int)(t1:List Cont×Int):Option ((List Cont×Int) ⊕ List Cont):=
 bif decide (t1.2<(ids.length:Int))then
 (idx ids t1.2).bind λx=>
 (loop (ls t x) (t1.1,0)).bind λout1=>
 some (.inl (out1,w64 (t1.2+1)))
 else
 some (.inr t1.1)
def ci(t:Step)(ids:List Int):Option (List Cont):=
 (loop (gu t ids) ([],0)).bind λout2=>
 some out2
def h126:Hint:=(.s .z (.s .z (.s (.s .z (.b (.l [(5,.v (.slice (.st 7)) [0]),(12,.v (.int .i64) [])] [5,7,9,12,13,14,15,16,17,18,19,20,21,22] [(2,[(5,.v (.slice (.st 7)) [0])])] (.s .z (.s .z (.s (.b (.s .z (.s .z (.b (.l [(5,.v (.slice (.st 7)) [0]),(22,.v (.int .i64) [])] [5,9,22] [(4,[(5,.v (.slice (.st 7)) [0])])] (.s .z (.s .z (.s (.j [5,9] [(0,[(5,.v (.slice (.st 7)) [0])])] .z) .z)))))))) .z)))))) .z)))
def sp126:Spec fam:=⟨[.rp (.st 18),.v (.slice (.int .i64)) []],[.v (.slice (.st 7)) [0]],λa=>ci a.1 a.2.1⟩
def jQ(t:Step)(app_:Int)(t1:List Int×Int):Option ((List Int×Int) ⊕ List Int):=
 bif decide (t1.2<(t.s.Conts.length:Int))then
 (
  (idx t.s.Conts t1.2).bind λx=>
  (
  bif x.App == app_ then
   some (x.Notice != 0)
  else
   some false).bind λq=>
  bif q then
  (app 8 t1.1 [x.Id]).bind λl=>
  some l
  else
  some t1.1).bind λout=>
 some (.inl (out,w64 (t1.2+1)))
 else
 some (.inr t1.1)
def cC(t:Step)(app_:Int):Option (List Int):=
 (loop (jQ t app_) ([],0)).bind λout1=>
 some out1
def h127:Hint:=(.s .z (.s .z (.s (.s .z (.b (.l [(5,.v (.slice (.int .i64)) [0]),(14,.v (.int .i64) [])] [5,7,14,26] [(2,[(5,.v (.slice (.int .i64)) [0])])] (.s .z (.s .z (.s (.j [5,7,26] [(0,[(5,.v (.slice (.int .i64)) [0])])] (.b (.s .z (.s (.j [] [(0,[(26,.v .bool [])])] .z) .z)))) .z)))))) .z)))
def sp127:Spec fam:=⟨[.rp (.st 18),.v (.int .i64) []],[.v (.slice (.int .i64)) [0]],λa=>cC a.1 a.2.1⟩
def br(s:List Int)(f:(TupT fam [.int .i64]→Option Bool)):Option Bool:=
 (a_ s f).bind λx=>
 some (decide (x≥0))
def h205:Hint:=.z
def sp205:Spec fam:=⟨[.v (.slice (.int .i64)) [],.fn [.int .i64] .bool],[.v .bool []],λa=>br a.1 a.2.1⟩
def uP(n:Int)(p:Int)(p1:Int):Option Bool:=
 bif decide (n<p)then
 some true
 else
 some (decide (n>p1))
def h206:Hint:=.z
def sp206:Spec fam:=⟨[.v (.int .i64) [],.rp (.int .i64),.rp (.int .i64)],[.v .bool []],λa=>uP a.1 a.2.1 a.2.2.1⟩
def ep(least:Int)(most:Int)(l:List Int):Option Bool:=
 (br l (λa'=>uP a'.1 least most)).bind λx=>
 some (! x)
def h171:Hint:=.z
def sp171:Spec fam:=⟨[.v (.int .i64) [],.v (.int .i64) [],.v (.slice (.int .i64)) []],[.v .bool []],λa=>ep a.1 a.2.1 a.2.2.1⟩
def qM(a:Ask)(labels:Int):Option Int:=
 (
 (ep 0 9 [a.Prio]).bind λx=>
 bif ! x then
  some true
 else
  (ep 0 (w64 (labels - 1)) [a.Label]).bind λx1=>
  bif ! x1 then
  some true
  else
  (ep 1 1073741824 [a.Size.Mem,a.Size.Cores]).bind λx2=>
  bif ! x2 then
   some true
  else
   (ep (-1) 999 [a.Node]).bind λx3=>
   bif ! x3 then
   some true
   else
   (ep (-1) 99 [a.Rack]).bind λx4=>
   bif ! x4 then
    some true
   else
    bif a.Node != (-1)then
    some (a.Rack == (-1))
    else
    some false).bind λq=>
 bif q then
 some 1
 else
 (ep 0 50 [a.Count]).bind λx5=>
 bif ! x5 then
  some 4
 else
  some 0
def h128:Hint:=(.s .z (.s (.b (.s (.j [] [(0,[(5,.v .bool [])])] .z) .z)) .z))
def sp128:Spec fam:=⟨[.v (.st 5) [],.v (.int .i64) []],[.v (.int .i64) []],λa=>qM a.1 a.2.1⟩
def iG(_a0:Cont)(_a1:Int)(_a2:App):Option Bool:=none
def sp176:Spec fam:=⟨[.v (.st 7) [],.rp (.int .i64),.rp (.st 6)],[.v .bool []],λa=>iG a.1 a.2.1 a.2.2.1⟩
def iL(_a0:Int)(_a1:Int):Option Bool:=none
def sp177:Spec fam:=⟨[.v (.int .i64) [],.rp (.int .i64)],[.v .bool []],λa=>iL a.1 a.2.1⟩
def hP(ids:List Int)(t1:Step×App×Int):Option ((Step×App×Int) ⊕ ((Step×App))):=
 bif decide (t1.2.2<(ids.length:Int))then
 (
  (idx ids t1.2.2).bind λx=>
  (gF t1.1.s.Conts (λa'=>iG a'.1 x t1.2.1)).bind λi=>
  bif decide (i≥0)then
  (jw t1.1.s.Conts i (w64 (i+1))).bind λx1=>
  (a7 t1.2.1.Grants (λa'=>iL a'.1 x)).bind λx2=>
  some ((⟨⟨⟨t1.1.s.Conf.Labels,t1.1.s.Conf.Queues⟩,t1.1.s.Nodes,t1.1.s.Apps,x1,t1.1.s.Slots,t1.1.s.Plans,t1.1.s.Now,t1.1.s.Epoch,t1.1.s.Seq⟩,⟨t1.1.x.Kind,t1.1.x.Id,t1.1.x.Beat,t1.1.x.N,t1.1.x.Text,⟨t1.1.x.Node.Id,t1.1.x.Node.Label,t1.1.x.Node.Rack,⟨t1.1.x.Node.Cap.Mem,t1.1.x.Node.Cap.Cores⟩,t1.1.x.Node.Seen,t1.1.x.Node.Beat,t1.1.x.Node.Up⟩,⟨t1.1.x.App.Id,t1.1.x.App.State,t1.1.x.App.Queue,t1.1.x.App.User,t1.1.x.App.Prio,⟨t1.1.x.App.Master.Mem,t1.1.x.App.Master.Cores⟩,t1.1.x.App.Asks,t1.1.x.App.Seen,t1.1.x.App.Beat,t1.1.x.App.Grants,t1.1.x.App.Kills,t1.1.x.App.Told,t1.1.x.App.Lost⟩,t1.1.x.Asks,t1.1.x.Ids,⟨t1.1.x.Plan.Id,t1.1.x.Plan.Label,t1.1.x.Plan.From,t1.1.x.Plan.Until,⟨t1.1.x.Plan.Need.Mem,t1.1.x.Plan.Need.Cores⟩⟩⟩⟩:Step),(⟨t1.2.1.Id,t1.2.1.State,t1.2.1.Queue,t1.2.1.User,t1.2.1.Prio,⟨t1.2.1.Master.Mem,t1.2.1.Master.Cores⟩,t1.2.1.Asks,t1.2.1.Seen,t1.2.1.Beat,x2,t1.2.1.Kills,t1.2.1.Told,t1.2.1.Lost⟩:App))
  else
  some (t1.1,t1.2.1)).bind λq=>
 some (.inl (q.1,q.2,w64 (t1.2.2+1)))
 else
 some (.inr (t1.1,t1.2.1))
def fS(t:Step)(a:App)(ids:List Int):Option (App×Step):=
 (loop (hP ids) (t,a,0)).bind λq1=>
 some (q1.2,q1.1)
def h130:Hint:=(.s .z (.s (.s .z (.b (.l [(0,.box (.st 18) [0,2,4,5,6]),(4,.box (.st 6) [7,10,11,12,13]),(12,.v (.int .i64) [])] [0,1,4,8,9,12] [(2,[(0,.box (.st 18) [0,2,4,5,6]),(4,.box (.st 6) [7,10,11,12,13])])] (.s .z (.s .z (.s (.j [0,4,8,9] [(0,[(0,.box (.st 18) [0,2,4,5,6]),(4,.box (.st 6) [7,10,11,12,13])])] .z) .z)))))) .z))
def sp130:Spec fam:=⟨[.box (.st 18) [0,2,4,5,6],.v (.st 6) [7,10,11,12,13],.v (.slice (.int .i64)) []],[.v (.st 6) [7,10,11,12,13]],λa=>fS a.1 a.2.1 a.2.2.1⟩
def fD(t:Step)(t1:App×Int):Option ((App×Int) ⊕ App):=
 bif decide (t1.2<(t.x.Asks.length:Int))then
 (idx t.x.Asks t1.2).bind λx3=>
 (qM x3 (t.s.Conf.Labels.length:Int)).bind λe=>
 (
  bif e == 0 then
  (ro t1.1.Asks x3).bind λx4=>
  some ((⟨t1.1.Id,t1.1.State,t1.1.Queue,t1.1.User,t1.1.Prio,⟨t1.1.Master.Mem,t1.1.Master.Cores⟩,x4.1,t1.1.Seen,t1.1.Beat,t1.1.Grants,t1.1.Kills,t1.1.Told,t1.1.Lost⟩:App),x4.2)
  else
  some (t1.1,e)).bind λq=>
 bif q.2 != 0 then
  none
 else
  some (.inl (q.1,w64 (t1.2+1)))
 else
 some (.inr t1.1)
def eB(t:Step):Option (Output×Step):=
 (fg t.s t.x.Id).bind λx=>
 bif ! x.2 then
 none
 else
 bif x.1.State != 2 then
  none
 else
  bif decide (t.x.Beat<x.1.Beat)then
  none
  else
  bif decide ((w64 (t.x.Beat - x.1.Beat))>1)then
   none
  else
   bif t.x.Beat == x.1.Beat then
   (ci t x.1.Told).bind λx1=>
   (cC t x.1.Id).bind λx2=>
   some ((⟨0,x1,x2,x.1.Lost,0⟩:Output),t)
   else
   (loop (fD t) (x.1,0)).bind λa=>
   (fS t a t.x.Ids).bind λx5=>
   (ci x5.2 x5.1.Grants).bind λx6=>
   (cC x5.2 x5.1.Id).bind λx7=>
   (bO x5.1.Kills).bind λx8=>
   (rE x5.2.s (⟨x5.1.Id,x5.1.State,x5.1.Queue,x5.1.User,x5.1.Prio,⟨x5.1.Master.Mem,x5.1.Master.Cores⟩,x5.1.Asks,x5.2.s.Now,w64 (x5.1.Beat+1),[],[],x5.1.Grants,x5.1.Kills⟩:App)).bind λx9=>
   some ((⟨0,x6,x7,x8,0⟩:Output),(⟨⟨⟨x9.Conf.Labels,x9.Conf.Queues⟩,x9.Nodes,x9.Apps,x9.Conts,x9.Slots,x9.Plans,x9.Now,x9.Epoch,x9.Seq⟩,⟨x5.2.x.Kind,x5.2.x.Id,x5.2.x.Beat,x5.2.x.N,x5.2.x.Text,⟨x5.2.x.Node.Id,x5.2.x.Node.Label,x5.2.x.Node.Rack,⟨x5.2.x.Node.Cap.Mem,x5.2.x.Node.Cap.Cores⟩,x5.2.x.Node.Seen,x5.2.x.Node.Beat,x5.2.x.Node.Up⟩,⟨x5.2.x.App.Id,x5.2.x.App.State,x5.2.x.App.Queue,x5.2.x.App.User,x5.2.x.App.Prio,⟨x5.2.x.App.Master.Mem,x5.2.x.App.Master.Cores⟩,x5.2.x.App.Asks,x5.2.x.App.Seen,x5.2.x.App.Beat,x5.2.x.App.Grants,x5.2.x.App.Kills,x5.2.x.App.Told,x5.2.x.App.Lost⟩,x5.2.x.Asks,x5.2.x.Ids,⟨x5.2.x.Plan.Id,x5.2.x.Plan.Label,x5.2.x.Plan.From,x5.2.x.Plan.Until,⟨x5.2.x.Plan.Need.Mem,x5.2.x.Plan.Need.Cores⟩⟩⟩⟩:Step))
def h76:Hint:=(.s .z (.s .z (.s .z (.s (.s .z (.b (.l [(3,.box (.st 6) [7,10,11,12,13]),(78,.v (.int .i64) [])] [3,6,7,20,78] [(3,[(3,.box (.st 6) [7,10,11,12,13])])] (.s .z (.s .z (.s (.b (.s .z (.s .z (.s (.j [3,7] [(0,[(3,.box (.st 6) [7,10,11,12,13]),(7,.v (.int .i64) [])])] .z) .z)))) .z)))))) .z))))
def sp76:Spec fam:=⟨[.box (.st 18) [0,2,4,5,6,7000]],[.v (.st 11) [1,2,3]],λa=>eB a.1⟩
def zN(_a0:Step)(_a1:Int):Option Output:=none
def sp77:Spec fam:=⟨[.rp (.st 18),.v (.int .i64) []],[.v (.st 11) []],λa=>zN a.1 a.2.1⟩
def ta(s:State)(t:List Int×Int):Option ((List Int×Int) ⊕ List Int):=
 bif decide (t.2<(s.Nodes.length:Int))then
 (
  (idx s.Nodes t.2).bind λx=>
  (
  bif x.Up then
   some (decide ((w64 (s.Now - x.Seen))≥10))
  else
   some false).bind λq=>
  bif q then
  (app 8 t.1 [x.Id]).bind λl=>
  some l
  else
  some t.1).bind λout=>
 some (.inl (out,w64 (t.2+1)))
 else
 some (.inr t.1)
def me(s:State):Option (List Int):=
 (loop (ta s) ([],0)).bind λout1=>
 some out1
def h133:Hint:=(.s .z (.s .z (.s (.s .z (.b (.l [(3,.v (.slice (.int .i64)) [0]),(9,.v (.int .i64) [])] [3,5,9,22] [(2,[(3,.v (.slice (.int .i64)) [0])])] (.s .z (.s .z (.s (.j [3,5,22] [(0,[(3,.v (.slice (.int .i64)) [0])])] (.b (.s .z (.s (.j [] [(0,[(22,.v .bool [])])] .z) .z)))) .z)))))) .z)))
def sp133:Spec fam:=⟨[.v (.st 10) []],[.v (.slice (.int .i64)) [0]],λa=>me a.1⟩
def yr(_a0:Step)(_a1:Int):Option Unit:=none
def sp134:Spec fam:=⟨[.rp (.st 18),.v (.int .i64) []],[],λa=>yr a.1 a.2.1⟩
def tV(s:State)(t:List Ent2_IntInt×List Int×Int):Option ((List Ent2_IntInt×List Int×Int) ⊕ List Int):=
 bif decide (t.2.2<(s.Apps.length:Int))then
 (
  (idx s.Apps t.2.2).bind λx=>
  let e:=mget (λx1=>x.Id == x1.k) t.1 (⟨x.Id,0⟩:Ent2_IntInt)
  (
  bif x.State == 2 then
   let e1:=mget (λx3=>x.Id == x3.k) (mput (λx2=>x.Id == x2.k) t.1 (⟨x.Id,w64 (e.v+1)⟩:Ent2_IntInt)) (⟨x.Id,0⟩:Ent2_IntInt)
   bif e1.v == 1 then
   some (decide ((w64 (s.Now - x.Seen))≥15))
   else
   some false
  else
   some false).bind λq=>
  bif q then
  (app 8 t.2.1 [x.Id]).bind λl=>
  some (mput (λx2=>x.Id == x2.k) t.1 (⟨x.Id,w64 (e.v+1)⟩:Ent2_IntInt),l)
  else
  some (mput (λx2=>x.Id == x2.k) t.1 (⟨x.Id,w64 (e.v+1)⟩:Ent2_IntInt),t.2.1)).bind λq1=>
 some (.inl (q1.1,q1.2,w64 (t.2.2+1)))
 else
 some (.inr t.2.1)
def oK(s:State):Option (List Int):=
 (loop (tV s) ([],[],0)).bind λout=>
 some out
def h135:Hint:=(.s .z (.s .z (.s .z (.s (.s .z (.b (.l [(3,.row (.st 502) false),(4,.v (.slice (.int .i64)) [0]),(11,.v (.int .i64) [])] [3,4,6,7,11,37] [(2,[(4,.v (.slice (.int .i64)) [0])])] (.s .z (.s .z (.s (.j [3,4,6,37] [(0,[(3,.row (.st 502) false),(4,.v (.slice (.int .i64)) [0])])] (.b (.s .z (.s .z (.s (.j [] [(0,[(37,.v .bool [])])] .z) .z))))) .z)))))) .z))))
def sp135:Spec fam:=⟨[.v (.st 10) []],[.v (.slice (.int .i64)) [0]],λa=>oK a.1⟩
def uJ(_a0:Step)(_a1:Int):Option (List Int):=none
def sp136:Spec fam:=⟨[.rp (.st 18),.v (.int .i64) []],[.v (.slice (.int .i64)) []],λa=>uJ a.1 a.2.1⟩
def lg(s:List Plan)(f:(TupT fam [.st 9]→Option Bool))(t:Int):Option (Int ⊕ (Int ⊕ Unit)):=
 bif decide (t<(s.length:Int))then
 (idx s t).bind λx=>
 (f (x,())).bind λr=>
 bif r then
  some (.inr (.inl t))
 else
  some (.inl (w64 (t+1)))
 else
 some (.inr (.inr ()))
def kH(s:List Plan)(f:(TupT fam [.st 9]→Option Bool)):Option Int:=
 (loop (lg s f) 0).bind λq0=>
 match q0 with
 | .inl q=>
 some q
 | .inr _=>
 some (-1)
def h141:Hint:=(.s .z (.s (.s .z (.b (.l [(8,.v (.int .i64) [])] [4,5,8] [(1,[(4,.v (.int .i64) [])]),(2,[])] .z))) .z))
def sp141:Spec fam:=⟨[.v (.slice (.st 9)) [],.fn [.st 9] .bool],[.v (.int .i64) []],λa=>kH a.1 a.2.1⟩
def sw(del:(TupT fam [.st 9]→Option Bool))(t:List Plan×Int×Int):Option ((List Plan×Int×Int) ⊕ ((List Plan×Int))):=
 bif decide (t.2.2<(t.1.length:Int))then
 (
  (inb t.2.2 t.1.length).bind λi1=>
  (t.1[i1]?).bind λx=>
  (del (x,())).bind λr=>
  bif ! r then
  (inb t.2.1 t.1.length).bind λi2=>
  (t.1[i2]?).bind λx1=>
  some (List.set t.1 i2 x,w64 (t.2.1+1))
  else
  some (t.1,t.2.1)).bind λq=>
 some (.inl (q.1,q.2,w64 (t.2.2+1)))
 else
 some (.inr (t.1,t.2.1))
def kK(s:List Plan)(del:(TupT fam [.st 9]→Option Bool)):Option (List Plan):=
 (kH s del).bind λi=>
 bif i == (-1)then
 some s
 else
 (loop (sw del) (s,i,w64 (i+1))).bind λq1=>
 (inS q1.2 (q1.1.length:Int) q1.1.length).bind λp=>
 (inS 0 q1.2 (cpy q1.1 p.1 p.2 (List.replicate p.2 (⟨0,0,0,0,⟨0,0⟩⟩:Plan))).length).bind λp1=>
 some (List.take p1.2 (cpy q1.1 p.1 p.2 (List.replicate p.2 (⟨0,0,0,0,⟨0,0⟩⟩:Plan))))
def h137:Hint:=(.s .z (.s .z (.s .z (.s (.s .z (.b (.l [(0,.row (.st 9) false),(5,.v (.int .i64) []),(6,.v (.int .i64) [])] [0,5,6,7] [(2,[(0,.row (.st 9) false),(5,.v (.int .i64) [])])] (.s .z (.s (.j [0,5,7] [(0,[(0,.row (.st 9) false),(5,.v (.int .i64) [])])] .z) .z))))) (.s .z (.s (.r [9998]) .z))))))
def sp137:Spec fam:=⟨[.v (.slice (.st 9)) [0],.fn [.st 9] .bool],[.v (.slice (.st 9)) [0]],λa=>kK a.1 a.2.1⟩
def vS(_a0:Plan)(_a1:Bool):Option Bool:=none
def sp138:Spec fam:=⟨[.v (.st 9) [],.rp .bool],[.v .bool []],λa=>vS a.1 a.2.1⟩
def nY(x:Cont)(p:Cont):Option Bool:=
 some (x.Id == p.Id)
def h211:Hint:=.z
def sp211:Spec fam:=⟨[.v (.st 7) [],.rp (.st 7)],[.v .bool []],λa=>nY a.1 a.2.1⟩
def rq(c:Cont)(label:Int)(now:Int):Option Bool:=
 bif c.Label == label then
 bif c.Notice != 0 then
  some (decide ((w64 (now - c.Notice))≥3))
 else
  some false
 else
 some false
def h212:Hint:=.z
def sp212:Spec fam:=⟨[.v (.st 7) [],.v (.int .i64) [],.v (.int .i64) []],[.v .bool []],λa=>rq a.1 a.2.1 a.2.2.1⟩
def mi(l:List Ask)(label:Int)(t:Vec×Int):Option ((Vec×Int) ⊕ Vec):=
 bif decide (t.2<(l.length:Int))then
 (
  (idx l t.2).bind λx=>
  (
  bif x.Label == label then
   (ep 0 1125899906842624 [x.Size.Mem,x.Size.Cores]).bind λx1=>
   bif x1 then
   (ep 0 50 [x.Count]).bind λx2=>
   some x2
   else
   some false
  else
   some false).bind λq=>
  bif q then
  some (⟨w64 (t.1.Mem+(w64 (x.Size.Mem*x.Count))),w64 (t.1.Cores+(w64 (x.Size.Cores*x.Count)))⟩:Vec)
  else
  some t.1).bind λout=>
 some (.inl (out,w64 (t.2+1)))
 else
 some (.inr t.1)
def mI(l:List Ask)(label:Int):Option Vec:=
 (loop (mi l label) ((⟨0,0⟩:Vec),0)).bind λout1=>
 some out1
def h356:Hint:=(.s .z (.s .z (.s (.s .z (.b (.l [(5,.box (.st 0) []),(10,.v (.int .i64) [])] [5,7,10,33] [(2,[(5,.box (.st 0) [])])] (.s .z (.s .z (.s (.j [5,7,33] [(0,[(5,.box (.st 0) [])])] (.b (.s .z (.s (.j [] [(0,[(33,.v .bool [])])] .z) .z)))) .z)))))) .z)))
def sp356:Spec fam:=⟨[.v (.slice (.st 5)) [],.v (.int .i64) []],[.v (.st 0) []],λa=>mI a.1 a.2.1⟩
def gf(v:View)(t:Vec×Int):Option ((Vec×Int) ⊕ Vec):=
 bif decide (t.2<(v.s.Apps.length:Int))then
 (
  (idx v.s.Apps t.2).bind λx=>
  (
  (cJ x).bind λx1=>
  bif x1 then
   (fY v x).bind λx2=>
   some x2
  else
   some false).bind λq=>
  bif q then
  (mI x.Asks v.label).bind λx3=>
  (dC t.1 x3).bind λx4=>
  some x4.1
  else
  some t.1).bind λout=>
 some (.inl (out,w64 (t.2+1)))
 else
 some (.inr t.1)
def fd(v:View):Option Vec:=
 (loop (gf v) ((⟨0,0⟩:Vec),0)).bind λout1=>
 some out1
def h332:Hint:=(.s .z (.s .z (.s (.s .z (.b (.l [(3,.box (.st 0) []),(10,.v (.int .i64) [])] [3,5,10,20] [(2,[(3,.box (.st 0) [])])] (.s .z (.s .z (.s (.j [3,5,20] [(0,[(3,.box (.st 0) [])])] (.b (.s .z (.s (.j [] [(0,[(20,.v .bool [])])] .z) .z)))) .z)))))) .z)))
def sp332:Spec fam:=⟨[.v (.st 14) []],[.v (.st 0) []],λa=>fd a.1⟩
def il(s:State)(path:List UInt8)(label:Int):Option Vec:=
 (fd (⟨⟨⟨s.Conf.Labels,s.Conf.Queues⟩,s.Nodes,s.Apps,s.Conts,s.Slots,s.Plans,s.Now,s.Epoch,s.Seq⟩,path,label,(-1)⟩:View)).bind λx=>
 some x
def h290:Hint:=.z
def sp290:Spec fam:=⟨[.v (.st 10) [],.v .str [],.v (.int .i64) []],[.v (.st 0) []],λa=>il a.1 a.2.1 a.2.2.1⟩
def sJ(l:List Int)(t:Int×Int):Option ((Int×Int) ⊕ Int):=
 bif decide (t.2<(l.length:Int))then
 (idx l t.2).bind λx=>
 some (.inl (imin t.1 x,w64 (t.2+1)))
 else
 some (.inr t.1)
def eg(first:Int)(l:List Int):Option Int:=
 (loop (sJ l) (first,0)).bind λfirst1=>
 some first1
def h354:Hint:=(.s .z (.s (.s .z (.b (.l [(0,.v (.int .i64) []),(9,.v (.int .i64) [])] [0,6,9] [(2,[(0,.v (.int .i64) [])])] .z))) .z))
def sp354:Spec fam:=⟨[.v (.int .i64) [],.v (.slice (.int .i64)) []],[.v (.int .i64) []],λa=>eg a.1 a.2.1⟩
def bN(n:Int):Option Int:=
 (
 bif decide (n<0)then
  some true
 else
  some (decide (n>1125899906842624))).bind λq=>
 bif q then
 some 0
 else
 some n
def h355:Hint:=(.s .z (.s (.s (.j [] [(0,[(8,.v .bool [])])] .z) .z) .z))
def sp355:Spec fam:=⟨[.v (.int .i64) []],[.v (.int .i64) []],λa=>bN a.1⟩
def nr(want:List Int)(most:List Int)(n:Int)(t1:List Int×Int×Int):Option ((List Int×Int×Int) ⊕ List Int):=
 bif decide (t1.2.2<n)then
 (idx want t1.2.2).bind λx9=>
 (bN x9).bind λx10=>
 (idx most t1.2.2).bind λx11=>
 (bN x11).bind λx12=>
 (eg x10 [x12]).bind λx13=>
 (inb t1.2.2 t1.1.length).bind λi2=>
 (t1.1[i2]?).bind λx14=>
 (eg (imax (w64 (x13 - x14)) 0) [t1.2.1]).bind λmore=>
 (inb t1.2.2 t1.1.length).bind λi3=>
 (t1.1[i3]?).bind λx15=>
 (inb t1.2.2 t1.1.length).bind λi4=>
 (t1.1[i4]?).bind λx16=>
 some (.inl (List.set t1.1 i4 (w64 (x15+more)),w64 (t1.2.1 - more),w64 (t1.2.2+1)))
 else
 some (.inr t1.1)
def ox(least:List Int)(want:List Int)(most:List Int)(n:Int)(t:List Int×Int×Int):Option ((List Int×Int×Int) ⊕ ((List Int×Int))):=
 bif decide (t.2.2<n)then
 (idx least t.2.2).bind λx=>
 (bN x).bind λx1=>
 (idx want t.2.2).bind λx2=>
 (bN x2).bind λx3=>
 (idx most t.2.2).bind λx4=>
 (bN x4).bind λx5=>
 (eg x1 [x3,x5,t.2.1]).bind λx6=>
 (inb t.2.2 t.1.length).bind λi=>
 (t.1[i]?).bind λx7=>
 (inb t.2.2 (List.set t.1 i x6).length).bind λi1=>
 ((List.set t.1 i x6)[i1]?).bind λx8=>
 some (.inl (List.set t.1 i x6,w64 (t.2.1 - x8),w64 (t.2.2+1)))
 else
 some (.inr (t.1,t.2.1))
def oS(total:Int)(least:List Int)(want:List Int)(most:List Int):Option (List Int):=
 (eg (least.length:Int) [(want.length:Int),(most.length:Int)]).bind λn=>
 (mkl 8 n n 0).bind λl=>
 (bN total).bind λleft=>
 (loop (ox least want most n) (l,left,0)).bind λq=>
 (loop (nr want most n) (q.1,q.2,0)).bind λout=>
 some out
def h331:Hint:=(.s .z (.s .z (.s .z (.s .z (.s (.s .z (.b (.l [(10,.row (.int .i64) false),(11,.v (.int .i64) []),(28,.v (.int .i64) [])] [10,11,12,28,29,30,31,32,33,34,35,36,37,38,39,40,41,42,43,44,45,46,47,48,49,50,51,52,53,54,55,56,57,58] [(2,[(10,.row (.int .i64) false),(11,.v (.int .i64) [])])] .z))) (.s (.s .z (.b (.l [(10,.row (.int .i64) false),(11,.v (.int .i64) []),(60,.v (.int .i64) [])] [10,11,13,14,60] [(4,[(10,.row (.int .i64) false)])] .z))) .z))))))
def sp331:Spec fam:=⟨[.v (.int .i64) [],.v (.slice (.int .i64)) [],.v (.slice (.int .i64)) [],.v (.slice (.int .i64)) []],[.v (.slice (.int .i64)) [0]],λa=>oS a.1 a.2.1 a.2.2.1 a.2.2.2.1⟩
def la(s:State)(label:Int)(deep:Int)(self:State→(List UInt8)→Int→Int→Int→Option (List Share))(kids:List (List UInt8))(x5:List Int)(t1:List Share×Int):Option ((List Share×Int) ⊕ List Share):=
 bif decide (t1.2<(x5.length:Int))then
 (inb t1.2 x5.length).bind λi1=>
 (x5[i1]?).bind λx6=>
 (inb t1.2 kids.length).bind λi2=>
 (kids[i2]?).bind λx7=>
 (self s x7 label x6 (w64 (deep+1))).bind λx8=>
 (app 24 t1.1 x8).bind λl3=>
 some (.inl (l3,w64 (t1.2+1)))
 else
 some (.inr t1.1)
def kY(s:State)(label:Int)(kids:List (List UInt8))(t:Rows3_ListInt×Int):Option ((Rows3_ListInt×Int) ⊕ Rows3_ListInt):=
 bif decide (t.2<(kids.length:Int))then
 (inb t.2 kids.length).bind λi=>
 (kids[i]?).bind λx=>
 (d4 s x label).bind λx1=>
 (cE s x label).bind λx2=>
 (il s x label).bind λx3=>
 (nh s x label).bind λx4=>
 (inS t.2 (t.1.r0.length:Int) t.1.r0.length).bind λp=>
 (inS 0 1 [x1.Mem,w64 (x2.Mem+x3.Mem),x4.Mem].length).bind λp1=>
 (inS t.2 (t.1.r1.length:Int) t.1.r1.length).bind λp2=>
 (inS 1 2 [x1.Mem,w64 (x2.Mem+x3.Mem),x4.Mem].length).bind λp3=>
 (inS t.2 (t.1.r2.length:Int) t.1.r2.length).bind λp4=>
 (inS 2 3 [x1.Mem,w64 (x2.Mem+x3.Mem),x4.Mem].length).bind λp5=>
 some (.inl ((⟨cpy t.1.r0 p.1 p.2 (sub [x1.Mem,w64 (x2.Mem+x3.Mem),x4.Mem] p1.1 p1.2),cpy t.1.r1 p2.1 p2.2 (sub [x1.Mem,w64 (x2.Mem+x3.Mem),x4.Mem] p3.1 p3.2),cpy t.1.r2 p4.1 p4.2 (sub [x1.Mem,w64 (x2.Mem+x3.Mem),x4.Mem] p5.1 p5.2)⟩:Rows3_ListInt),w64 (t.2+1)))
 else
 some (.inr t.1)
def pT(self:State→(List UInt8)→Int→Int→Int→Option (List Share))(s:State)(path:List UInt8)(label:Int)(mem:Int)(deep:Int):Option (List Share):=
 (jp s.Conf path).bind λkids=>
 (
 bif(kids.length:Int) == 0 then
  some true
 else
  some (decide (deep>4))).bind λq=>
 bif q then
 some [(⟨path,mem⟩:Share)]
 else
 (mkl 8 (kids.length:Int) (kids.length:Int) 0).bind λl=>
 (mkl 8 (kids.length:Int) (kids.length:Int) 0).bind λl1=>
 (mkl 8 (kids.length:Int) (kids.length:Int) 0).bind λl2=>
 (loop (kY s label kids) ((⟨l,l1,l2⟩:Rows3_ListInt),0)).bind λrows=>
 (oS mem rows.r0 rows.r1 rows.r2).bind λx5=>
 (loop (la s label deep self kids x5) ([],0)).bind λout=>
 some out
def ie:Nat→State→(List UInt8)→Int→Int→Int→Option (List Share)
 | 0=>λ_ _ _ _ _=>none
 | n+1=>pT (ie n)
def oM(a0:State)(a1:List UInt8)(a2:Int)(a3:Int)(a4:Int):Option (List Share):=ie 64 a0 a1 a2 a3 a4
def h289:Hint:=(.s .z (.s .z (.s (.s (.j [25,26,27,28,29,30,31] [(0,[(31,.v .bool [])])] .z) .z) (.s .z (.s (.s .z (.b (.u 4 .z))) (.s (.s .z (.b (.l [(12,.box (.st 21) [5003,0,1,2]),(51,.v (.int .i64) [])] [12,14,15,16,17,51,52,53,54,55,56,57,58,59,60,61,62,63,64,65,66,67,68,69,70,71,72,73,74,75,76,77,78,79,80,81,82,83,84,85,86,87,88,89,90,91,92,93,94,95,96] [(4,[(12,.box (.st 21) [5003,0,1,2])])] (.s .z (.s .z (.s (.b (.s .z (.s .z (.s .z (.b (.u 4 .z)))))) .z)))))) (.s .z (.s (.s .z (.b (.l [(18,.v (.slice (.st 13)) [0]),(109,.v (.int .i64) [])] [18,19,20,109] [(8,[(18,.v (.slice (.st 13)) [0])])] .z))) .z))))))))
def sp289:Spec fam:=⟨[.v (.st 10) [],.v .str [],.v (.int .i64) [],.v (.int .i64) [],.v (.int .i64) []],[.v (.slice (.st 13)) [0]],λa=>oM a.1 a.2.1 a.2.2.1 a.2.2.2.1 a.2.2.2.2.1⟩
def uy(n:Nat):Spec fam:=⟨[.v (.st 10) [],.v .str [],.v (.int .i64) [],.v (.int .i64) [],.v (.int .i64) []],[.v (.slice (.st 13)) [0]],λa=>ie n a.1 a.2.1 a.2.2.1 a.2.2.2.1 a.2.2.2.2.1⟩
def gj(s:State)(label:Int):Option (List Share):=
 (fK s label).bind λx=>
 (oM s ([114,111,111,116]:List UInt8) label x.Mem 1).bind λx1=>
 some x1
def h248:Hint:=.z
def sp248:Spec fam:=⟨[.v (.st 10) [],.v (.int .i64) []],[.v (.slice (.st 13)) [0]],λa=>gj a.1 a.2.1⟩
def ma(s:List Share)(f:(TupT fam [.st 13]→Option Bool))(t:Int):Option (Int ⊕ (Int ⊕ Unit)):=
 bif decide (t<(s.length:Int))then
 (idx s t).bind λx=>
 (f (x,())).bind λr=>
 bif r then
  some (.inr (.inl t))
 else
  some (.inl (w64 (t+1)))
 else
 some (.inr (.inr ()))
def md(s:List Share)(f:(TupT fam [.st 13]→Option Bool)):Option Int:=
 (loop (ma s f) 0).bind λq0=>
 match q0 with
 | .inl q=>
 some q
 | .inr _=>
 some (-1)
def h249:Hint:=(.s .z (.s (.s .z (.b (.l [(8,.v (.int .i64) [])] [4,5,8] [(1,[(4,.v (.int .i64) [])]),(2,[])] .z))) .z))
def sp249:Spec fam:=⟨[.v (.slice (.st 13)) [],.fn [.st 13] .bool],[.v (.int .i64) []],λa=>md a.1 a.2.1⟩
def lX(x:Share)(p:App):Option Bool:=
 some (x.Path == p.Queue)
def h250:Hint:=.z
def sp250:Spec fam:=⟨[.v (.st 13) [],.rp (.st 6)],[.v .bool []],λa=>lX a.1 a.2.1⟩
def su(s:State)(c:Cont)(t:Int×Int):Option ((Int×Int) ⊕ Int):=
 bif decide (t.2<(s.Conts.length:Int))then
 (
  (idx s.Conts t.2).bind λx2=>
  (
  bif c.Master then
   bif x2.App == c.App then
   bif x2.Id != c.Id then
    some (x2.Label == c.Label)
   else
    some false
   else
   some false
  else
   some false).bind λq=>
  bif q then
  let used:=w64 (t.1 - x2.Size.Mem)
  some used
  else
  some t.1).bind λused1=>
 some (.inl (used1,w64 (t.2+1)))
 else
 some (.inr t.1)
def kE(s:State)(c:Cont):Option Bool:=
 (fg s c.App).bind λx=>
 (cE s x.1.Queue c.Label).bind λx1=>
 (loop (su s c) (x1.Mem,0)).bind λused2=>
 (gj s c.Label).bind λl=>
 (md l (λa'=>lX a'.1 x.1)).bind λi=>
 bif decide (i≥0)then
 (inb i l.length).bind λi1=>
 (l[i1]?).bind λx3=>
 some (decide (used2>x3.Mem))
 else
 some false
def h213:Hint:=(.s .z (.s .z (.s .z (.s (.s .z (.b (.l [(7,.v (.int .i64) []),(29,.v (.int .i64) [])] [7,9,29,55] [(2,[(7,.v (.int .i64) [])])] (.s .z (.s .z (.s (.j [7,9,55] [(0,[(7,.v (.int .i64) [])])] (.b (.s .z (.s (.j [] [(0,[(55,.v .bool [])])] .z) .z)))) .z)))))) .z))))
def sp213:Spec fam:=⟨[.v (.st 10) [],.v (.st 7) []],[.v .bool []],λa=>kE a.1 a.2.1⟩
def mj(label:Int)(x1:Cont)(s1:State):Option State:=
 (gF s1.Conts (λa'=>nY a'.1 x1)).bind λi=>
 (
 bif decide (i<0)then
  some true
 else
  (inb i s1.Conts.length).bind λi1=>
  (s1.Conts[i1]?).bind λx2=>
  (rq x2 label s1.Now).bind λx3=>
  some (! x3)).bind λq=>
 bif q then
 some s1
 else
 (kE s1 x1).bind λx4=>
 bif x4 then
  (cL s1 [x1.Id]).bind λx5=>
  some x5
 else
  (inb i s1.Conts.length).bind λi2=>
  (s1.Conts[i2]?).bind λx6=>
  some (⟨⟨s1.Conf.Labels,s1.Conf.Queues⟩,s1.Nodes,s1.Apps,List.set s1.Conts i2 (⟨x6.Id,x6.App,x6.Node,⟨x6.Size.Mem,x6.Size.Cores⟩,x6.Prio,x6.Label,x6.Master,0⟩:Cont),s1.Slots,s1.Plans,s1.Now,s1.Epoch,s1.Seq⟩:State)
def mK(s:State)(label:Int):Option State:=
 (bf s.Conts).bind λx=>
 (rgB (mj label) x s).bind λs2=>
 some s2
def k179:Ks:=[(2,.box (.st 10) [0,1001,2,1003,4,5,6])]
def dr179:List Nat:=[2,6,7,13,14,15,16,17,18,19,20,21,22,23,24,25,26,27,28,29,30,31,32,33,34,35,36,37,38,39,40,41,42,43,44,45,46]
def h179:Hint:=(.b (.s .z (.b (.s (.j [23,24,25,26,27,28,29,30,31,32,33,34,35,36,37] [(0,[(23,.v .bool [])])] .z) .z))))
def sp179:Spec fam:=⟨[.v (.st 10) [0,1001,2,1003,4,5,6],.v (.int .i64) []],[.v (.st 10) [0,1001,2,1003,4,5,6]],λa=>mK a.1 a.2.1⟩
def cg(k:Looker)(c:Cont):Option Looker:=
 let e:=mget (λx=>c.Id == x.k) k.noticed (⟨c.Id,0⟩:Ent2_IntInt)
 let e1:=mget (λx2=>c.Id == x2.k) k.leaf (⟨c.Id,[]⟩:Ent4_IntListUInt8)
 let e2:=mget (λx3=>e1.v == x3.k) k.over (⟨e1.v,0⟩:Ent0_ListUInt8Int)
 some (⟨⟨⟨k.s.Conf.Labels,k.s.Conf.Queues⟩,k.s.Nodes,k.s.Apps,k.s.Conts,k.s.Slots,k.s.Plans,k.s.Now,k.s.Epoch,k.s.Seq⟩,k.label,mput (λx4=>e1.v == x4.k) k.over (⟨e1.v,w64 (e2.v - c.Size.Mem)⟩:Ent0_ListUInt8Int),k.leaf,mput (λx1=>c.Id == x1.k) k.noticed (⟨c.Id,w64 (e.v+1)⟩:Ent2_IntInt),w64 (k.gone+c.Size.Mem)⟩:Looker)
def h217:Hint:=.z
def sp217:Spec fam:=⟨[.box (.st 22) [11,12,13],.v (.st 7) []],[],λa=>cg a.1 a.2.1⟩
def lM(s:State)(label:Int)(t1:Looker×Int):Option ((Looker×Int) ⊕ Looker):=
 bif decide (t1.2<(s.Conts.length:Int))then
 (
  (idx s.Conts t1.2).bind λx4=>
  bif x4.Label != label then
  some t1.1
  else
  (fg s x4.App).bind λx5=>
  bif x4.Notice != 0 then
   (cg (⟨⟨⟨t1.1.s.Conf.Labels,t1.1.s.Conf.Queues⟩,t1.1.s.Nodes,t1.1.s.Apps,t1.1.s.Conts,t1.1.s.Slots,t1.1.s.Plans,t1.1.s.Now,t1.1.s.Epoch,t1.1.s.Seq⟩,t1.1.label,t1.1.over,mput (λx6=>x4.Id == x6.k) t1.1.leaf (⟨x4.Id,x5.1.Queue⟩:Ent4_IntListUInt8),t1.1.noticed,t1.1.gone⟩:Looker) x4).bind λx7=>
   some x7
  else
   some (⟨⟨⟨t1.1.s.Conf.Labels,t1.1.s.Conf.Queues⟩,t1.1.s.Nodes,t1.1.s.Apps,t1.1.s.Conts,t1.1.s.Slots,t1.1.s.Plans,t1.1.s.Now,t1.1.s.Epoch,t1.1.s.Seq⟩,t1.1.label,t1.1.over,mput (λx6=>x4.Id == x6.k) t1.1.leaf (⟨x4.Id,x5.1.Queue⟩:Ent4_IntListUInt8),t1.1.noticed,t1.1.gone⟩:Looker)).bind λk1=>
 some (.inl (k1,w64 (t1.2+1)))
 else
 some (.inr t1.1)
def mN(s:State)(label:Int)(x:List Share)(t:Looker×Int):Option ((Looker×Int) ⊕ Looker):=
 bif decide (t.2<(x.length:Int))then
 (inb t.2 x.length).bind λi=>
 (x[i]?).bind λx1=>
 (cE s x1.Path label).bind λx2=>
 some (.inl ((⟨⟨⟨t.1.s.Conf.Labels,t.1.s.Conf.Queues⟩,t.1.s.Nodes,t.1.s.Apps,t.1.s.Conts,t.1.s.Slots,t.1.s.Plans,t.1.s.Now,t.1.s.Epoch,t.1.s.Seq⟩,t.1.label,mput (λx3=>x1.Path == x3.k) t.1.over (⟨x1.Path,w64 (x2.Mem - x1.Mem)⟩:Ent0_ListUInt8Int),t.1.leaf,t.1.noticed,t.1.gone⟩:Looker),w64 (t.2+1)))
 else
 some (.inr t.1)
def m0(s:State)(label:Int):Option Looker:=
 (gj s label).bind λx=>
 (loop (mN s label x) ((⟨⟨⟨s.Conf.Labels,s.Conf.Queues⟩,s.Nodes,s.Apps,s.Conts,s.Slots,s.Plans,s.Now,s.Epoch,s.Seq⟩,label,[],[],[],0⟩:Looker),0)).bind λk=>
 (loop (lM s label) (k,0)).bind λk2=>
 some k2
def h214:Hint:=(.s .z (.s .z (.s (.s .z (.b (.l [(5,.box (.st 22) [11,12,13]),(23,.v (.int .i64) [])] [5,7,14,17,23,24,25,26,27,28,29,30,31,32,33,34,35,36,37,38,39,40,41,42] [(2,[(5,.box (.st 22) [11,12,13])])] .z))) (.s (.s .z (.b (.l [(5,.box (.st 22) [11,12,13]),(46,.v (.int .i64) [])] [5,9,10,11,46] [(4,[(5,.box (.st 22) [11,12,13])])] (.s .z (.s .z (.s (.j [5,9,10,11] [(0,[(5,.box (.st 22) [11,12,13])])] .z) .z)))))) .z))))
def sp214:Spec fam:=⟨[.v (.st 10) [],.v (.int .i64) []],[.nb (.st 22) [11,12,13]],λa=>m0 a.1 a.2.1⟩
def eQ(k:Looker)(path:List UInt8)(x:Vec)(x1:Vec)(x2:App)(t1:Int):Option (Int ⊕ (Int ⊕ Unit)):=
 bif decide (t1<(x2.Asks.length:Int))then
 (idx x2.Asks t1).bind λx4=>
 (
  bif x4.Label == k.label then
  some (decide ((w64 (x.Mem+x4.Size.Mem))≤x1.Mem))
  else
  some false).bind λq1=>
 bif q1 then
  (il k.s path k.label).bind λx5=>
  some (.inr (.inl (imin x5.Mem (w64 (x1.Mem - x.Mem)))))
 else
  some (.inl (w64 (t1+1)))
 else
 some (.inr (.inr ()))
def eP(k:Looker)(path:List UInt8)(x:Vec)(x1:Vec)(t:Int):Option (Int ⊕ (Int ⊕ Unit)):=
 bif decide (t<(k.s.Apps.length:Int))then
 (
  (idx k.s.Apps t).bind λx2=>
  (
  (cJ x2).bind λx3=>
  bif ! x3 then
   some true
  else
   some (! (x2.Queue == path))).bind λq=>
  bif q then
  some (.inl ())
  else
  (loop (eQ k path x x1 x2) 0).bind λq0=>
  match q0 with
  | .inl q2=>
   some (.inr q2)
  | .inr _=>
   some (.inl ()):Option (Unit ⊕ Int)).bind λq0=>
 match q0 with
 | .inl _=>
  some (.inl (w64 (t+1)))
 | .inr q3=>
  some (.inr (.inl q3))
 else
 some (.inr (.inr ()))
def dW(k:Looker)(path:List UInt8):Option (Int×Looker):=
 (cE k.s path k.label).bind λx=>
 (d4 k.s path k.label).bind λx1=>
 (loop (eP k path x x1) 0).bind λq0=>
 match q0 with
 | .inl q4=>
 some (q4,k)
 | .inr _=>
 some (0,k)
def h251:Hint:=(.s .z (.s .z (.s (.s .z (.b (.l [(37,.v (.int .i64) [])] [4,8,10,37,38,39,40,41,42,43,44,45,46,47,48,49,50,51,52,53,74] [(1,[(4,.v (.int .i64) [])]),(2,[])] (.s .z (.s .z (.s (.j [4,8,10,39,40,41,42,43,44,45,46,47,48,49,50,51,52,53,74] [(0,[]),(1,[(4,.v (.int .i64) [])])] (.b (.s .z (.s (.s (.j [41,42,43,44,45,46,47,48,49] [(0,[(49,.v .bool [])])] .z) .z) (.s .z (.b (.l [(53,.v (.int .i64) [])] [4,10,53,74] [(1,[(4,.v (.int .i64) [])]),(4,[])] (.s .z (.s .z (.s (.b (.s .z (.s (.j [] [(0,[(74,.v .bool [])])] .z) .z))) .z)))))))))) .z)))))) .z)))
def sp251:Spec fam:=⟨[.box (.st 22) [11,12,13],.v .str []],[.v (.int .i64) []],λa=>dW a.1 a.2.1⟩
def fG(x:List Share)(t:Looker×Int×Int):Option ((Looker×Int×Int) ⊕ ((Looker×Int))):=
 bif decide (t.2.2<(x.length:Int))then
 (inb t.2.2 x.length).bind λi=>
 (x[i]?).bind λx1=>
 (dW t.1 x1.Path).bind λx2=>
 let sum:=w64 (t.2.1+x2.1)
 some (.inl (x2.2,sum,w64 (t.2.2+1)))
 else
 some (.inr (t.1,t.2.1))
def ez(k:Looker):Option (Int×Looker):=
 (gj k.s k.label).bind λx=>
 (loop (fG x) (k,0,0)).bind λq=>
 (fK q.1.s q.1.label).bind λx3=>
 (cE q.1.s ([114,111,111,116]:List UInt8) q.1.label).bind λx4=>
 some (w64 (q.2 - (imax (w64 (x3.Mem - x4.Mem)) 0)),q.1)
def h215:Hint:=(.s .z (.s .z (.s .z (.s (.s .z (.b (.l [(0,.box (.st 22) [11,12,13]),(3,.v (.int .i64) []),(19,.v (.int .i64) [])] [0,3,6,19] [(2,[(0,.box (.st 22) [11,12,13]),(3,.v (.int .i64) [])])] .z))) .z))))
def sp215:Spec fam:=⟨[.box (.st 22) [11,12,13]],[.v (.int .i64) []],λa=>ez a.1⟩
def zH(_a0:Int)(_a1:Int):Option Int:=none
def sp253:Spec fam:=⟨[.v (.int .i64) [],.v (.int .i64) []],[.v (.int .i64) []],λa=>zH a.1 a.2.1⟩
def kw(k:Looker)(_ob:Obj)(found:List UInt8)(e4:Ent1_ListUInt8Cont):Option (List UInt8):=
 bif found == ([]:List UInt8)then
 some e4.k
 else
 let e5:=mget (λx6=>found == x6.k) k.over (⟨found,0⟩:Ent0_ListUInt8Int)
 let e6:=mget (λx7=>e4.k == x7.k) k.over (⟨e4.k,0⟩:Ent0_ListUInt8Int)
 none
def km(k:Looker)(t:List Ent1_ListUInt8Cont×Int):Option ((List Ent1_ListUInt8Cont×Int) ⊕ List Ent1_ListUInt8Cont):=
 bif decide (t.2<(k.s.Conts.length:Int))then
 (
  (idx k.s.Conts t.2).bind λx=>
  let e:=mget (λx1=>x.Id == x1.k) k.leaf (⟨x.Id,[]⟩:Ent4_IntListUInt8)
  let is:=mhas (λx1=>x.Id == x1.k) k.leaf
  (
  bif ! is then
   some true
  else
   let e1:=mget (λx2=>x.Id == x2.k) k.noticed (⟨x.Id,0⟩:Ent2_IntInt)
   bif decide (e1.v>0)then
   some true
   else
   let e2:=mget (λx3=>e.v == x3.k) k.over (⟨e.v,0⟩:Ent0_ListUInt8Int)
   some (decide (e2.v≤0))).bind λq=>
  bif q then
  some t.1
  else
  let e3:=mget (λx4=>e.v == x4.k) t.1 (⟨e.v,⟨0,0,0,⟨0,0⟩,0,0,false,0⟩⟩:Ent1_ListUInt8Cont)
  let has:=mhas (λx4=>e.v == x4.k) t.1
  (
   bif ! has then
   some true
   else
   bif e3.v.Master then
    bif ! x.Master then
    some true
    else
    bif e3.v.Master == x.Master then
     some (decide (x.Id>e3.v.Id))
    else
     some false
   else
    bif e3.v.Master == x.Master then
    some (decide (x.Id>e3.v.Id))
    else
    some false).bind λq1=>
  bif q1 then
   some (mput (λx5=>e.v == x5.k) t.1 (⟨e.v,⟨x.Id,x.App,x.Node,⟨x.Size.Mem,x.Size.Cores⟩,x.Prio,x.Label,x.Master,x.Notice⟩⟩:Ent1_ListUInt8Cont))
  else
   some t.1).bind λbest=>
 some (.inl (best,w64 (t.2+1)))
 else
 some (.inr t.1)
def eA(k:Looker):Option (Cont×Bool×Looker):=
 (loop (km k) ([],0)).bind λbest1=>
 (rng (ω:=Obj) (λ_=>some ([]:List UInt8)) (kw k) best1).bind λfound1=>
 let e7:=mget (λx8=>found1 == x8.k) best1 (⟨found1,⟨0,0,0,⟨0,0⟩,0,0,false,0⟩⟩:Ent1_ListUInt8Cont)
 let is1:=mhas (λx8=>found1 == x8.k) best1
 some (e7.v,is1,k)
def h216:Hint:=(.s .z (.s .z (.s (.s .z (.b (.l [(4,.row (.st 501) false),(22,.v (.int .i64) [])] [4,6,7,8,9,10,15,22,23,24,25,26,27,28,29,30,31,32,33,34,35,36,37,38,39,40,41,42,43,44,45,46,47,48,49,50,51,52,53,54,55,56,57,58,59,60,61,62,63,64,65,66,67,68,69,70,71,72,73,74,75,76,77,78,79,80,81,82,83,84,85,86,87,88,89,90,91] [(2,[(4,.row (.st 501) false)])] (.s .z (.s .z (.s (.j [4,6,7,8,9,10,24,25,26,27,28,29,30,31,32,33,34,35,36,37,38,39,40,41,42,43,44,45,46,47,48,49,50,51,52,53,54,55,56,57,58,59,60,61,62,63,64,65,66,67,68,69,70,71,72,73,74,75,76,77,78,79,80,81,82,83,84,85,86,87,88,89,90] [(0,[(4,.row (.st 501) false)])] (.b (.s .z (.s .z (.s (.s (.j [36,37,38,39,40,41,42,43,44,45,46,47,48,49,50,51,52,53,54,55,56] [(0,[(56,.v .bool [])])] .z) .z) (.s .z (.s (.j [63,64,65,66,67,68,69,70,71,72,73,74,75,76,77,78,79,80,81,82,83,84,85,86,87] [(0,[(87,.v .bool [])])] .z) .z))))))) .z)))))) (.s .z (.s (.g [(11,.v .str [])] [11,12,92] .z) .z)))))
def sp216:Spec fam:=⟨[.box (.st 22) [11,12,13]],[.v (.st 7) [],.v .bool []],λa=>eA a.1⟩
def mW(need:Int×Looker)(t:Looker×List Int):Option ((Looker×List Int) ⊕ List Int):=
 bif decide (t.1.gone<need.1)then
 (eA t.1).bind λx=>
 bif ! x.2.1 then
  some (.inr t.2)
 else
  (cg x.2.2 x.1).bind λx1=>
  (app 8 t.2 [x.1.Id]).bind λl=>
  some (.inl (x1,l))
 else
 some (.inr t.2)
def mf(s:State)(label:Int):Option (List Int):=
 (m0 s label).bind λk=>
 (ez k).bind λneed=>
 (loop (mW need) (need.2,[])).bind λout=>
 some out
def h180:Hint:=(.s .z (.s .z (.s .z (.s .z (.s (.b (.l [(5,.box (.st 22) [11,12,13]),(7,.v (.slice (.int .i64)) [0])] [5,7,8] [(2,[(7,.v (.slice (.int .i64)) [0])])] .z)) .z)))))
def sp180:Spec fam:=⟨[.v (.st 10) [],.v (.int .i64) []],[.v (.slice (.int .i64)) [0]],λa=>mf a.1 a.2.1⟩
def lN(x:Cont)(p:Int):Option Bool:=
 some (x.Id == p)
def h181:Hint:=.z
def sp181:Spec fam:=⟨[.v (.st 7) [],.rp (.int .i64)],[.v .bool []],λa=>lN a.1 a.2.1⟩
def mY(x:Cont)(p:Cont):Option Bool:=
 some (x.Id == p.Id)
def h182:Hint:=.z
def sp182:Spec fam:=⟨[.v (.st 7) [],.rp (.st 7)],[.v .bool []],λa=>mY a.1 a.2.1⟩
def oh(x:Int):Option Bool:=
 some (x != x)
def h291:Hint:=.z
def sp291:Spec fam:=⟨[.v (.int .i64) []],[.v .bool []],λa=>oh a.1⟩
def vz(x:Int)(y:Int):Option Bool:=
 (oh x).bind λx1=>
 bif x1 then
 (oh y).bind λx2=>
 bif ! x2 then
  some true
 else
  some (decide (x<y))
 else
 some (decide (x<y))
def h260:Hint:=.z
def sp260:Spec fam:=⟨[.v (.int .i64) [],.v (.int .i64) []],[.v .bool []],λa=>vz a.1 a.2.1⟩
def du(a:Int)(t1:List Int×Int):Option ((List Int×Int) ⊕ List Int):=
 (
 bif decide (t1.2>a)then
  (inb t1.2 t1.1.length).bind λi=>
  (t1.1[i]?).bind λx=>
  (inb (w64 (t1.2 - 1)) t1.1.length).bind λi1=>
  (t1.1[i1]?).bind λx1=>
  (vz x x1).bind λx2=>
  some x2
 else
  some false).bind λq=>
 bif q then
 (inb (w64 (t1.2 - 1)) t1.1.length).bind λi2=>
 (t1.1[i2]?).bind λx3=>
 (inb t1.2 t1.1.length).bind λi3=>
 (t1.1[i3]?).bind λx4=>
 (inb t1.2 t1.1.length).bind λi4=>
 (t1.1[i4]?).bind λx5=>
 (inb (w64 (t1.2 - 1)) (List.set t1.1 i4 x3).length).bind λi5=>
 ((List.set t1.1 i4 x3)[i5]?).bind λx6=>
 some (.inl (List.set (List.set t1.1 i4 x3) i5 x4,w64 (t1.2 - 1)))
 else
 some (.inr t1.1)
def bM(a:Int)(b:Int)(t:List Int×Int):Option ((List Int×Int) ⊕ List Int):=
 bif decide (t.2<b)then
 (loop (du a) (t.1,t.2)).bind λdata1=>
 some (.inl (data1,w64 (t.2+1)))
 else
 some (.inr t.1)
def be(data:List Int)(a:Int)(b:Int):Option (List Int):=
 (loop (bM a b) (data,w64 (a+1))).bind λdata2=>
 some data2
def h254:Hint:=(.s .z (.b (.l [(0,.row (.int .i64) false),(6,.v (.int .i64) [])] [0,6,7,30] [(2,[(0,.row (.int .i64) false)])] (.s .z (.s (.b (.s .z (.b (.l [(0,.row (.int .i64) false),(7,.v (.int .i64) [])] [0,7,30] [(4,[(0,.row (.int .i64) false)])] (.s (.s (.j [] [(0,[(30,.v .bool [])])] .z) .z) .z))))) .z)))))
def sp254:Spec fam:=⟨[.row (.int .i64) false,.v (.int .i64) [],.v (.int .i64) []],[],λa=>be a.1 a.2.1 a.2.2.1⟩
def pb(_a0:List Int)(_a1:Int)(_a2:Int):Option Unit:=none
def sp255:Spec fam:=⟨[.v (.slice (.int .i64)) [],.v (.int .i64) [],.v (.int .i64) []],[],λa=>pb a.1 a.2.1 a.2.2.1⟩
def mB(_a0:List Int)(_a1:Int)(_a2:Int):Option (Int×Int):=none
def sp257:Spec fam:=⟨[.v (.slice (.int .i64)) [],.v (.int .i64) [],.v (.int .i64) []],[.v (.int .i64) [],.v (.int .i64) []],λa=>mB a.1 a.2.1 a.2.2.1⟩
def ck(a:Int)(b:Int)(limit:Int)(data1:List Int):Option (List Int ⊕ List Int):=
 bif decide ((w64 (b - a))≤12)then
 (be data1 a b).bind λx=>
 some (.inr x)
 else
 bif limit == 0 then
  none
 else
  none
def cS(self:(List Int)→Int→Int→Int→Option (List Int))(data:List Int)(a:Int)(b:Int)(limit:Int):Option (List Int):=
 (loop (ck a b limit) data).bind λdata2=>
 some data2
def a9:Nat→(List Int)→Int→Int→Int→Option (List Int)
 | 0=>λ_ _ _ _=>none
 | n+1=>cS (a9 n)
def bZ(a0:List Int)(a1:Int)(a2:Int)(a3:Int):Option (List Int):=a9 64 a0 a1 a2 a3
def h218:Hint:=(.s .z (.s .z (.b (.l [(0,.row (.int .i64) false)] [0,10] [(1,[(0,.row (.int .i64) false)])] .z))))
def sp218:Spec fam:=⟨[.row (.int .i64) false,.v (.int .i64) [],.v (.int .i64) [],.v (.int .i64) []],[],λa=>bZ a.1 a.2.1 a.2.2.1 a.2.2.2.1⟩
def JH(n:Nat):Spec fam:=⟨[.row (.int .i64) false,.v (.int .i64) [],.v (.int .i64) [],.v (.int .i64) []],[],λa=>a9 n a.1 a.2.1 a.2.2.1 a.2.2.2.1⟩
def AT(x:Int):Option Int:=
 (
 bif decide (x≥4294967296)then
  some (shrK .u64 x 32,32)
 else
  some (x,0)).bind λq=>
 (
 bif decide (q.1≥65536)then
  some (shrK .u64 q.1 16,w64 (q.2+16))
 else
  some (q.1,q.2)).bind λq1=>
 (
 bif decide (q1.1≥256)then
  some (shrK .u64 q1.1 8,w64 (q1.2+8))
 else
  some (q1.1,q1.2)).bind λq2=>
 (idx ([0,1,2,2,3,3,3,3,4,4,4,4,4,4,4,4,5,5,5,5,5,5,5,5,5,5,5,5,5,5,5,5,6,6,6,6,6,6,6,6,6,6,6,6,6,6,6,6,6,6,6,6,6,6,6,6,6,6,6,6,6,6,6,6,7,7,7,7,7,7,7,7,7,7,7,7,7,7,7,7,7,7,7,7,7,7,7,7,7,7,7,7,7,7,7,7,7,7,7,7,7,7,7,7,7,7,7,7,7,7,7,7,7,7,7,7,7,7,7,7,7,7,7,7,7,7,7,7,8,8,8,8,8,8,8,8,8,8,8,8,8,8,8,8,8,8,8,8,8,8,8,8,8,8,8,8,8,8,8,8,8,8,8,8,8,8,8,8,8,8,8,8,8,8,8,8,8,8,8,8,8,8,8,8,8,8,8,8,8,8,8,8,8,8,8,8,8,8,8,8,8,8,8,8,8,8,8,8,8,8,8,8,8,8,8,8,8,8,8,8,8,8,8,8,8,8,8,8,8,8,8,8,8,8,8,8,8,8,8,8,8,8,8,8,8,8,8,8,8,8,8,8,8,8,8,8]:List UInt8) (IntKind.u8.wrap q2.1)).bind λch=>
 let n:=w64 (q2.2+(w64 (ch.toNat:Int)))
 some n
def h264:Hint:=(.s .z (.s (.j [0,2] [(0,[(0,.v (.int .u64) []),(2,.v (.int .i64) [])])] .z) (.s (.j [0,2] [(0,[(0,.v (.int .u64) []),(2,.v (.int .i64) [])])] .z) (.s (.j [0,2] [(0,[(0,.v (.int .u64) []),(2,.v (.int .i64) [])])] .z) .z))))
def sp264:Spec fam:=⟨[.v (.int .u64) []],[.v (.int .i64) []],λa=>AT a.1⟩
def y8(x:Int):Option Int:=
 (AT x).bind λx1=>
 some x1
def h219:Hint:=.z
def sp219:Spec fam:=⟨[.v (.int .u64) []],[.v (.int .i64) []],λa=>y8 a.1⟩
def cY(x:List Int):Option (List Int):=
 (y8 (IntKind.u64.wrap (x.length:Int))).bind λx1=>
 (bZ x 0 (x.length:Int) x1).bind λx2=>
 some x2
def h183:Hint:=.z
def sp183:Spec fam:=⟨[.row (.int .i64) false],[],λa=>cY a.1⟩
def kX(s:State)(t3:State)(t4:List Int×Int):Option ((List Int×Int) ⊕ List Int):=
 bif decide (t4.2<(s.Conts.length:Int))then
 (
  (idx s.Conts t4.2).bind λx5=>
  (jx t3.Conts (λa'=>mY a'.1 x5)).bind λx6=>
  bif ! x6 then
  (app 8 t4.1 [x5.Id]).bind λl=>
  some l
  else
  some t4.1).bind λgone=>
 some (.inl (gone,w64 (t4.2+1)))
 else
 some (.inr t4.1)
def kQ(x2:List Int)(t1:State×Int):Option ((State×Int) ⊕ State):=
 bif decide (t1.2<(x2.length:Int))then
 (inb t1.2 x2.length).bind λi=>
 (x2[i]?).bind λx3=>
 (gF t1.1.Conts (λa'=>lN a'.1 x3)).bind λi1=>
 (inb i1 t1.1.Conts.length).bind λi2=>
 (t1.1.Conts[i2]?).bind λx4=>
 some (.inl ((⟨⟨t1.1.Conf.Labels,t1.1.Conf.Queues⟩,t1.1.Nodes,t1.1.Apps,List.set t1.1.Conts i2 (⟨x4.Id,x4.App,x4.Node,⟨x4.Size.Mem,x4.Size.Cores⟩,x4.Prio,x4.Label,x4.Master,imax t1.1.Now 1⟩:Cont),t1.1.Slots,t1.1.Plans,t1.1.Now,t1.1.Epoch,t1.1.Seq⟩:State),w64 (t1.2+1)))
 else
 some (.inr t1.1)
def kL(s:State)(t:State×Int):Option ((State×Int) ⊕ State):=
 bif decide (t.2<(s.Conf.Labels.length:Int))then
 (mK t.1 t.2).bind λx1=>
 (mf x1 t.2).bind λx2=>
 (loop (kQ x2) (x1,0)).bind λt2=>
 some (.inl (t2,w64 (t.2+1)))
 else
 some (.inr t.1)
def kJ(s:State):Option (State×List Int):=
 (cL s []).bind λx=>
 (loop (kL s) (x,0)).bind λt3=>
 (loop (kX s t3) ([],0)).bind λgone1=>
 (cY gone1).bind λx7=>
 some (t3,x7)
def h139:Hint:=(.s .z (.s .z (.s (.s .z (.b (.l [(2,.box (.st 10) [0,1001,2,1003,4,5,6]),(16,.v (.int .i64) [])] [2,4,6,7,11,16,17,18,19,20,21,22,23,24,25,26,27,28,29,30,31,32,33,34,35,36,37,38,39,40,41,42,43] [(2,[(2,.box (.st 10) [0,1001,2,1003,4,5,6])])] (.s .z (.s .z (.s (.b (.s .z (.s .z (.s .z (.b (.l [(2,.box (.st 10) [0,1001,2,1003,4,5,6]),(26,.v (.int .i64) [])] [2,6,7,21,22,26,27,28,29,30,31,32,33,34,35,36,37,38,39,40,41,42] [(4,[(2,.box (.st 10) [0,1001,2,1003,4,5,6])])] .z)))))) .z)))))) (.s (.s .z (.b (.l [(3,.v (.slice (.int .i64)) [0]),(47,.v (.int .i64) [])] [3,9,47] [(6,[(3,.v (.slice (.int .i64)) [0])])] (.s .z (.s .z (.s (.j [3,9] [(0,[(3,.v (.slice (.int .i64)) [0])])] .z) .z)))))) .z))))
def sp139:Spec fam:=⟨[.v (.st 10) []],[.v (.st 10) [0,1001,2,1003,4,5,6],.v (.slice (.int .i64)) [0]],λa=>kJ a.1⟩
def gV(t:Step)(was:List Cont)(x5:State×List Int)(t3:Output×Int):Option ((Output×Int) ⊕ Output):=
 bif decide (t3.2<(was.length:Int))then
 (
  (inb t3.2 was.length).bind λi2=>
  (was[i2]?).bind λx6=>
  (ci (⟨⟨⟨x5.1.Conf.Labels,x5.1.Conf.Queues⟩,x5.1.Nodes,x5.1.Apps,x5.1.Conts,x5.1.Slots,x5.1.Plans,x5.1.Now,x5.1.Epoch,x5.1.Seq⟩,⟨t.x.Kind,t.x.Id,t.x.Beat,t.x.N,t.x.Text,⟨t.x.Node.Id,t.x.Node.Label,t.x.Node.Rack,⟨t.x.Node.Cap.Mem,t.x.Node.Cap.Cores⟩,t.x.Node.Seen,t.x.Node.Beat,t.x.Node.Up⟩,⟨t.x.App.Id,t.x.App.State,t.x.App.Queue,t.x.App.User,t.x.App.Prio,⟨t.x.App.Master.Mem,t.x.App.Master.Cores⟩,t.x.App.Asks,t.x.App.Seen,t.x.App.Beat,t.x.App.Grants,t.x.App.Kills,t.x.App.Told,t.x.App.Lost⟩,t.x.Asks,t.x.Ids,⟨t.x.Plan.Id,t.x.Plan.Label,t.x.Plan.From,t.x.Plan.Until,⟨t.x.Plan.Need.Mem,t.x.Plan.Need.Cores⟩⟩⟩⟩:Step) [x6.Id]).bind λx7=>
  bif(x7.length:Int) == 0 then
  (app 8 t3.1.Gone [x6.Id]).bind λl=>
  some (⟨t3.1.Err,t3.1.Conts,t3.1.Ids,l,t3.1.N⟩:Output)
  else
  some t3.1).bind λout=>
 some (.inl (out,w64 (t3.2+1)))
 else
 some (.inr t3.1)
def ng(x2:List Int)(t2:Int):Option (Int ⊕ Unit):=
 bif decide (t2<(x2.length:Int))then
 (inb t2 x2.length).bind λi1=>
 (x2[i1]?).bind λx3=>
 none
 else
 some (.inr ())
def mg(x:List Int)(t1:Int):Option (Int ⊕ Unit):=
 bif decide (t1<(x.length:Int))then
 (inb t1 x.length).bind λi=>
 (x[i]?).bind λx1=>
 none
 else
 some (.inr ())
def fR(t:Step):Option (Output×Step):=
 (
 bif decide (t.x.N<1)then
  some true
 else
  some (decide (t.x.N>100))).bind λq=>
 bif q then
 none
 else
 bif decide (t.s.Now>(w64 (1000000000 - t.x.N)))then
  none
 else
  (bf t.s.Conts).bind λwas=>
  (me (⟨⟨t.s.Conf.Labels,t.s.Conf.Queues⟩,t.s.Nodes,t.s.Apps,t.s.Conts,t.s.Slots,t.s.Plans,w64 (t.s.Now+t.x.N),t.s.Epoch,t.s.Seq⟩:State)).bind λx=>
  (loop (mg x) 0).bind λ_=>
  (oK (⟨⟨t.s.Conf.Labels,t.s.Conf.Queues⟩,t.s.Nodes,t.s.Apps,t.s.Conts,t.s.Slots,t.s.Plans,w64 (t.s.Now+t.x.N),t.s.Epoch,t.s.Seq⟩:State)).bind λx2=>
  (loop (ng x2) 0).bind λ_=>
  (kK t.s.Plans (λa'=>none)).bind λx4=>
  (kJ (⟨⟨t.s.Conf.Labels,t.s.Conf.Queues⟩,t.s.Nodes,t.s.Apps,t.s.Conts,t.s.Slots,x4,w64 (t.s.Now+t.x.N),t.s.Epoch,t.s.Seq⟩:State)).bind λx5=>
  (loop (gV t was x5) ((⟨0,[],[],[],0⟩:Output),0)).bind λout1=>
  some (out1,(⟨⟨⟨x5.1.Conf.Labels,x5.1.Conf.Queues⟩,x5.1.Nodes,x5.1.Apps,x5.1.Conts,x5.1.Slots,x5.1.Plans,x5.1.Now,x5.1.Epoch,x5.1.Seq⟩,⟨t.x.Kind,t.x.Id,t.x.Beat,t.x.N,t.x.Text,⟨t.x.Node.Id,t.x.Node.Label,t.x.Node.Rack,⟨t.x.Node.Cap.Mem,t.x.Node.Cap.Cores⟩,t.x.Node.Seen,t.x.Node.Beat,t.x.Node.Up⟩,⟨t.x.App.Id,t.x.App.State,t.x.App.Queue,t.x.App.User,t.x.App.Prio,⟨t.x.App.Master.Mem,t.x.App.Master.Cores⟩,t.x.App.Asks,t.x.App.Seen,t.x.App.Beat,t.x.App.Grants,t.x.App.Kills,t.x.App.Told,t.x.App.Lost⟩,t.x.Asks,t.x.Ids,⟨t.x.Plan.Id,t.x.Plan.Label,t.x.Plan.From,t.x.Plan.Until,⟨t.x.Plan.Need.Mem,t.x.Plan.Need.Cores⟩⟩⟩⟩:Step))
def h78:Hint:=(.s .z (.s (.b (.s (.j [11,12,13,14,15,16,17,18,19,20,21,22,23,24,25] [(0,[(11,.v .bool [])])] .z) .z)) (.s .z (.s .z (.s (.s .z (.b (.l [(67,.v (.int .i64) [])] [67,68] [(3,[])] .z))) (.s (.s .z (.b (.l [(81,.v (.int .i64) [])] [81,82] [(5,[])] .z))) (.s .z (.s .z (.s .z (.s (.s .z (.b (.l [(8,.box (.st 11) [1,2,3]),(121,.v (.int .i64) [])] [8,10,121] [(7,[(8,.box (.st 11) [1,2,3])])] (.s .z (.s .z (.s (.j [8,10] [(0,[(8,.box (.st 11) [1,2,3])])] .z) .z)))))) .z))))))))))
def sp78:Spec fam:=⟨[.box (.st 18) [0,2,4,5,6,7000]],[.v (.st 11) [1,2,3]],λa=>fR a.1⟩
def tW(_a0:Step):Option Output:=none
def sp79:Spec fam:=⟨[.rp (.st 18)],[.v (.st 11) []],λa=>tW a.1⟩
def GQ(_a0:State)(_a1:Int):Option (State×Int):=none
def sp80:Spec fam:=⟨[.v (.st 10) [],.v (.int .i64) []],[.v (.st 10) [],.v (.int .i64) []],λa=>GQ a.1 a.2.1⟩
def xc(_a0:Step):Option Output:=none
def sp81:Spec fam:=⟨[.rp (.st 18)],[.v (.st 11) []],λa=>xc a.1⟩
def iO(t:Step):Option (Output×Step):=
 bif t.x.Kind == 1 then
 (cX t).bind λx=>
 some (x.1,x.2)
 else
 bif t.x.Kind == 2 then
  (jA t.s t.x.Node).bind λx1=>
  (dh t x1.1 x1.2).bind λx2=>
  some (x2.1,x2.2)
 else
  bif t.x.Kind == 3 then
  (fM t).bind λx3=>
  some (x3.1,x3.2)
  else
  bif t.x.Kind == 4 then
   (oR t.s t.x.App).bind λx4=>
   (dh t x4.1 x4.2).bind λx5=>
   some (x5.1,x5.2)
  else
   bif t.x.Kind == 5 then
   (eB t).bind λx6=>
   some (x6.1,x6.2)
   else
   bif t.x.Kind == 6 then
    none
   else
    bif t.x.Kind == 7 then
    none
    else
    bif t.x.Kind == 8 then
     (fR t).bind λx7=>
     some (x7.1,x7.2)
    else
     bif t.x.Kind == 9 then
     none
     else
     bif t.x.Kind == 10 then
      none
     else
      bif t.x.Kind == 11 then
      none
      else
      none
def h35:Hint:=.z
def sp35:Spec fam:=⟨[.box (.st 18) [0,2,4,5,6,7000]],[.v (.st 11) [1,2,3]],λa=>iO a.1⟩
def jl(s:State)(x:Input):Option (State×Output):=
 (cL s []).bind λx1=>
 (iO (⟨⟨⟨x1.Conf.Labels,x1.Conf.Queues⟩,x1.Nodes,x1.Apps,x1.Conts,x1.Slots,x1.Plans,x1.Now,x1.Epoch,x1.Seq⟩,⟨x.Kind,x.Id,x.Beat,x.N,x.Text,⟨x.Node.Id,x.Node.Label,x.Node.Rack,⟨x.Node.Cap.Mem,x.Node.Cap.Cores⟩,x.Node.Seen,x.Node.Beat,x.Node.Up⟩,⟨x.App.Id,x.App.State,x.App.Queue,x.App.User,x.App.Prio,⟨x.App.Master.Mem,x.App.Master.Cores⟩,x.App.Asks,x.App.Seen,x.App.Beat,x.App.Grants,x.App.Kills,x.App.Told,x.App.Lost⟩,x.Asks,x.Ids,⟨x.Plan.Id,x.Plan.Label,x.Plan.From,x.Plan.Until,⟨x.Plan.Need.Mem,x.Plan.Need.Cores⟩⟩⟩⟩:Step)).bind λx2=>
 bif x2.1.Err != 0 then
 (cL s []).bind λx3=>
 some (x3,x2.1)
 else
 (cL x2.2.s []).bind λx4=>
 some (x4,x2.1)
def h17:Hint:=.z
def sp17:Spec fam:=⟨[.v (.st 10) [],.v (.st 12) []],[.v (.st 10) [0,1001,2,1003,4,5,6],.v (.st 11) [1,2,3]],λa=>jl a.1 a.2.1⟩
def gS(t:State×Int):Option ((State×Int) ⊕ (Bool ⊕ State)):=
 bif decide (t.2<([(⟨2,0,0,0,[],⟨1,0,0,⟨1,1⟩,0,0,false⟩,⟨0,0,[],0,0,⟨0,0⟩,[],0,0,[],[],[],[]⟩,[],[],⟨0,0,0,0,⟨0,0⟩⟩⟩:Input),(⟨4,0,0,0,[],⟨0,0,0,⟨0,0⟩,0,0,false⟩,⟨2,0,([114,111,111,116]:List UInt8),0,0,⟨1,1⟩,[],0,0,[],[],[],[]⟩,[],[],⟨0,0,0,0,⟨0,0⟩⟩⟩:Input),(⟨3,1,1,0,[],⟨0,0,0,⟨0,0⟩,0,0,false⟩,⟨0,0,[],0,0,⟨0,0⟩,[],0,0,[],[],[],[]⟩,[],[],⟨0,0,0,0,⟨0,0⟩⟩⟩:Input)].length:Int))then
 (inb t.2 [(⟨2,0,0,0,[],⟨1,0,0,⟨1,1⟩,0,0,false⟩,⟨0,0,[],0,0,⟨0,0⟩,[],0,0,[],[],[],[]⟩,[],[],⟨0,0,0,0,⟨0,0⟩⟩⟩:Input),(⟨4,0,0,0,[],⟨0,0,0,⟨0,0⟩,0,0,false⟩,⟨2,0,([114,111,111,116]:List UInt8),0,0,⟨1,1⟩,[],0,0,[],[],[],[]⟩,[],[],⟨0,0,0,0,⟨0,0⟩⟩⟩:Input),(⟨3,1,1,0,[],⟨0,0,0,⟨0,0⟩,0,0,false⟩,⟨0,0,[],0,0,⟨0,0⟩,[],0,0,[],[],[],[]⟩,[],[],⟨0,0,0,0,⟨0,0⟩⟩⟩:Input)].length).bind λi=>
 ([(⟨2,0,0,0,[],⟨1,0,0,⟨1,1⟩,0,0,false⟩,⟨0,0,[],0,0,⟨0,0⟩,[],0,0,[],[],[],[]⟩,[],[],⟨0,0,0,0,⟨0,0⟩⟩⟩:Input),(⟨4,0,0,0,[],⟨0,0,0,⟨0,0⟩,0,0,false⟩,⟨2,0,([114,111,111,116]:List UInt8),0,0,⟨1,1⟩,[],0,0,[],[],[],[]⟩,[],[],⟨0,0,0,0,⟨0,0⟩⟩⟩:Input),(⟨3,1,1,0,[],⟨0,0,0,⟨0,0⟩,0,0,false⟩,⟨0,0,[],0,0,⟨0,0⟩,[],0,0,[],[],[],[]⟩,[],[],⟨0,0,0,0,⟨0,0⟩⟩⟩:Input)][i]?).bind λx1=>
 (jl t.1 x1).bind λx2=>
 bif x2.2.Err != 0 then
  some (.inr (.inl false))
 else
  some (.inl (x2.1,w64 (t.2+1)))
 else
 some (.inr (.inr (t.1)))
def fT:Option Bool:=
 (kq).bind λx=>
 (loop gS (x,0)).bind λq0=>
 match q0 with
 | .inl q=>
 some q
 | .inr s=>
 bif(s.Conts.length:Int) == 1 then
  (inb 0 s.Conts.length).bind λi1=>
  (s.Conts[i1]?).bind λx3=>
  bif x3.Master then
  (ij s).bind λx4=>
  some x4
  else
  some false
 else
  some false
def h7:Hint:=(.s .z (.s .z (.s .z (.s .z (.s (.s .z (.b (.l [(1,.box (.st 10) [0,2,4,5,6]),(4,.v (.int .i64) [])] [0,1,4,5,6] [(1,[(0,.v .bool [])]),(2,[(1,.box (.st 10) [0,2,4,5,6])])] .z))) .z)))))
noncomputable def sp7:Spec fam:=⟨[],[.v .bool []],λ_=>fT⟩
def av(at_:Int)(n:Int):Option Int:=
 (nz n).bind λ_=>
 (
 bif decide ((Int.tmod at_ n)<0)then
  let k:=w64 ((Int.tmod at_ n)+n)
  some k
 else
  some (Int.tmod at_ n)).bind λk1=>
 some k1
def h8:Hint:=(.s .z (.s .z (.s (.j [5] [(0,[(5,.v (.int .i64) [])])] .z) .z)))
def sp8:Spec fam:=⟨[.v (.int .i64) [],.v (.int .i64) []],[.v (.int .i64) []],λa=>av a.1 a.2.1⟩
def je(l:List Input)(t:State×State×Int):Option ((State×State×Int) ⊕ ((State×Bool) ⊕ (State×State))):=
 bif decide (t.2.2<(l.length:Int))then
 (idx l t.2.2).bind λx=>
 (jl t.1 x).bind λx1=>
 bif x1.2.Err != 0 then
  some (.inr (.inl (t.1,false)))
 else
  some (.inl (x1.1,t.2.1,w64 (t.2.2+1)))
 else
 some (.inr (.inr (t.1,t.2.1)))
def cv(s:State)(l:List Input):Option (State×Bool):=
 (loop (je l) (s,(⟨⟨[],[]⟩,[],[],[],[],[],0,0,0⟩:State),0)).bind λq0=>
 match q0 with
 | .inl q=>
 some (q.1,q.2)
 | .inr q1=>
 some (q1.1,true)
def h9:Hint:=(.s .z (.s (.s .z (.b (.l [(2,.box (.st 10) []),(4,.box (.st 10) [0,1,2,3,4,5,6]),(6,.v (.int .i64) [])] [2,4,5,6,7,8] [(1,[(4,.box (.st 10) []),(5,.v .bool [])]),(2,[(2,.box (.st 10) []),(4,.box (.st 10) [0,1,2,3,4,5,6])])] .z))) .z))
def sp9:Spec fam:=⟨[.v (.st 10) [],.v (.slice (.st 12)) []],[.v (.st 10) [],.v .bool []],λa=>cv a.1 a.2.1⟩
def vp(self:Int→Option (List UInt8))(n:Int):Option (List UInt8):=
 bif decide (n≥10)then
 (self (w64 (Int.tdiv n 10))).bind λx=>
 (self (Int.tmod n 10)).bind λx1=>
 (cat x x1).bind λs=>
 some s
 else
 some (List.map toB [IntKind.u8.wrap (w64 (48+n))])
def gK:Nat→Int→Option (List UInt8)
 | 0=>λ_=>none
 | n+1=>vp (gK n)
def jv(a0:Int):Option (List UInt8):=gK 64 a0
def h21:Hint:=.z
def sp21:Spec fam:=⟨[.v (.int .i64) []],[.v .str []],λa=>jv a.1⟩
def LN(n:Nat):Spec fam:=⟨[.v (.int .i64) []],[.v .str []],λa=>gK n a.1⟩
def iZ(least:Int):Option (List UInt8):=
 (jv least).bind λx=>
 (cat ([108,97,98,101,108,115,10,113,117,101,117,101,32,114,111,111,116,32,49,48,48,48,48,32,49,48,48,48,48,47,49,48,48,48,48,10,113,117,101,117,101,32,114,111,111,116,46,97,32,49,48,48,48,48,48,48,32]:List UInt8) x).bind λs=>
 (cat s ([47,49,48,48,48,48,10,113,117,101,117,101,32,114,111,111,116,46,98,32,49,48,48,48,48,48,48,32]:List UInt8)).bind λs1=>
 (jv (w64 (10000 - least))).bind λx1=>
 (cat s1 x1).bind λs2=>
 (cat s2 ([47,49,48,48,48,48,10]:List UInt8)).bind λs3=>
 some s3
def h11:Hint:=.z
def sp11:Spec fam:=⟨[.v (.int .i64) []],[.v .str []],λa=>iZ a.1⟩
def cT:Option Vec:=
 some (⟨1,1⟩:Vec)
def h12:Hint:=.z
noncomputable def sp12:Spec fam:=⟨[],[.v (.st 0) []],λ_=>cT⟩
def dJ(n:Int):Option (List Ask):=
 (cT).bind λx=>
 some [(⟨1,0,⟨x.Mem,x.Cores⟩,n,(-1),(-1),0⟩:Ask)]
def h13:Hint:=.z
def sp13:Spec fam:=⟨[.v (.int .i64) []],[.v (.slice (.st 5)) [0]],λa=>dJ a.1⟩
def lD(s:State)(id_:Int)(t:App×Int):Option ((App×Int) ⊕ ((App×Bool) ⊕ App)):=
 bif decide (t.2<(s.Apps.length:Int))then
 (idx s.Apps t.2).bind λx=>
 bif x.Id == id_ then
  (idx s.Apps t.2).bind λx1=>
  some (.inr (.inl (x1,true)))
 else
  some (.inl (t.1,w64 (t.2+1)))
 else
 some (.inr (.inr (t.1)))
def fx(s:State)(id_:Int):Option (App×Bool):=
 (loop (lD s id_) ((⟨0,0,[],0,0,⟨0,0⟩,[],0,0,[],[],[],[]⟩:App),0)).bind λq0=>
 match q0 with
 | .inl q=>
 some (q.1,q.2)
 | .inr q1=>
 some ((⟨0,0,[],0,0,⟨0,0⟩,[],0,0,[],[],[],[]⟩:App),false)
def h18:Hint:=(.s .z (.s (.s .z (.b (.l [(4,.box (.st 6) [7,10,11,12,13]),(6,.v (.int .i64) [])] [4,5,6] [(1,[(4,.box (.st 6) []),(5,.v .bool [])]),(2,[(4,.box (.st 6) [7,10,11,12,13])])] .z))) .z))
def sp18:Spec fam:=⟨[.v (.st 10) [],.v (.int .i64) []],[.v (.st 6) [],.v .bool []],λa=>fx a.1 a.2.1⟩
def jR(a:Vec)(b:Vec):Option Vec:=
 some (⟨w64 (a.Mem+b.Mem),w64 (a.Cores+b.Cores)⟩:Vec)
def h36:Hint:=.z
def sp36:Spec fam:=⟨[.v (.st 0) [],.v (.st 0) []],[.v (.st 0) []],λa=>jR a.1 a.2.1⟩
def lq(path:List UInt8)(k1:Int):Option (Int ⊕ Int):=
 (
 bif decide (k1≥0)then
  (idx path k1).bind λch=>
  some ((ch.toNat:Int) != 46)
 else
  some false).bind λq=>
 bif q then
 some (.inl (w64 (k1 - 1)))
 else
 some (.inr k1)
def fk(path:List UInt8):Option (List UInt8):=
 let k:=w64 ((path.length:Int) - 1)
 (loop (lq path) k).bind λk2=>
 bif decide (k2<0)then
 some ([]:List UInt8)
 else
 (slc path 0 k2).bind λs=>
 some s
def h144:Hint:=(.s .z (.s .z (.s (.b (.l [(3,.v (.int .i64) [])] [3,14] [(2,[(3,.v (.int .i64) [])])] (.s (.s (.j [] [(0,[(14,.v .bool [])])] .z) .z) .z))) .z)))
def sp144:Spec fam:=⟨[.v .str []],[.v .str []],λa=>fk a.1⟩
def ji(t:List UInt8×List (List UInt8)):Option ((List UInt8×List (List UInt8)) ⊕ List (List UInt8)):=
 bif ! (t.1 == ([]:List UInt8))then
 (app 16 t.2 [t.1]).bind λl=>
 (fk t.1).bind λpath1=>
 some (.inl (path1,l))
 else
 some (.inr t.2)
def iR(path:List UInt8):Option (List (List UInt8)):=
 (loop ji (path,[])).bind λl1=>
 some l1
def h83:Hint:=(.s .z (.s .z (.s (.b (.l [(0,.v .str []),(3,.v (.slice (.str)) [0])] [0,3] [(2,[(3,.v (.slice (.str)) [0])])] .z)) .z)))
def sp83:Spec fam:=⟨[.v .str []],[.v (.slice (.str)) [0]],λa=>iR a.1⟩
def kC(path:List UInt8)(up:List (List UInt8))(i:Int):Option (Int ⊕ (Bool ⊕ Unit)):=
 bif decide (i<(up.length:Int))then
 (inb i up.length).bind λi1=>
 (up[i1]?).bind λx=>
 bif x == path then
  some (.inr (.inl true))
 else
  some (.inl (w64 (i+1)))
 else
 some (.inr (.inr ()))
def eF(leaf:List UInt8)(path:List UInt8):Option Bool:=
 (iR leaf).bind λup=>
 (loop (kC path up) 0).bind λq0=>
 match q0 with
 | .inl q=>
 some q
 | .inr _=>
 some false
def h37:Hint:=(.s .z (.s .z (.s (.s .z (.b (.l [(6,.v (.int .i64) [])] [4,6] [(1,[(4,.v .bool [])]),(2,[])] .z))) .z)))
def sp37:Spec fam:=⟨[.v .str [],.v .str []],[.v .bool []],λa=>eF a.1 a.2.1⟩
def fV(s:State)(path:List UInt8)(label:Int)(all:Bool)(user:Int)(t:Vec×Int):Option ((Vec×Int) ⊕ Vec):=
 bif decide (t.2<(s.Conts.length:Int))then
 (
  (idx s.Conts t.2).bind λx=>
  (fx s x.App).bind λx1=>
  (
  bif x1.2 then
   (idx s.Conts t.2).bind λx2=>
   bif x2.Label == label then
   (eF x1.1.Queue path).bind λx3=>
   bif x3 then
    bif all then
    some true
    else
    some (x1.1.User == user)
   else
    some false
   else
   some false
  else
   some false).bind λq=>
  bif q then
  (idx s.Conts t.2).bind λx4=>
  (jR t.1 x4.Size).bind λx5=>
  some x5
  else
  some t.1).bind λv=>
 some (.inl (v,w64 (t.2+1)))
 else
 some (.inr t.1)
def fp(s:State)(path:List UInt8)(label:Int)(all:Bool)(user:Int):Option Vec:=
 (loop (fV s path label all user) ((⟨0,0⟩:Vec),0)).bind λv1=>
 some v1
def h22:Hint:=(.s .z (.s .z (.s (.s .z (.b (.l [(11,.box (.st 0) []),(12,.v (.int .i64) [])] [11,12,13,59] [(2,[(11,.box (.st 0) [])])] (.s .z (.s (.j [11,13,59] [(0,[(11,.box (.st 0) [])])] (.b (.s .z (.s (.j [] [(0,[(59,.v .bool [])])] .z) .z)))) .z))))) .z)))
def sp22:Spec fam:=⟨[.v (.st 10) [],.v .str [],.v (.int .i64) [],.v .bool [],.v (.int .i64) []],[.v (.st 0) []],λa=>fp a.1 a.2.1 a.2.2.1 a.2.2.2.1 a.2.2.2.2.1⟩
def b_(s:State)(path:List UInt8)(label:Int):Option Vec:=
 (fp s path label true 0).bind λx=>
 some x
def h14:Hint:=.z
def sp14:Spec fam:=⟨[.v (.st 10) [],.v .str [],.v (.int .i64) []],[.v (.st 0) []],λa=>b_ a.1 a.2.1 a.2.2.1⟩
def dm(q1:State×Int)(t1:State×Bool×Int):Option ((State×Bool×Int) ⊕ ((State×Bool))):=
 (
 bif decide (t1.2.2<11)then
  some t1.2.1
 else
  some false).bind λq2=>
 bif q2 then
 (cv t1.1 [(⟨8,0,0,1,[],⟨0,0,0,⟨0,0⟩,0,0,false⟩,⟨0,0,[],0,0,⟨0,0⟩,[],0,0,[],[],[],[]⟩,[],[],⟨0,0,0,0,⟨0,0⟩⟩⟩:Input),(⟨5,1,w64 (2+t1.2.2),0,[],⟨0,0,0,⟨0,0⟩,0,0,false⟩,⟨0,0,[],0,0,⟨0,0⟩,[],0,0,[],[],[],[]⟩,[],[],⟨0,0,0,0,⟨0,0⟩⟩⟩:Input),(⟨5,2,w64 (2+t1.2.2),0,[],⟨0,0,0,⟨0,0⟩,0,0,false⟩,⟨0,0,[],0,0,⟨0,0⟩,[],0,0,[],[],[],[]⟩,[],[],⟨0,0,0,0,⟨0,0⟩⟩⟩:Input),(⟨3,1,w64 (q1.2+t1.2.2),0,[],⟨0,0,0,⟨0,0⟩,0,0,false⟩,⟨0,0,[],0,0,⟨0,0⟩,[],0,0,[],[],[],[]⟩,[],[],⟨0,0,0,0,⟨0,0⟩⟩⟩:Input)]).bind λx13=>
 some (.inl (x13.1,x13.2,w64 (t1.2.2+1)))
 else
 some (.inr (t1.1,t1.2.1))
def dj(t:State×Int):Option ((State×Int) ⊕ ((State×Int))):=
 bif decide (t.2<12)then
 (cv t.1 [(⟨3,1,t.2,0,[],⟨0,0,0,⟨0,0⟩,0,0,false⟩,⟨0,0,[],0,0,⟨0,0⟩,[],0,0,[],[],[],[]⟩,[],[],⟨0,0,0,0,⟨0,0⟩⟩⟩:Input)]).bind λx9=>
 some (.inl (x9.1,w64 (t.2+1)))
 else
 some (.inr (t.1,t.2))
def ak(units:Int)(wanted:Int)(first:Bool):Option Bool:=
 (fT).bind λx=>
 bif ! x then
 some false
 else
 (av units 8).bind λx1=>
 let units1:=w64 (2*(w64 (3+x1)))
 (av wanted (w64 ((w64 (Int.tdiv units1 2)) - 1))).bind λx2=>
 (
  bif first then
  some (([114,111,111,116,46,98]:List UInt8),([114,111,111,116,46,97]:List UInt8))
  else
  some (([114,111,111,116,46,97]:List UInt8),([114,111,111,116,46,98]:List UInt8))).bind λq=>
 (kq).bind λx3=>
 (iZ 5000).bind λx4=>
 (cT).bind λx5=>
 (cT).bind λx6=>
 (dJ 40).bind λx7=>
 (cv x3 [(⟨1,0,0,0,x4,⟨0,0,0,⟨0,0⟩,0,0,false⟩,⟨0,0,[],0,0,⟨0,0⟩,[],0,0,[],[],[],[]⟩,[],[],⟨0,0,0,0,⟨0,0⟩⟩⟩:Input),(⟨2,0,0,0,[],⟨1,0,0,⟨units1,units1⟩,0,0,false⟩,⟨0,0,[],0,0,⟨0,0⟩,[],0,0,[],[],[],[]⟩,[],[],⟨0,0,0,0,⟨0,0⟩⟩⟩:Input),(⟨4,0,0,0,[],⟨0,0,0,⟨0,0⟩,0,0,false⟩,⟨1,0,q.1,0,0,⟨x5.Mem,x5.Cores⟩,[],0,0,[],[],[],[]⟩,[],[],⟨0,0,0,0,⟨0,0⟩⟩⟩:Input),(⟨4,0,0,0,[],⟨0,0,0,⟨0,0⟩,0,0,false⟩,⟨2,0,q.2,0,0,⟨x6.Mem,x6.Cores⟩,[],0,0,[],[],[],[]⟩,[],[],⟨0,0,0,0,⟨0,0⟩⟩⟩:Input),(⟨3,1,1,0,[],⟨0,0,0,⟨0,0⟩,0,0,false⟩,⟨0,0,[],0,0,⟨0,0⟩,[],0,0,[],[],[],[]⟩,[],[],⟨0,0,0,0,⟨0,0⟩⟩⟩:Input),(⟨5,1,1,0,[],⟨0,0,0,⟨0,0⟩,0,0,false⟩,⟨0,0,[],0,0,⟨0,0⟩,[],0,0,[],[],[],[]⟩,x7,[],⟨0,0,0,0,⟨0,0⟩⟩⟩:Input)]).bind λx8=>
 bif ! x8.2 then
  some false
 else
  (loop dj (x8.1,2)).bind λq1=>
  (b_ q1.1 q.1 0).bind λx10=>
  bif x10.Mem != (w64 (units1 - 1))then
  some false
  else
  (dJ (w64 (1+x2))).bind λx11=>
  (cv q1.1 [(⟨5,2,1,0,[],⟨0,0,0,⟨0,0⟩,0,0,false⟩,⟨0,0,[],0,0,⟨0,0⟩,[],0,0,[],[],[],[]⟩,x11,[],⟨0,0,0,0,⟨0,0⟩⟩⟩:Input)]).bind λx12=>
  (loop (dm q1) (x12.1,x12.2,0)).bind λq3=>
  bif q3.2 then
   (b_ q3.1 q.2 0).bind λx14=>
   bif x14.Mem == (w64 (1+(w64 (1+x2))))then
   (b_ q3.1 q.1 0).bind λx15=>
   bif x15.Mem == (w64 ((w64 (units1 - 1)) - (w64 (1+x2))))then
    (ij q3.1).bind λx16=>
    some x16
   else
    some false
   else
   some false
  else
   some false
def h3:Hint:=(.s .z (.s .z (.s .z (.s .z (.s .z (.s (.j [7,8] [(0,[(7,.v .str []),(8,.v .str [])])] .z) (.s .z (.s .z (.s .z (.s (.b (.l [(9,.box (.st 10) []),(11,.v (.int .i64) [])] [9,11] [(2,[(9,.box (.st 10) []),(11,.v (.int .i64) [])])] .z)) (.s .z (.s .z (.s (.s .z (.b (.l [(9,.box (.st 10) []),(10,.v .bool []),(12,.v (.int .i64) [])] [9,10,12,86] [(4,[(9,.box (.st 10) []),(10,.v .bool [])])] (.s (.s (.j [] [(0,[(86,.v .bool [])])] .z) .z) .z)))) .z)))))))))))))
def sp3:Spec fam:=⟨[.v (.int .i64) [],.v (.int .i64) [],.v .bool []],[.v .bool []],λa=>ak a.1 a.2.1 a.2.2.1⟩
end
end Go.Fx.D
