/-
  The functions of the program that this law reaches, as functions over plain data (printed by a program). Conditions: none.
-/
import Derived.Test.YtppllkbjijfocaaGreatDoorD0
namespace Go.Fx.D
open Go Go.Fx Go.Proofs
set_option linter.unusedVariables false
noncomputable section
def Hz(n:Nat):Spec fam:=⟨[.row (.st 6) false,.v (.int .i64) [],.v (.int .i64) [],.v (.int .i64) [],.fn [.st 6,.st 6] (.int .i64)],[],λa=>lz n a.1 a.2.1 a.2.2.1 a.2.2.2.1 a.2.2.2.2.1⟩
def vk(n:Int)(cmp:(Jk fam [.st 6,.st 6]→Option Int))(t1:List App×Int)(t2:List App×Int×Int):Option ((List App×Int×Int) ⊕ ((List App×Int))):=
 bif decide (t2.2.2≤n)then
 (oD t2.1 t2.2.1 (I8 (t2.2.1+t1.2)) t2.2.2 cmp).bind λx2=>
 let b:=I8 (t2.2.2+(I8 (2*t1.2)))
 some (.inl (x2,t2.2.2,b))
 else
 some (.inr (t2.1,t2.2.1))
def km(n:Int)(cmp:(Jk fam [.st 6,.st 6]→Option Int))(t1:List App×Int):Option ((List App×Int) ⊕ List App):=
 bif decide (t1.2<n)then
 (loop (vk n cmp t1) (t1.1,0,I8 (2*t1.2))).bind λq1=>
 (
  let m:=I8 (q1.2+t1.2)
  bif decide (m<n)then
  (oD q1.1 q1.2 m n cmp).bind λx3=>
  some x3
  else
  some q1.1).bind λMH=>
 some (.inl (MH,I8 (t1.2*2)))
 else
 some (.inr t1.1)
def ke(n:Int)(cmp:(Jk fam [.st 6,.st 6]→Option Int))(t:List App×Int×Int):Option ((List App×Int×Int) ⊕ ((List App×Int))):=
 bif decide (t.2.2≤n)then
 (jW t.1 t.2.1 t.2.2 cmp).bind λx=>
 some (.inl (x,t.2.2,I8 (t.2.2+20)))
 else
 some (.inr (t.1,t.2.1))
def n8(data:List App)(n:Int)(cmp:(Jk fam [.st 6,.st 6]→Option Int)):Option (List App):=
 (loop (ke n cmp) (data,0,20)).bind λq=>
 (jW q.1 q.2 n cmp).bind λx1=>
 (loop (km n cmp) (x1,20)).bind λNz=>
 some Nz
def acZ:Spec fam:=⟨[t8,ge,.fn [.st 6,.st 6] (.int .i64)],[],λa=>n8 a.1 a.2.1 a.2.2.1⟩
def ka(x:List App)(cmp:(Jk fam [.st 6,.st 6]→Option Int)):Option (List App):=
 (n8 x (x.length:Int) cmp).bind λx1=>
 some x1
def ade:Spec fam:=⟨[t8,.fn [.st 6,.st 6] (.int .i64)],[],λa=>ka a.1 a.2.1⟩
def ir(x:Int):Option Bool:=
 some (x != x)
def adt:Spec fam:=⟨[ge],[gt],λa=>ir a.1⟩
def cQ(x:Int)(y:Int):Option Int:=
 (ir x).bind λZC=>
 (ir y).bind λU6=>
 bif ZC then
 bif U6 then
  some 0
 else
  some (-1)
 else
 bif U6 then
  some 1
 else
  bif decide (x<y)then
  some (-1)
  else
  bif decide (x>y)then
   some 1
  else
   some 0
def adR:Spec fam:=⟨[ge,ge],[ge],λa=>cQ a.1 a.2.1⟩
def oI(a:App)(b:App):Option Int:=
 (cQ b.Jt a.Jt).bind λx=>
 (cQ a.Id b.Id).bind λx1=>
 (gO [x,x1]).bind λx2=>
 some x2
def adb:Spec fam:=⟨[QP,QP],[ge],λa=>oI a.1 a.2.1⟩
def jn(x2:List App)(t1:List Int×Int):Option ((List Int×Int) ⊕ List Int):=
 bif decide (t1.2<(x2.length:Int))then
 (Ka t1.2 x2.length).bind λi=>
 (x2[i]?).bind λx3=>
 (Ka t1.2 t1.1.length).bind λi1=>
 (t1.1[i1]?).bind λx4=>
 some (.inl (List.set t1.1 i1 x3.Id,I8 (t1.2+1)))
 else
 some (.inr t1.1)
def jo(s:GN)(queue:List UInt8)(t:List App×Int):Option ((List App×Int) ⊕ List App):=
 bif decide (t.2<(s.IY.length:Int))then
 (
  (idx s.IY t.2).bind λx=>
  (
  (cf x).bind λx1=>
  bif x1 then
   some (x.I4 == queue)
  else
   some false).bind λq=>
  bif q then
  (app 200 t.1 [x]).bind λl=>
  some l
  else
  some t.1).bind λl1=>
 some (.inl (l1,I8 (t.2+1)))
 else
 some (.inr t.1)
def ni(s:GN)(queue:List UInt8):Option (List Int):=
 (loop (jo s queue) ([],0)).bind λl2=>
 (ka l2 (λa'=>oI a'.1 a'.2.1)).bind λx2=>
 (PV 8 (x2.length:Int) (x2.length:Int) 0).bind λl3=>
 (loop (jn x2) (l3,0)).bind λout=>
 some out
def adz:Spec fam:=⟨[f9,f8],[f0],λa=>ni a.1 a.2.1⟩
def oY(l:List Ask)(prio:Int):Option (List Ask):=
 (kY l).bind λout=>
 (
 (pR out prio).bind λi=>
 bif decide (i≥0)then
  (Ka i out.length).bind λi1=>
  (out[i1]?).bind λx=>
  (Ka i out.length).bind λi2=>
  (out[i2]?).bind λx1=>
  some (List.set out i2 (⟨x1.Jt,x1.I_,⟨x1.Kj.Mem,x1.Kj.IZ⟩,x1.KC,x1.Node,x1.KF,Od (I8 (x.Nh+1)) 100⟩:Ask))
 else
  some out).bind λLG=>
 some LG
def ada:Spec fam:=⟨[Q2,ge],[QC],λa=>oY a.1 a.2.1⟩
def eK(t:Attempt)(a:App)(prio:Int):Option (App×Attempt):=
 (oY a.Ju prio).bind λx=>
 (kU t.s (⟨a.Id,a.GN,a.I4,a.User,a.Jt,⟨a.I5.Mem,a.I5.IZ⟩,x,a.Kz,a.J6,a.Ke,a.KE,a.Told,a.Lg⟩:App)).bind λx1=>
 some ((⟨a.Id,a.GN,a.I4,a.User,a.Jt,⟨a.I5.Mem,a.I5.IZ⟩,x,a.Kz,a.J6,a.Ke,a.KE,a.Told,a.Lg⟩:App),(⟨⟨⟨x1.I6.I7,x1.I6.IX⟩,x1.Jb,x1.IY,x1.IW,x1.Jj,x1.Ji,x1.Now,x1.Jq,x1.Seq⟩,⟨t.n.Id,t.n.I_,t.n.KF,⟨t.n.Cap.Mem,t.n.Cap.IZ⟩,t.n.Kz,t.n.J6,t.n.Up⟩,⟨t.free.Mem,t.free.IZ⟩⟩:Attempt))
def ady:Spec fam:=⟨[pp,Q7,ge],[Q7],λa=>eK a.1 a.2.1 a.2.2.1⟩
def kn(s:List Slot)(f:(Jk fam [.st 8]→Option Bool)):Option Bool:=
 (gA s f).bind λx=>
 some (decide (x≥0))
def alg:Spec fam:=⟨[Qi,.fn [.st 8] .bool],[gt],λa=>kn a.1 a.2.1⟩
def fS(x:Slot)(p:Int)(p1:Int):Option Bool:=
 bif x.App == p then
 some (x.Jt == p1)
 else
 some false
def ac_:Spec fam:=⟨[Qs,.rp (.int .i64),.rp (.int .i64)],[gt],λa=>fS a.1 a.2.1 a.2.2.1⟩
def uM(s:List Slot)(i:Int)(v:List Slot):Option (List Slot):=
 (Mj i (s.length:Int) s.length).bind λp=>
 bif(v.length:Int) == 0 then
 some s
 else
 bif i == (s.length:Int)then
  (app 24 s v).bind λl=>
  some l
 else
  none
def mL(s:List Slot)(i:Int)(v:List Slot):Option (List Slot):=ins s i v
def aor:Hint:=.z
def ac9:Spec fam:=⟨[Q1,ge,Q1],[Q1],λa=>mL a.1 a.2.1 a.2.2.1⟩
def HP:Spec fam:=⟨[.v (.slice (.st 8)) [0],.v (.int .i64) [],.v (.slice (.st 8)) [0]],[.v (.slice (.st 8)) [0]],λa=>uM a.1 a.2.1 a.2.2.1⟩
def jd(t:Attempt)(k:Int):Option (Int ⊕ Int):=
 (
 bif decide (k<(t.s.Jj.length:Int))then
  (Ka k t.s.Jj.length).bind λi=>
  (t.s.Jj[i]?).bind λx1=>
  some (decide (x1.Node<t.n.Id))
 else
  some false).bind λq=>
 bif q then
 some (.inl (I8 (k+1)))
 else
 some (.inr k)
def eG(t:Attempt)(Lc:Int)(prio:Int):Option (Bool×Attempt):=
 (kn t.s.Jj (λa'=>fS a'.1 Lc prio)).bind λx=>
 bif x then
 some (false,t)
 else
 (loop (jd t) 0).bind λk1=>
 (mL t.s.Jj k1 [(⟨t.n.Id,Lc,prio⟩:Slot)]).bind λx2=>
 some (true,(⟨⟨⟨t.s.I6.I7,t.s.I6.IX⟩,t.s.Jb,t.s.IY,t.s.IW,x2,t.s.Ji,t.s.Now,t.s.Jq,t.s.Seq⟩,⟨t.n.Id,t.n.I_,t.n.KF,⟨t.n.Cap.Mem,t.n.Cap.IZ⟩,t.n.Kz,t.n.J6,t.n.Up⟩,⟨t.free.Mem,t.free.IZ⟩⟩:Attempt))
def adx:Spec fam:=⟨[pp,ge,ge],[gt],λa=>eG a.1 a.2.1 a.2.2.1⟩
def bQ(first:Bool)(may:(Jk fam [.st 5,.st 4]→Option Bool))(x2:Int)(x5:List Ask)(t3:Attempt×Cont×App×Int):Option ((Attempt×Cont×App×Int) ⊕ ((Attempt×Int×Cont) ⊕ (Attempt×Cont))):=
 bif decide (t3.2.2.2<(x5.length:Int))then
 (
  (Ka t3.2.2.2 x5.length).bind λi1=>
  (x5[i1]?).bind λx6=>
  (fg t3.1 t3.2.2.1 x6).bind λdue=>
  (
  (dQ t3.1 x6).bind λx7=>
  bif ! x7 then
   some true
  else
   bif first then
   some (! due)
   else
   some false).bind λq=>
  bif q then
  some (.inl (t3.1,t3.2.1,t3.2.2.1))
  else
  (may (x6,t3.1.n,())).bind λr=>
  bif ! r then
   bif first == due then
   (eK t3.1 t3.2.2.1 x6.Jt).bind λx8=>
   some (.inl (x8.2,t3.2.1,x8.1))
   else
   some (.inl (t3.1,t3.2.1,t3.2.2.1))
  else
   (eI t3.1 t3.2.2.1 x6).bind λx9=>
   bif ! x9 then
   some (.inl (t3.1,t3.2.1,t3.2.2.1))
   else
   (eM t3.1 x6).bind λx10=>
   bif x10 then
    (cv t3.1 t3.2.2.1 x6).bind λM_=>
    some (.inr (M_.2,1,M_.1))
   else
    (
    bif first then
     (eG t3.1 x2 x6.Jt).bind λOo=>
     some (Oo.2,Oo.1)
    else
     some (t3.1,false)).bind λq1=>
    bif q1.2 then
    some (.inr (q1.1,2,(⟨0,0,0,⟨0,0⟩,0,0,false,0⟩:Cont)))
    else
    some (.inl (q1.1,t3.2.1,t3.2.2.1)):Option ((Attempt×Cont×App) ⊕ (Attempt×Int×Cont))).bind λq0=>
 match q0 with
 | .inl q2=>
  some (.inl (q2.1,q2.2.1,q2.2.2,I8 (t3.2.2.2+1)))
 | .inr q3=>
  some (.inr (.inl (q3.1,q3.2.1,q3.2.2)))
 else
 some (.inr (.inr (t3.1,t3.2.1)))
def bP(first:Bool)(may:(Jk fam [.st 5,.st 4]→Option Bool))(x1:List Int)(t2:Attempt×Cont×Int):Option ((Attempt×Cont×Int) ⊕ ((Attempt×Int×Cont) ⊕ (Attempt×Cont) ⊕ (Attempt×Cont))):=
 bif decide (t2.2.2<(x1.length:Int))then
 (
  (Ka t2.2.2 x1.length).bind λi=>
  (x1[i]?).bind λx2=>
  (de t2.1.s x2).bind λx3=>
  bif ! x3.2 then
  some (.inr (.inr (t2.1,t2.2.1)))
  else
  (eD t2.1 x3.1).bind λx4=>
  bif ! x4 then
   some (.inl (t2.1,t2.2.1))
  else
   (lq x3.1.Ju).bind λx5=>
   (loop (bQ first may x2 x5) (t2.1,t2.2.1,x3.1,0)).bind λq0=>
   match q0 with
   | .inl q4=>
   some (.inr (.inl (q4.1,q4.2.1,q4.2.2)))
   | .inr q5=>
   some (.inl (q5.1,q5.2)):Option ((Attempt×Cont) ⊕ (Attempt×Int×Cont) ⊕ (Attempt×Cont))).bind λq0=>
 match q0 with
 | .inl q6=>
  some (.inl (q6.1,q6.2,I8 (t2.2.2+1)))
 | .inr (.inl q7)=>
  some (.inr (.inl (q7.1,q7.2.1,q7.2.2)))
 | .inr (.inr q8)=>
  some (.inr (.inr (.inl (q8.1,q8.2))))
 else
 some (.inr (.inr (.inr (t2.1,t2.2.1))))
def cK(leaves:List (List UInt8))(first:Bool)(may:(Jk fam [.st 5,.st 4]→Option Bool))(t1:Attempt×Cont×Int):Option ((Attempt×Cont×Int) ⊕ ((Attempt×Int×Cont) ⊕ (Attempt×Cont))):=
 bif decide (t1.2.2<(leaves.length:Int))then
 (
  (idx leaves t1.2.2).bind λx=>
  (ni t1.1.s x).bind λx1=>
  (loop (bP first may x1) (t1.1,t1.2.1,0)).bind λq0=>
  match q0 with
  | .inl q9=>
  some (.inr (q9.1,q9.2.1,q9.2.2))
  | .inr (.inl q10)=>
  some (.inl (q10.1,q10.2))
  | .inr (.inr q11)=>
  some (.inl (q11.1,q11.2)):Option ((Attempt×Cont) ⊕ (Attempt×Int×Cont))).bind λq0=>
 match q0 with
 | .inl q12=>
  some (.inl (q12.1,q12.2,I8 (t1.2.2+1)))
 | .inr q13=>
  some (.inr (.inl (q13.1,q13.2.1,q13.2.2)))
 else
 some (.inr (.inr (t1.1,t1.2.1)))
def cE(t:Attempt)(leaves:List (List UInt8))(first:Bool)(may:(Jk fam [.st 5,.st 4]→Option Bool)):Option (Int×Cont×Attempt):=
 (loop (cK leaves first may) (t,(⟨0,0,0,⟨0,0⟩,0,0,false,0⟩:Cont),0)).bind λq0=>
 match q0 with
 | .inl q14=>
 some (q14.2.1,q14.2.2,q14.1)
 | .inr q15=>
 some (0,(⟨0,0,0,⟨0,0⟩,0,0,false,0⟩:Cont),q15.1)
def adY:Spec fam:=⟨[pp,QA,gt,.fn [.st 5,.st 4] .bool],[ge,QI],λa=>cE a.1 a.2.1 a.2.2.1 a.2.2.2.1⟩
def dv(t:Attempt):Option (Int×Cont×Attempt):=
 (nZ t.s t.n.I_).bind λleaves=>
 (cE t leaves true (λa'=>my a'.1 a'.2.1)).bind λx=>
 bif x.1 != 0 then
 some (x.1,x.2.1,x.2.2)
 else
 (cE x.2.2 leaves false (λa'=>my a'.1 a'.2.1)).bind λx1=>
 some (x1.1,x1.2.1,x1.2.2)
def aeA:Spec fam:=⟨[pp],[ge,QI],λa=>dv a.1⟩
def nh(s:GN)(node:Int):Option (GN×Int×Cont):=
 (bj s []).bind λx=>
 (fu s node).bind λx1=>
 (
 bif ! x1.2 then
  some true
 else
  bif ! x1.1.Up then
  some true
  else
  bif decide ((s.IW.length:Int)≥200)then
   some true
  else
   some (decide (s.Seq≥1048575))).bind λq=>
 bif q then
 some (x,0,(⟨0,0,0,⟨0,0⟩,0,0,false,0⟩:Cont))
 else
 (m_ s node).bind λx2=>
 (eF (⟨⟨⟨x.I6.I7,x.I6.IX⟩,x.Jb,x.IY,x.IW,x.Jj,x.Ji,x.Now,x.Jq,x.Seq⟩,⟨x1.1.Id,x1.1.I_,x1.1.KF,⟨x1.1.Cap.Mem,x1.1.Cap.IZ⟩,x1.1.Kz,x1.1.J6,x1.1.Up⟩,⟨x2.Mem,x2.IZ⟩⟩:Attempt)).bind λx3=>
 (
  bif ! x3.2.2.1 then
  (dv x3.2.2.2).bind λx4=>
  some (x4.1,x4.2.1,x4.2.2)
  else
  some (x3.1,x3.2.1,x3.2.2.2)).bind λq1=>
 (bj q1.2.2.s []).bind λx5=>
 some (x5,q1.1,q1.2.1)
def ae9:Spec fam:=⟨[f9,ge],[QJ,ge,QI],λa=>nh a.1 a.2.1⟩
def pN(node:Int)(t:GN×List Cont):Option ((GN×List Cont) ⊕ ((GN×List Cont))):=
 bif decide ((t.2.length:Int)<3)then
 (nh t.1 node).bind λx1=>
 bif x1.2.1 != 1 then
  some (.inr (x1.1,t.2))
 else
  (app 72 t.2 [x1.2.2]).bind λl=>
  some (.inl (x1.1,l))
 else
 some (.inr (t.1,t.2))
def lI(s:GN)(node:Int):Option (GN×List Cont):=
 (bj s []).bind λx=>
 (loop (pN node) (x,[])).bind λq=>
 some (q.1,q.2)
def afV:Spec fam:=⟨[f9,ge],[QJ,QU],λa=>lI a.1 a.2.1⟩
def fL(t:Step):Option (Output×Step):=
 (fu t.s t.x.Id).bind λx=>
 (
 bif x.2 then
  bif x.1.Up then
  some (t.x.J6 == x.1.J6)
  else
  some false
 else
  some false).bind λq=>
 bif q then
 (dq t x.1.Id).bind λx1=>
 some ((⟨0,[],x1,[],0⟩:Output),t)
 else
 (m0 t.s t.x.Id t.x.J6).bind λx2=>
 bif x2.2 != 0 then
  (aO x2.2).bind λx3=>
  some (x3,t)
 else
  (dq t x.1.Id).bind λx4=>
  (bS t.x.Ids).bind λx5=>
  (bn x5 (λa'=>eJ a'.1 x4)).bind λended=>
  (bj x2.1 ended).bind λx6=>
  (lI x6 x.1.Id).bind λx7=>
  (dq (⟨⟨⟨x7.1.I6.I7,x7.1.I6.IX⟩,x7.1.Jb,x7.1.IY,x7.1.IW,x7.1.Jj,x7.1.Ji,x7.1.Now,x7.1.Jq,x7.1.Seq⟩,⟨t.x.Kind,t.x.Id,t.x.J6,t.x.N,t.x.Text,⟨t.x.Node.Id,t.x.Node.I_,t.x.Node.KF,⟨t.x.Node.Cap.Mem,t.x.Node.Cap.IZ⟩,t.x.Node.Kz,t.x.Node.J6,t.x.Node.Up⟩,⟨t.x.App.Id,t.x.App.GN,t.x.App.I4,t.x.App.User,t.x.App.Jt,⟨t.x.App.I5.Mem,t.x.App.I5.IZ⟩,t.x.App.Ju,t.x.App.Kz,t.x.App.J6,t.x.App.Ke,t.x.App.KE,t.x.App.Told,t.x.App.Lg⟩,t.x.Ju,t.x.Ids,⟨t.x.Jd.Id,t.x.Jd.I_,t.x.Jd.From,t.x.Jd.Until,⟨t.x.Jd.Need.Mem,t.x.Jd.Need.IZ⟩⟩⟩⟩:Step) x.1.Id).bind λx8=>
  some ((⟨0,[],x8,[],0⟩:Output),(⟨⟨⟨x7.1.I6.I7,x7.1.I6.IX⟩,x7.1.Jb,x7.1.IY,x7.1.IW,x7.1.Jj,x7.1.Ji,x7.1.Now,x7.1.Jq,x7.1.Seq⟩,⟨t.x.Kind,t.x.Id,t.x.J6,t.x.N,t.x.Text,⟨t.x.Node.Id,t.x.Node.I_,t.x.Node.KF,⟨t.x.Node.Cap.Mem,t.x.Node.Cap.IZ⟩,t.x.Node.Kz,t.x.Node.J6,t.x.Node.Up⟩,⟨t.x.App.Id,t.x.App.GN,t.x.App.I4,t.x.App.User,t.x.App.Jt,⟨t.x.App.I5.Mem,t.x.App.I5.IZ⟩,t.x.App.Ju,t.x.App.Kz,t.x.App.J6,t.x.App.Ke,t.x.App.KE,t.x.App.Told,t.x.App.Lg⟩,t.x.Ju,t.x.Ids,⟨t.x.Jd.Id,t.x.Jd.I_,t.x.Jd.From,t.x.Jd.Until,⟨t.x.Jd.Need.Mem,t.x.Jd.Need.IZ⟩⟩⟩⟩:Step))
def alN:Spec fam:=⟨[QH],[QN],λa=>fL a.1⟩
def d8(n:Int)(least:Int)(most:Int):Option Bool:=
 bif decide (n≥least)then
 some (decide (n≤most))
 else
 some false
def afU:Spec fam:=⟨[ge,ge,ge],[gt],λa=>d8 a.1 a.2.1 a.2.2.1⟩
def ig(l:List App)(t:Int×Int):Option ((Int×Int) ⊕ Int):=
 bif decide (t.2<(l.length:Int))then
 (
  (idx l t.2).bind λx=>
  (cf x).bind λx1=>
  bif x1 then
  some (I8 (t.1+1))
  else
  some t.1).bind λn=>
 some (.inl (n,I8 (t.2+1)))
 else
 some (.inr t.1)
def pb(l:List App):Option Int:=
 (loop (ig l) (0,0)).bind λn1=>
 some n1
def afT:Spec fam:=⟨[Qa],[ge],λa=>pb a.1⟩
def oS(a:App):Option Bool:=
 (cf a).bind λx=>
 some (! x)
def afS:Spec fam:=⟨[QP],[gt],λa=>oS a.1⟩
def nU(s:List App)(i:Int)(j:Int):Option (List App):=del s i j
def afR:Spec fam:=⟨[QR,ge,ge],[QR],λa=>nU a.1 a.2.1 a.2.2.1⟩
def lW(s:GN)(a:App):Option (GN×Int):=
 (gw s).bind λx=>
 (
 (d8 a.Id 0 9999).bind λx1=>
 bif ! x1 then
  some true
 else
  (d8 a.User 0 99).bind λx2=>
  bif ! x2 then
  some true
  else
  (d8 a.Jt 0 9).bind λx3=>
  bif ! x3 then
   some true
  else
   (d8 a.I5.Mem 1 1073741824).bind λx4=>
   bif ! x4 then
   some true
   else
   (d8 a.I5.IZ 1 1073741824).bind λx5=>
   some (! x5)).bind λq=>
 bif q then
 some (x,1)
 else
 (jO x a.Id).bind λx6=>
 bif decide (x6≥0)then
  some (x,7)
 else
  (pb x.IY).bind λx7=>
  bif decide (x7≥16)then
  some (x,4)
  else
  (jG x.I6 a.I4).bind λx8=>
  bif ! x8 then
   some (x,19)
  else
   (
   (iY x.IY (λa'=>oS a'.1)).bind λk=>
   (
    bif decide ((x.IY.length:Int)≥16)then
    some (decide (k≥0))
    else
    some false).bind λq1=>
   bif q1 then
    (nU x.IY k (I8 (k+1))).bind λx9=>
    some (⟨⟨x.I6.I7,x.I6.IX⟩,x.Jb,x9,x.IW,x.Jj,x.Ji,x.Now,x.Jq,x.Seq⟩:GN)
   else
    some x).bind λs1=>
   (kf (⟨a.Id,1,a.I4,a.User,a.Jt,⟨a.I5.Mem,a.I5.IZ⟩,[],s1.Now,0,[],[],[],[]⟩:App)).bind λx10=>
   (nK s1 (⟨a.Id,1,a.I4,a.User,a.Jt,⟨a.I5.Mem,a.I5.IZ⟩,x10,s1.Now,0,[],[],[],[]⟩:App)).bind λM_=>
   some (M_,0)
def alM:Spec fam:=⟨[f9,QP],[QF,ge],λa=>lW a.1 a.2.1⟩
def dt(t:Step)(x:Int)(t2:List Cont×Int):Option ((List Cont×Int) ⊕ List Cont):=
 bif decide (t2.2<(t.s.IW.length:Int))then
 (
  (idx t.s.IW t2.2).bind λx1=>
  bif x1.Id == x then
  (app 72 t2.1 [x1]).bind λl=>
  some l
  else
  some t2.1).bind λout=>
 some (.inl (out,I8 (t2.2+1)))
 else
 some (.inr t2.1)
def dn(t:Step)(ids:List Int)(t1:List Cont×Int):Option ((List Cont×Int) ⊕ List Cont):=
 bif decide (t1.2<(ids.length:Int))then
 (idx ids t1.2).bind λx=>
 (loop (dt t x) (t1.1,0)).bind λLG=>
 some (.inl (LG,I8 (t1.2+1)))
 else
 some (.inr t1.1)
def ce(t:Step)(ids:List Int):Option (List Cont):=
 (loop (dn t ids) ([],0)).bind λU_=>
 some U_
def afP:Spec fam:=⟨[.rp (.st 19),QQ],[QU],λa=>ce a.1 a.2.1⟩
def oP(t:Step)(Tf:Int)(t1:List Int×Int):Option ((List Int×Int) ⊕ List Int):=
 bif decide (t1.2<(t.s.IW.length:Int))then
 (
  (idx t.s.IW t1.2).bind λx=>
  (
  bif x.App == Tf then
   some (x.L_ != 0)
  else
   some false).bind λq=>
  bif q then
  (app 8 t1.1 [x.Id]).bind λl=>
  some l
  else
  some t1.1).bind λout=>
 some (.inl (out,I8 (t1.2+1)))
 else
 some (.inr t1.1)
def dO(t:Step)(Tf:Int):Option (List Int):=
 (loop (oP t Tf) ([],0)).bind λLG=>
 some LG
def afO:Spec fam:=⟨[.rp (.st 19),ge],[f0],λa=>dO a.1 a.2.1⟩
def bf(s:List Int)(f:(Jk fam [.int .i64]→Option Bool)):Option Bool:=
 (bW s f).bind λx=>
 some (decide (x≥0))
def aez:Spec fam:=⟨[QQ,.fn [.int .i64] .bool],[gt],λa=>bf a.1 a.2.1⟩
def qD(n:Int)(p:Int)(p1:Int):Option Bool:=
 bif decide (n<p)then
 some true
 else
 some (decide (n>p1))
def aey:Spec fam:=⟨[ge,.rp (.int .i64),.rp (.int .i64)],[gt],λa=>qD a.1 a.2.1 a.2.2.1⟩
def ew(least:Int)(most:Int)(l:List Int):Option Bool:=
 (bf l (λa'=>qD a'.1 least most)).bind λx=>
 some (! x)
def ae7:Spec fam:=⟨[ge,ge,QQ],[gt],λa=>ew a.1 a.2.1 a.2.2.1⟩
def mX(a:Ask)(labels:Int):Option Int:=
 (
 (ew 0 9 [a.Jt]).bind λx=>
 bif ! x then
  some true
 else
  (ew 0 (I8 (labels - 1)) [a.I_]).bind λx1=>
  bif ! x1 then
  some true
  else
  (ew 1 1073741824 [a.Kj.Mem,a.Kj.IZ]).bind λx2=>
  bif ! x2 then
   some true
  else
   (ew (-1) 999 [a.Node]).bind λx3=>
   bif ! x3 then
   some true
   else
   (ew (-1) 99 [a.KF]).bind λx4=>
   bif ! x4 then
    some true
   else
    bif a.Node != (-1)then
    some (a.KF == (-1))
    else
    some false).bind λq=>
 bif q then
 some 1
 else
 (ew 0 50 [a.KC]).bind λx5=>
 bif ! x5 then
  some 4
 else
  some 0
def afN:Spec fam:=⟨[Q3,ge],[ge],λa=>mX a.1 a.2.1⟩
def gP(c:Cont)(p:Int)(p1:App):Option Bool:=
 bif c.Id == p then
 bif c.App == p1.Id then
  some (! c.I5)
 else
  some false
 else
 some false
def ae2:Spec fam:=⟨[QI,.rp (.int .i64),.rp (.st 6)],[gt],λa=>gP a.1 a.2.1 a.2.2.1⟩
def kP(g:Int)(p:Int):Option Bool:=
 some (g == p)
def ae1:Spec fam:=⟨[ge,.rp (.int .i64)],[gt],λa=>kP a.1 a.2.1⟩
def dS(ids:List Int)(t1:Step×App×Int):Option ((Step×App×Int) ⊕ ((Step×App))):=
 bif decide (t1.2.2<(ids.length:Int))then
 (
  (idx ids t1.2.2).bind λx=>
  (er t1.1.s.IW (λa'=>gP a'.1 x t1.2.1)).bind λi=>
  bif decide (i≥0)then
  (gY t1.1.s.IW i (I8 (i+1))).bind λx1=>
  (bn t1.2.1.Ke (λa'=>kP a'.1 x)).bind λx2=>
  some ((⟨⟨⟨t1.1.s.I6.I7,t1.1.s.I6.IX⟩,t1.1.s.Jb,t1.1.s.IY,x1,t1.1.s.Jj,t1.1.s.Ji,t1.1.s.Now,t1.1.s.Jq,t1.1.s.Seq⟩,⟨t1.1.x.Kind,t1.1.x.Id,t1.1.x.J6,t1.1.x.N,t1.1.x.Text,⟨t1.1.x.Node.Id,t1.1.x.Node.I_,t1.1.x.Node.KF,⟨t1.1.x.Node.Cap.Mem,t1.1.x.Node.Cap.IZ⟩,t1.1.x.Node.Kz,t1.1.x.Node.J6,t1.1.x.Node.Up⟩,⟨t1.1.x.App.Id,t1.1.x.App.GN,t1.1.x.App.I4,t1.1.x.App.User,t1.1.x.App.Jt,⟨t1.1.x.App.I5.Mem,t1.1.x.App.I5.IZ⟩,t1.1.x.App.Ju,t1.1.x.App.Kz,t1.1.x.App.J6,t1.1.x.App.Ke,t1.1.x.App.KE,t1.1.x.App.Told,t1.1.x.App.Lg⟩,t1.1.x.Ju,t1.1.x.Ids,⟨t1.1.x.Jd.Id,t1.1.x.Jd.I_,t1.1.x.Jd.From,t1.1.x.Jd.Until,⟨t1.1.x.Jd.Need.Mem,t1.1.x.Jd.Need.IZ⟩⟩⟩⟩:Step),(⟨t1.2.1.Id,t1.2.1.GN,t1.2.1.I4,t1.2.1.User,t1.2.1.Jt,⟨t1.2.1.I5.Mem,t1.2.1.I5.IZ⟩,t1.2.1.Ju,t1.2.1.Kz,t1.2.1.J6,x2,t1.2.1.KE,t1.2.1.Told,t1.2.1.Lg⟩:App))
  else
  some (t1.1,t1.2.1)).bind λq=>
 some (.inl (q.1,q.2,I8 (t1.2.2+1)))
 else
 some (.inr (t1.1,t1.2.1))
def iT(t:Step)(a:App)(ids:List Int):Option (App×Step):=
 (loop (dS ids) (t,a,0)).bind λq1=>
 some (q1.2,q1.1)
def afL:Spec fam:=⟨[QL,Q7,QQ],[Q7],λa=>iT a.1 a.2.1 a.2.2.1⟩
def cV(t:Step)(t1:Output×App×Int):Option ((Output×App×Int) ⊕ (Output ⊕ (Output×App))):=
 bif decide (t1.2.2<(t.x.Ju.length:Int))then
 (idx t.x.Ju t1.2.2).bind λx7=>
 (mX x7 (t.s.I6.I7.length:Int)).bind λe=>
 (
  bif e == 0 then
  (lw t1.2.1.Ju x7).bind λx8=>
  some ((⟨t1.2.1.Id,t1.2.1.GN,t1.2.1.I4,t1.2.1.User,t1.2.1.Jt,⟨t1.2.1.I5.Mem,t1.2.1.I5.IZ⟩,x8.1,t1.2.1.Kz,t1.2.1.J6,t1.2.1.Ke,t1.2.1.KE,t1.2.1.Told,t1.2.1.Lg⟩:App),x8.2)
  else
  some (t1.2.1,e)).bind λq=>
 bif q.2 != 0 then
  (aO q.2).bind λx9=>
  some (.inr (.inl x9))
 else
  some (.inl (t1.1,q.1,I8 (t1.2.2+1)))
 else
 some (.inr (.inr (t1.1,t1.2.1)))
def eH(t:Step):Option (Output×Step):=
 (de t.s t.x.Id).bind λx=>
 bif ! x.2 then
 (aO 2).bind λx1=>
 some (x1,t)
 else
 bif x.1.GN != 2 then
  (aO 14).bind λx2=>
  some (x2,t)
 else
  bif decide (t.x.J6<x.1.J6)then
  (aO 15).bind λx3=>
  some (x3,t)
  else
  bif decide ((I8 (t.x.J6 - x.1.J6))>1)then
   (aO 1).bind λx4=>
   some (x4,t)
  else
   bif t.x.J6 == x.1.J6 then
   (ce t x.1.Told).bind λx5=>
   (dO t x.1.Id).bind λx6=>
   some ((⟨0,x5,x6,x.1.Lg,0⟩:Output),t)
   else
   (loop (cV t) ((⟨0,[],[],[],0⟩:Output),x.1,0)).bind λq0=>
   match q0 with
   | .inl q1=>
    some (q1,t)
   | .inr q2=>
    (iT t q2.2 t.x.Ids).bind λx10=>
    (ce x10.2 x10.1.Ke).bind λM_=>
    (dO x10.2 x10.1.Id).bind λOo=>
    (bS x10.1.KE).bind λPO=>
    (kU x10.2.s (⟨x10.1.Id,x10.1.GN,x10.1.I4,x10.1.User,x10.1.Jt,⟨x10.1.I5.Mem,x10.1.I5.IZ⟩,x10.1.Ju,x10.2.s.Now,I8 (x10.1.J6+1),[],[],x10.1.Ke,x10.1.KE⟩:App)).bind λN_=>
    some ((⟨0,M_,Oo,PO,0⟩:Output),(⟨⟨⟨N_.I6.I7,N_.I6.IX⟩,N_.Jb,N_.IY,N_.IW,N_.Jj,N_.Ji,N_.Now,N_.Jq,N_.Seq⟩,⟨x10.2.x.Kind,x10.2.x.Id,x10.2.x.J6,x10.2.x.N,x10.2.x.Text,⟨x10.2.x.Node.Id,x10.2.x.Node.I_,x10.2.x.Node.KF,⟨x10.2.x.Node.Cap.Mem,x10.2.x.Node.Cap.IZ⟩,x10.2.x.Node.Kz,x10.2.x.Node.J6,x10.2.x.Node.Up⟩,⟨x10.2.x.App.Id,x10.2.x.App.GN,x10.2.x.App.I4,x10.2.x.App.User,x10.2.x.App.Jt,⟨x10.2.x.App.I5.Mem,x10.2.x.App.I5.IZ⟩,x10.2.x.App.Ju,x10.2.x.App.Kz,x10.2.x.App.J6,x10.2.x.App.Ke,x10.2.x.App.KE,x10.2.x.App.Told,x10.2.x.App.Lg⟩,x10.2.x.Ju,x10.2.x.Ids,⟨x10.2.x.Jd.Id,x10.2.x.Jd.I_,x10.2.x.Jd.From,x10.2.x.Jd.Until,⟨x10.2.x.Jd.Need.Mem,x10.2.x.Jd.Need.IZ⟩⟩⟩⟩:Step))
def alL:Spec fam:=⟨[QH],[QN],λa=>eH a.1⟩
def qI(s:GN)(Lc:Int)(state:Int):Option (GN×List Int):=
 (gw s).bind λx=>
 (jO x Lc).bind λi=>
 (
 bif decide (i<0)then
  some true
 else
  (Ka i x.IY.length).bind λi1=>
  (x.IY[i1]?).bind λx1=>
  (cf x1).bind λx2=>
  some (! x2)).bind λq=>
 bif q then
 some (x,[])
 else
 (Ka i x.IY.length).bind λi2=>
 (x.IY[i2]?).bind λx3=>
 (Ka i x.IY.length).bind λi3=>
 (x.IY[i3]?).bind λx4=>
 (oL (⟨⟨x.I6.I7,x.I6.IX⟩,x.Jb,List.set x.IY i3 (⟨x3.Id,state,x3.I4,x3.User,x3.Jt,⟨x3.I5.Mem,x3.I5.IZ⟩,[],x3.Kz,x3.J6,[],[],[],[]⟩:App),x.IW,x.Jj,x.Ji,x.Now,x.Jq,x.Seq⟩:GN) Lc).bind λx5=>
 some (x5.1,x5.2)
def afJ:Spec fam:=⟨[f9,ge,ge],[QF,f0],λa=>qI a.1 a.2.1 a.2.2.1⟩
def ep(t:Step)(state:Int):Option (Output×Step):=
 (de t.s t.x.Id).bind λx=>
 bif ! x.2 then
 (aO 2).bind λx1=>
 some (x1,t)
 else
 (cf x.1).bind λx2=>
 bif ! x2 then
  (aO 14).bind λx3=>
  some (x3,t)
 else
  (qI t.s x.1.Id state).bind λx4=>
  some ((⟨0,[],[],x4.2,0⟩:Output),(⟨⟨⟨x4.1.I6.I7,x4.1.I6.IX⟩,x4.1.Jb,x4.1.IY,x4.1.IW,x4.1.Jj,x4.1.Ji,x4.1.Now,x4.1.Jq,x4.1.Seq⟩,⟨t.x.Kind,t.x.Id,t.x.J6,t.x.N,t.x.Text,⟨t.x.Node.Id,t.x.Node.I_,t.x.Node.KF,⟨t.x.Node.Cap.Mem,t.x.Node.Cap.IZ⟩,t.x.Node.Kz,t.x.Node.J6,t.x.Node.Up⟩,⟨t.x.App.Id,t.x.App.GN,t.x.App.I4,t.x.App.User,t.x.App.Jt,⟨t.x.App.I5.Mem,t.x.App.I5.IZ⟩,t.x.App.Ju,t.x.App.Kz,t.x.App.J6,t.x.App.Ke,t.x.App.KE,t.x.App.Told,t.x.App.Lg⟩,t.x.Ju,t.x.Ids,⟨t.x.Jd.Id,t.x.Jd.I_,t.x.Jd.From,t.x.Jd.Until,⟨t.x.Jd.Need.Mem,t.x.Jd.Need.IZ⟩⟩⟩⟩:Step))
def alK:Spec fam:=⟨[QH,ge],[QN],λa=>ep a.1 a.2.1⟩
def uO(s:GN)(t:List Int×Int):Option ((List Int×Int) ⊕ List Int):=
 bif decide (t.2<(s.Jb.length:Int))then
 (
  (idx s.Jb t.2).bind λx=>
  (
  bif x.Up then
   some (decide ((I8 (s.Now - x.Kz))≥10))
  else
   some false).bind λq=>
  bif q then
  (app 8 t.1 [x.Id]).bind λl=>
  some l
  else
  some t.1).bind λout=>
 some (.inl (out,I8 (t.2+1)))
 else
 some (.inr t.1)
def om(s:GN):Option (List Int):=
 (loop (uO s) ([],0)).bind λLG=>
 some LG
def afI:Spec fam:=⟨[f9],[f0],λa=>om a.1⟩
def kO(x:Slot)(p:Int):Option Bool:=
 some (x.Node == p)
def ae0:Spec fam:=⟨[Qs,.rp (.int .i64)],[gt],λa=>kO a.1 a.2.1⟩
def dK(t:Step)(Lc:Int)(t1:List Node×Int):Option ((List Node×Int) ⊕ List Node):=
 bif decide (t1.2<(t.s.Jb.length:Int))then
 (
  (Ka t1.2 t1.1.length).bind λi=>
  (t1.1[i]?).bind λx=>
  bif x.Id == Lc then
  (Ka t1.2 t1.1.length).bind λi1=>
  (t1.1[i1]?).bind λx1=>
  some (List.set t1.1 i1 (⟨x1.Id,x1.I_,x1.KF,⟨x1.Cap.Mem,x1.Cap.IZ⟩,x1.Kz,x1.J6,false⟩:Node))
  else
  some t1.1).bind λq=>
 some (.inl (q,I8 (t1.2+1)))
 else
 some (.inr t1.1)
def fQ(t:Step)(Lc:Int):Option Step:=
 (dq t Lc).bind λhere=>
 (loop (dK t Lc) (t.s.Jb,0)).bind λq1=>
 (eW t.s.Jj (λa'=>kO a'.1 Lc)).bind λx2=>
 (bj (⟨⟨t.s.I6.I7,t.s.I6.IX⟩,q1,t.s.IY,t.s.IW,x2,t.s.Ji,t.s.Now,t.s.Jq,t.s.Seq⟩:GN) here).bind λx3=>
 some (⟨⟨⟨x3.I6.I7,x3.I6.IX⟩,x3.Jb,x3.IY,x3.IW,x3.Jj,x3.Ji,x3.Now,x3.Jq,x3.Seq⟩,⟨t.x.Kind,t.x.Id,t.x.J6,t.x.N,t.x.Text,⟨t.x.Node.Id,t.x.Node.I_,t.x.Node.KF,⟨t.x.Node.Cap.Mem,t.x.Node.Cap.IZ⟩,t.x.Node.Kz,t.x.Node.J6,t.x.Node.Up⟩,⟨t.x.App.Id,t.x.App.GN,t.x.App.I4,t.x.App.User,t.x.App.Jt,⟨t.x.App.I5.Mem,t.x.App.I5.IZ⟩,t.x.App.Ju,t.x.App.Kz,t.x.App.J6,t.x.App.Ke,t.x.App.KE,t.x.App.Told,t.x.App.Lg⟩,t.x.Ju,t.x.Ids,⟨t.x.Jd.Id,t.x.Jd.I_,t.x.Jd.From,t.x.Jd.Until,⟨t.x.Jd.Need.Mem,t.x.Jd.Need.IZ⟩⟩⟩⟩:Step)
def afH:Spec fam:=⟨[QL,ge],[],λa=>fQ a.1 a.2.1⟩
def iz(s:GN)(t:List Kk×List Int×Int):Option ((List Kk×List Int×Int) ⊕ List Int):=
 bif decide (t.2.2<(s.IY.length:Int))then
 (
  (idx s.IY t.2.2).bind λx=>
  let e:=Lp (λx1=>x.Id == x1.k) t.1 (⟨x.Id,0⟩:Kk)
  (
  bif x.GN == 2 then
   let e1:=Lp (λx3=>x.Id == x3.k) (Ll (λx2=>x.Id == x2.k) t.1 (⟨x.Id,I8 (e.v+1)⟩:Kk)) (⟨x.Id,0⟩:Kk)
   bif e1.v == 1 then
   some (decide ((I8 (s.Now - x.Kz))≥15))
   else
   some false
  else
   some false).bind λq=>
  bif q then
  (app 8 t.2.1 [x.Id]).bind λl=>
  some (Ll (λx2=>x.Id == x2.k) t.1 (⟨x.Id,I8 (e.v+1)⟩:Kk),l)
  else
  some (Ll (λx2=>x.Id == x2.k) t.1 (⟨x.Id,I8 (e.v+1)⟩:Kk),t.2.1)).bind λq1=>
 some (.inl (q1.1,q1.2,I8 (t.2.2+1)))
 else
 some (.inr t.2.1)
def lX(s:GN):Option (List Int):=
 (loop (iz s) ([],[],0)).bind λout=>
 some out
def afG:Spec fam:=⟨[f9],[f0],λa=>lX a.1⟩
def oO(t:Step)(Tf:Int)(t1:List Int×Int):Option ((List Int×Int) ⊕ List Int):=
 bif decide (t1.2<(t.s.IW.length:Int))then
 (
  (idx t.s.IW t1.2).bind λx=>
  (
  bif x.App == Tf then
   some x.I5
  else
   some false).bind λq=>
  bif q then
  (app 8 t1.1 [x.Id]).bind λl=>
  some l
  else
  some t1.1).bind λout=>
 some (.inl (out,I8 (t1.2+1)))
 else
 some (.inr t1.1)
def gi(t:Step)(Tf:Int):Option (List Int):=
 (loop (oO t Tf) ([],0)).bind λLG=>
 some LG
def afF:Spec fam:=⟨[.rp (.st 19),ge],[f0],λa=>gi a.1 a.2.1⟩
def nH(s:List Jd)(f:(Jk fam [.st 9]→Option Bool))(t:Int):Option (Int ⊕ (Int ⊕ Unit)):=
 bif decide (t<(s.length:Int))then
 (idx s t).bind λx=>
 (f (x,())).bind λr=>
 bif r then
  some (.inr (.inl t))
 else
  some (.inl (I8 (t+1)))
 else
 some (.inr (.inr ()))
def gG(s:List Jd)(f:(Jk fam [.st 9]→Option Bool)):Option Int:=
 (loop (nH s f) 0).bind λq0=>
 match q0 with
 | .inl q=>
 some q
 | .inr _=>
 some (-1)
def afA:Spec fam:=⟨[Q6,.fn [.st 9] .bool],[ge],λa=>gG a.1 a.2.1⟩
def nR(del:(Jk fam [.st 9]→Option Bool))(t:List Jd×Int×Int):Option ((List Jd×Int×Int) ⊕ ((List Jd×Int))):=
 bif decide (t.2.2<(t.1.length:Int))then
 (
  (Ka t.2.2 t.1.length).bind λi1=>
  (t.1[i1]?).bind λx=>
  (del (x,())).bind λr=>
  bif ! r then
  (Ka t.2.1 t.1.length).bind λi2=>
  (t.1[i2]?).bind λx1=>
  some (List.set t.1 i2 x,I8 (t.2.1+1))
  else
  some (t.1,t.2.1)).bind λq=>
 some (.inl (q.1,q.2,I8 (t.2.2+1)))
 else
 some (.inr (t.1,t.2.1))
def jm(s:List Jd)(del:(Jk fam [.st 9]→Option Bool)):Option (List Jd):=
 (gG s del).bind λi=>
 bif i == (-1)then
 some s
 else
 (loop (nR del) (s,i,I8 (i+1))).bind λq1=>
 (Mj q1.2 (q1.1.length:Int) q1.1.length).bind λp=>
 (Mj 0 q1.2 (LD q1.1 p.1 p.2 (List.replicate p.2 (⟨0,0,0,0,⟨0,0⟩⟩:Jd))).length).bind λp1=>
 some (List.take p1.2 (LD q1.1 p.1 p.2 (List.replicate p.2 (⟨0,0,0,0,⟨0,0⟩⟩:Jd))))
def afE:Spec fam:=⟨[Q9,.fn [.st 9] .bool],[Q9],λa=>jm a.1 a.2.1⟩
def kR(p:Jd)(now:Int):Option Bool:=some (decide (p.Until≤now))
def afD:Spec fam:=⟨[Qk,.pk 7 (.int .i64)],[gt],λa=>kR a.1 a.2.1⟩
def j7(s:List Cont)(f:(Jk fam [.st 7]→Option Bool)):Option Bool:=
 (er s f).bind λx=>
 some (decide (x≥0))
def alq:Spec fam:=⟨[Qf,.fn [.st 7] .bool],[gt],λa=>j7 a.1 a.2.1⟩
def qc(x:Cont)(p:Cont):Option Bool:=
 some (x.Id == p.Id)
def aew:Spec fam:=⟨[QI,.rp (.st 7)],[gt],λa=>qc a.1 a.2.1⟩
def sj(c:Cont)(label:Int)(now:Int):Option Bool:=
 bif c.I_ == label then
 bif c.L_ != 0 then
  some (decide ((I8 (now - c.L_))≥3))
 else
  some false
 else
 some false
def aev:Spec fam:=⟨[QI,ge,ge],[gt],λa=>sj a.1 a.2.1 a.2.2.1⟩
def vn(l:List Ask)(label:Int)(t:Vec×Int):Option ((Vec×Int) ⊕ Vec):=
 bif decide (t.2<(l.length:Int))then
 (
  (idx l t.2).bind λx=>
  (
  bif x.I_ == label then
   (ew 0 1125899906842624 [x.Kj.Mem,x.Kj.IZ]).bind λx1=>
   bif x1 then
   (ew 0 50 [x.KC]).bind λx2=>
   some x2
   else
   some false
  else
   some false).bind λq=>
  bif q then
  some (⟨I8 (t.1.Mem+(I8 (x.Kj.Mem*x.KC))),I8 (t.1.IZ+(I8 (x.Kj.IZ*x.KC)))⟩:Vec)
  else
  some t.1).bind λout=>
 some (.inl (out,I8 (t.2+1)))
 else
 some (.inr t.1)
def ou(l:List Ask)(label:Int):Option Vec:=
 (loop (vn l label) ((⟨0,0⟩:Vec),0)).bind λLG=>
 some LG
def acV:Spec fam:=⟨[Q2,ge],[t7],λa=>ou a.1 a.2.1⟩
def qb(v:View)(t:Vec×Int):Option ((Vec×Int) ⊕ Vec):=
 bif decide (t.2<(v.s.IY.length:Int))then
 (
  (idx v.s.IY t.2).bind λx=>
  (
  (cf x).bind λx1=>
  bif x1 then
   (fZ v x).bind λx2=>
   some x2
  else
   some false).bind λq=>
  bif q then
  (ou x.Ju v.label).bind λx3=>
  (cz t.1 x3).bind λx4=>
  some x4.1
  else
  some t.1).bind λout=>
 some (.inl (out,I8 (t.2+1)))
 else
 some (.inr t.1)
def hP(v:View):Option Vec:=
 (loop (qb v) ((⟨0,0⟩:Vec),0)).bind λLG=>
 some LG
def ac5:Spec fam:=⟨[Qw],[t7],λa=>hP a.1⟩
def gx(s:GN)(Ki:List UInt8)(label:Int):Option Vec:=
 (hP (⟨⟨⟨s.I6.I7,s.I6.IX⟩,s.Jb,s.IY,s.IW,s.Jj,s.Ji,s.Now,s.Jq,s.Seq⟩,Ki,label,(-1)⟩:View)).bind λx=>
 some x
def adu:Spec fam:=⟨[f9,f8,ge],[t7],λa=>gx a.1 a.2.1 a.2.2.1⟩
def gT(l:List Int)(t:Int×Int):Option ((Int×Int) ⊕ Int):=
 bif decide (t.2<(l.length:Int))then
 (idx l t.2).bind λx=>
 some (.inl (Od t.1 x,I8 (t.2+1)))
 else
 some (.inr t.1)
def di(first:Int)(l:List Int):Option Int:=
 (loop (gT l) (first,0)).bind λaaC=>
 some aaC
def acX:Spec fam:=⟨[ge,QQ],[ge],λa=>di a.1 a.2.1⟩
def fp(n:Int):Option Int:=
 (
 bif decide (n<0)then
  some true
 else
  some (decide (n>1125899906842624))).bind λq=>
 bif q then
 some 0
 else
 some n
def acW:Spec fam:=⟨[ge],[ge],λa=>fp a.1⟩
def iA(want:List Int)(most:List Int)(n:Int)(t1:List Int×Int×Int):Option ((List Int×Int×Int) ⊕ List Int):=
 bif decide (t1.2.2<n)then
 (idx want t1.2.2).bind λx9=>
 (fp x9).bind λx10=>
 (idx most t1.2.2).bind λM_=>
 (fp M_).bind λOo=>
 (di x10 [Oo]).bind λPO=>
 (Ka t1.2.2 t1.1.length).bind λi2=>
 (t1.1[i2]?).bind λN_=>
 (di (imax (I8 (PO - N_)) 0) [t1.2.1]).bind λmore=>
 (Ka t1.2.2 t1.1.length).bind λi3=>
 (t1.1[i3]?).bind λSH=>
 (Ka t1.2.2 t1.1.length).bind λi4=>
 (t1.1[i4]?).bind λUM=>
 some (.inl (List.set t1.1 i4 (I8 (SH+more)),I8 (t1.2.1 - more),I8 (t1.2.2+1)))
 else
 some (.inr t1.1)
def iC(least:List Int)(want:List Int)(most:List Int)(n:Int)(t:List Int×Int×Int):Option ((List Int×Int×Int) ⊕ ((List Int×Int))):=
 bif decide (t.2.2<n)then
 (idx least t.2.2).bind λx=>
 (fp x).bind λx1=>
 (idx want t.2.2).bind λx2=>
 (fp x2).bind λx3=>
 (idx most t.2.2).bind λx4=>
 (fp x4).bind λx5=>
 (di x1 [x3,x5,t.2.1]).bind λx6=>
 (Ka t.2.2 t.1.length).bind λi=>
 (t.1[i]?).bind λx7=>
 (Ka t.2.2 (List.set t.1 i x6).length).bind λi1=>
 ((List.set t.1 i x6)[i1]?).bind λx8=>
 some (.inl (List.set t.1 i x6,I8 (t.2.1 - x8),I8 (t.2.2+1)))
 else
 some (.inr (t.1,t.2.1))
def lS(total:Int)(least:List Int)(want:List Int)(most:List Int):Option (List Int):=
 (di (least.length:Int) [(want.length:Int),(most.length:Int)]).bind λn=>
 (PV 8 n n 0).bind λl=>
 (fp total).bind λleft=>
 (loop (iC least want most n) (l,left,0)).bind λq=>
 (loop (iA want most n) (q.1,q.2,0)).bind λout=>
 some out
def ac6:Spec fam:=⟨[ge,QQ,QQ,QQ],[f0],λa=>lS a.1 a.2.1 a.2.2.1 a.2.2.2.1⟩
def gm(s:GN)(label:Int)(deep:Int)(self:GN→(List UInt8)→Int→Int→Int→Option (List LZ))(kids:List (List UInt8))(x5:List Int)(t1:List LZ×Int):Option ((List LZ×Int) ⊕ List LZ):=
 bif decide (t1.2<(x5.length:Int))then
 (Ka t1.2 x5.length).bind λi1=>
 (x5[i1]?).bind λx6=>
 (Ka t1.2 kids.length).bind λi2=>
 (kids[i2]?).bind λx7=>
 (self s x7 label x6 (I8 (deep+1))).bind λx8=>
 (app 24 t1.1 x8).bind λl3=>
 some (.inl (l3,I8 (t1.2+1)))
 else
 some (.inr t1.1)
def gu(s:GN)(label:Int)(kids:List (List UInt8))(t:KY×Int):Option ((KY×Int) ⊕ KY):=
 bif decide (t.2<(kids.length:Int))then
 (Ka t.2 kids.length).bind λi=>
 (kids[i]?).bind λx=>
 (fG s x label).bind λx1=>
 (cU s x label).bind λx2=>
 (gx s x label).bind λx3=>
 (m6 s x label).bind λx4=>
 (Mj t.2 (t.1.r0.length:Int) t.1.r0.length).bind λp=>
 (Mj 0 1 [x1.Mem,I8 (x2.Mem+x3.Mem),x4.Mem].length).bind λp1=>
 (Mj t.2 (t.1.r1.length:Int) t.1.r1.length).bind λp2=>
 (Mj 1 2 [x1.Mem,I8 (x2.Mem+x3.Mem),x4.Mem].length).bind λp3=>
 (Mj t.2 (t.1.r2.length:Int) t.1.r2.length).bind λp4=>
 (Mj 2 3 [x1.Mem,I8 (x2.Mem+x3.Mem),x4.Mem].length).bind λp5=>
 some (.inl ((⟨LD t.1.r0 p.1 p.2 (sub [x1.Mem,I8 (x2.Mem+x3.Mem),x4.Mem] p1.1 p1.2),LD t.1.r1 p2.1 p2.2 (sub [x1.Mem,I8 (x2.Mem+x3.Mem),x4.Mem] p3.1 p3.2),LD t.1.r2 p4.1 p4.2 (sub [x1.Mem,I8 (x2.Mem+x3.Mem),x4.Mem] p5.1 p5.2)⟩:KY),I8 (t.2+1)))
 else
 some (.inr t.1)
def mB(self:GN→(List UInt8)→Int→Int→Int→Option (List LZ))(s:GN)(Ki:List UInt8)(label:Int)(mem:Int)(deep:Int):Option (List LZ):=
 (ii s.I6 Ki).bind λkids=>
 (
 bif(kids.length:Int) == 0 then
  some true
 else
  some (decide (deep>4))).bind λq=>
 bif q then
 some [(⟨Ki,mem⟩:LZ)]
 else
 (PV 8 (kids.length:Int) (kids.length:Int) 0).bind λl=>
 (PV 8 (kids.length:Int) (kids.length:Int) 0).bind λl1=>
 (PV 8 (kids.length:Int) (kids.length:Int) 0).bind λl2=>
 (loop (gu s label kids) ((⟨l,l1,l2⟩:KY),0)).bind λrows=>
 (lS mem rows.r0 rows.r1 rows.r2).bind λx5=>
 (loop (gm s label deep self kids x5) ([],0)).bind λout=>
 some out
def eY:Nat→GN→(List UInt8)→Int→Int→Int→Option (List LZ)
 | 0=>λ_ _ _ _ _=>none
 | n+1=>mB (eY n)
def tA(a0:GN)(a1:List UInt8)(a2:Int)(a3:Int)(a4:Int):Option (List LZ):=eY 64 a0 a1 a2 a3 a4
def aos:Hint:=(JJ (.s .z (.s (.s (.j [25,26,27,28,29,30,31] [(0,[(31,gt)])] .z) .z) (JJ (.s (JJ (.b (.u 4 .z))) (.s (JJ ((JX [(12,.box (.st 22) [5003,0,1,2]),(51,ge)] [12,14,15,16,17,51,52,53,54,55,56,57,58,59,60,61,62,63,64,65,66,67,68,69,70,71,72,73,74,75,76,77,78,79,80,81,82,83,84,85,86,87,88,89,90,91,92,93,94,95,96] [(4,[(12,.box (.st 22) [5003,0,1,2])])] (JJ (.s .z (.s (.b (JJ (.s .z (JJ (.b (.u 4 .z)))))) .z)))))) (JJ (.s (JJ ((JX [(18,Qc),(109,ge)] [18,19,20,109] [(8,[(18,Qc)])] .z))) .z))))))))
def adv:Spec fam:=⟨[f9,f8,ge,ge,ge],[Qc],λa=>tA a.1 a.2.1 a.2.2.1 a.2.2.2.1 a.2.2.2.2.1⟩
def p7(n:Nat):Spec fam:=⟨[.v (.st 10) [],.v .str [],.v (.int .i64) [],.v (.int .i64) [],.v (.int .i64) []],[.v (.slice (.st 15)) [0]],λa=>eY n a.1 a.2.1 a.2.2.1 a.2.2.2.1 a.2.2.2.2.1⟩
def hZ(s:GN)(label:Int):Option (List LZ):=
 (em s label).bind λx=>
 (tA s ([114,111,111,116]:List UInt8) label x.Mem 1).bind λx1=>
 some x1
def adW:Spec fam:=⟨[f9,ge],[Qc],λa=>hZ a.1 a.2.1⟩
def pw(s:List LZ)(f:(Jk fam [.st 15]→Option Bool))(t:Int):Option (Int ⊕ (Int ⊕ Unit)):=
 bif decide (t<(s.length:Int))then
 (idx s t).bind λx=>
 (f (x,())).bind λr=>
 bif r then
  some (.inr (.inl t))
 else
  some (.inl (I8 (t+1)))
 else
 some (.inr (.inr ()))
def nM(s:List LZ)(f:(Jk fam [.st 15]→Option Bool)):Option Int:=
 (loop (pw s f) 0).bind λq0=>
 match q0 with
 | .inl q=>
 some q
 | .inr _=>
 some (-1)
def adV:Spec fam:=⟨[.v (.slice (.st 15)) [],.fn [.st 15] .bool],[ge],λa=>nM a.1 a.2.1⟩
def gV(x:LZ)(p:App):Option Bool:=
 some (x.J_ == p.I4)
def adU:Spec fam:=⟨[.v (.st 15) [],.rp (.st 6)],[gt],λa=>gV a.1 a.2.1⟩
def uz(s:GN)(c:Cont)(t:Int×Int):Option ((Int×Int) ⊕ Int):=
 bif decide (t.2<(s.IW.length:Int))then
 (
  (idx s.IW t.2).bind λx2=>
  (
  bif c.I5 then
   bif x2.App == c.App then
   bif x2.Id != c.Id then
    some (x2.I_ == c.I_)
   else
    some false
   else
   some false
  else
   some false).bind λq=>
  bif q then
  let used:=I8 (t.1 - x2.Kj.Mem)
  some used
  else
  some t.1).bind λacE=>
 some (.inl (acE,I8 (t.2+1)))
 else
 some (.inr t.1)
def jq(s:GN)(c:Cont):Option Bool:=
 (de s c.App).bind λx=>
 (cU s x.1.I4 c.I_).bind λx1=>
 (loop (uz s c) (x1.Mem,0)).bind λacD=>
 (hZ s c.I_).bind λl=>
 (nM l (λa'=>gV a'.1 x.1)).bind λi=>
 bif decide (i≥0)then
 (Ka i l.length).bind λi1=>
 (l[i1]?).bind λx3=>
 some (decide (acD>x3.Mem))
 else
 some false
def aeu:Spec fam:=⟨[f9,QI],[gt],λa=>jq a.1 a.2.1⟩
def kD(label:Int)(x1:Cont)(s1:GN):Option GN:=
 (er s1.IW (λa'=>qc a'.1 x1)).bind λi=>
 (
 bif decide (i<0)then
  some true
 else
  (Ka i s1.IW.length).bind λi1=>
  (s1.IW[i1]?).bind λx2=>
  (sj x2 label s1.Now).bind λx3=>
  some (! x3)).bind λq=>
 bif q then
 some s1
 else
 (jq s1 x1).bind λx4=>
 bif x4 then
  (bj s1 [x1.Id]).bind λx5=>
  some x5
 else
  (Ka i s1.IW.length).bind λi2=>
  (s1.IW[i2]?).bind λx6=>
  some (⟨⟨s1.I6.I7,s1.I6.IX⟩,s1.Jb,s1.IY,List.set s1.IW i2 (⟨x6.Id,x6.App,x6.Node,⟨x6.Kj.Mem,x6.Kj.IZ⟩,x6.Jt,x6.I_,x6.I5,0⟩:Cont),s1.Jj,s1.Ji,s1.Now,s1.Jq,s1.Seq⟩:GN)
def jX(s:GN)(label:Int):Option GN:=
 (d7 s.IW).bind λx=>
 (WE (kD label) x s).bind λs2=>
 some s2
def ant:Ks:=[(2,QV)]
def ajx:List Nat:=[2,6,7,13,14,15,16,17,18,19,20,21,22,23,24,25,26,27,28,29,30,31,32,33,34,35,36,37,38,39,40,41,42,43,44,45,46]
def aow:Hint:=(.b (JJ (.b (.s (.j [23,24,25,26,27,28,29,30,31,32,33,34,35,36,37] [(0,[(23,gt)])] .z) .z))))
def aeZ:Spec fam:=⟨[QJ,ge],[QJ],λa=>jX a.1 a.2.1⟩
def ca(k:Jv)(c:Cont):Option Jv:=
 let e:=Lp (λx=>c.Id == x.k) k.Lh (⟨c.Id,0⟩:Kk)
 let e1:=Lp (λx2=>c.Id == x2.k) k.leaf (⟨c.Id,[]⟩:Kt)
 let e2:=Lp (λx3=>e1.v == x3.k) k.over (⟨e1.v,0⟩:I9)
 some (⟨⟨⟨k.s.I6.I7,k.s.I6.IX⟩,k.s.Jb,k.s.IY,k.s.IW,k.s.Jj,k.s.Ji,k.s.Now,k.s.Jq,k.s.Seq⟩,k.label,Ll (λx4=>e1.v == x4.k) k.over (⟨e1.v,I8 (e2.v - c.Kj.Mem)⟩:I9),k.leaf,Ll (λx1=>c.Id == x1.k) k.Lh (⟨c.Id,I8 (e.v+1)⟩:Kk),I8 (k.gone+c.Kj.Mem)⟩:Jv)
def aeo:Spec fam:=⟨[QE,QI],[],λa=>ca a.1 a.2.1⟩
def gR(s:GN)(label:Int)(t1:Jv×Int):Option ((Jv×Int) ⊕ Jv):=
 bif decide (t1.2<(s.IW.length:Int))then
 (
  (idx s.IW t1.2).bind λx4=>
  bif x4.I_ != label then
  some t1.1
  else
  (de s x4.App).bind λx5=>
  bif x4.L_ != 0 then
   (ca (⟨⟨⟨t1.1.s.I6.I7,t1.1.s.I6.IX⟩,t1.1.s.Jb,t1.1.s.IY,t1.1.s.IW,t1.1.s.Jj,t1.1.s.Ji,t1.1.s.Now,t1.1.s.Jq,t1.1.s.Seq⟩,t1.1.label,t1.1.over,Ll (λx6=>x4.Id == x6.k) t1.1.leaf (⟨x4.Id,x5.1.I4⟩:Kt),t1.1.Lh,t1.1.gone⟩:Jv) x4).bind λx7=>
   some x7
  else
   some (⟨⟨⟨t1.1.s.I6.I7,t1.1.s.I6.IX⟩,t1.1.s.Jb,t1.1.s.IY,t1.1.s.IW,t1.1.s.Jj,t1.1.s.Ji,t1.1.s.Now,t1.1.s.Jq,t1.1.s.Seq⟩,t1.1.label,t1.1.over,Ll (λx6=>x4.Id == x6.k) t1.1.leaf (⟨x4.Id,x5.1.I4⟩:Kt),t1.1.Lh,t1.1.gone⟩:Jv)).bind λk1=>
 some (.inl (k1,I8 (t1.2+1)))
 else
 some (.inr t1.1)
def gU(s:GN)(label:Int)(x:List LZ)(t:Jv×Int):Option ((Jv×Int) ⊕ Jv):=
 bif decide (t.2<(x.length:Int))then
 (Ka t.2 x.length).bind λi=>
 (x[i]?).bind λx1=>
 (cU s x1.J_ label).bind λx2=>
 some (.inl ((⟨⟨⟨t.1.s.I6.I7,t.1.s.I6.IX⟩,t.1.s.Jb,t.1.s.IY,t.1.s.IW,t.1.s.Jj,t.1.s.Ji,t.1.s.Now,t.1.s.Jq,t.1.s.Seq⟩,t.1.label,Ll (λx3=>x1.J_ == x3.k) t.1.over (⟨x1.J_,I8 (x2.Mem - x1.Mem)⟩:I9),t.1.leaf,t.1.Lh,t.1.gone⟩:Jv),I8 (t.2+1)))
 else
 some (.inr t.1)
def kw(s:GN)(label:Int):Option Jv:=
 (hZ s label).bind λx=>
 (loop (gU s label x) ((⟨⟨⟨s.I6.I7,s.I6.IX⟩,s.Jb,s.IY,s.IW,s.Jj,s.Ji,s.Now,s.Jq,s.Seq⟩,label,[],[],[],0⟩:Jv),0)).bind λk=>
 (loop (gR s label) (k,0)).bind λk2=>
 some k2
def aes:Spec fam:=⟨[f9,ge],[.nb (.st 23) [11,12,13]],λa=>kw a.1 a.2.1⟩
def eO(k:Jv)(Ki:List UInt8)(x:Vec)(x1:Vec)(x2:App)(t1:Int):Option (Int ⊕ (Int ⊕ Unit)):=
 bif decide (t1<(x2.Ju.length:Int))then
 (idx x2.Ju t1).bind λx4=>
 (
  bif x4.I_ == k.label then
  some (decide ((I8 (x.Mem+x4.Kj.Mem))≤x1.Mem))
  else
  some false).bind λq1=>
 bif q1 then
  (gx k.s Ki k.label).bind λx5=>
  some (.inr (.inl (Od x5.Mem (I8 (x1.Mem - x.Mem)))))
 else
  some (.inl (I8 (t1+1)))
 else
 some (.inr (.inr ()))
def eQ(k:Jv)(Ki:List UInt8)(x:Vec)(x1:Vec)(t:Int):Option (Int ⊕ (Int ⊕ Unit)):=
 bif decide (t<(k.s.IY.length:Int))then
 (
  (idx k.s.IY t).bind λx2=>
  (
  (cf x2).bind λx3=>
  bif ! x3 then
   some true
  else
   some (! (x2.I4 == Ki))).bind λq=>
  bif q then
  some (.inl ())
  else
  (loop (eO k Ki x x1 x2) 0).bind λq0=>
  match q0 with
  | .inl q2=>
   some (.inr q2)
  | .inr _=>
   some (.inl ()):Option (Unit ⊕ Int)).bind λq0=>
 match q0 with
 | .inl _=>
  some (.inl (I8 (t+1)))
 | .inr q3=>
  some (.inr (.inl q3))
 else
 some (.inr (.inr ()))
def dN(k:Jv)(Ki:List UInt8):Option (Int×Jv):=
 (cU k.s Ki k.label).bind λx=>
 (fG k.s Ki k.label).bind λx1=>
 (loop (eQ k Ki x x1) 0).bind λq0=>
 match q0 with
 | .inl q4=>
 some (q4,k)
 | .inr _=>
 some (0,k)
def adT:Spec fam:=⟨[QE,f8],[ge],λa=>dN a.1 a.2.1⟩
def cT(x:List LZ)(t:Jv×Int×Int):Option ((Jv×Int×Int) ⊕ ((Jv×Int))):=
 bif decide (t.2.2<(x.length:Int))then
 (Ka t.2.2 x.length).bind λi=>
 (x[i]?).bind λx1=>
 (dN t.1 x1.J_).bind λx2=>
 let sum:=I8 (t.2.1+x2.1)
 some (.inl (x2.2,sum,I8 (t.2.2+1)))
 else
 some (.inr (t.1,t.2.1))
def eC(k:Jv):Option (Int×Jv):=
 (hZ k.s k.label).bind λx=>
 (loop (cT x) (k,0,0)).bind λq=>
 (em q.1.s q.1.label).bind λx3=>
 (cU q.1.s ([114,111,111,116]:List UInt8) q.1.label).bind λx4=>
 some (I8 (q.2 - (imax (I8 (x3.Mem - x4.Mem)) 0)),q.1)
def aer:Spec fam:=⟨[QE],[ge],λa=>eC a.1⟩
def bg(k:Jv)(_ob:Obj)(found:List UInt8)(e4:Jl):Option (List UInt8):=
 (
 bif found == ([]:List UInt8)then
  some true
 else
  let e5:=Lp (λx6=>found == x6.k) k.over (⟨found,0⟩:I9)
  let e6:=Lp (λx7=>e4.k == x7.k) k.over (⟨e4.k,0⟩:I9)
  (cQ e5.v e6.v).bind λx8=>
  (bZ e4.k found).bind λx9=>
  (gO [x8,x9]).bind λx10=>
  some (decide (x10<0))).bind λq2=>
 bif q2 then
 some e4.k
 else
 some found
def cX(k:Jv)(t:List Jl×Int):Option ((List Jl×Int) ⊕ List Jl):=
 bif decide (t.2<(k.s.IW.length:Int))then
 (
  (idx k.s.IW t.2).bind λx=>
  let e:=Lp (λx1=>x.Id == x1.k) k.leaf (⟨x.Id,[]⟩:Kt)
  let is:=Oc (λx1=>x.Id == x1.k) k.leaf
  (
  bif ! is then
   some true
  else
   let e1:=Lp (λx2=>x.Id == x2.k) k.Lh (⟨x.Id,0⟩:Kk)
   bif decide (e1.v>0)then
   some true
   else
   let e2:=Lp (λx3=>e.v == x3.k) k.over (⟨e.v,0⟩:I9)
   some (decide (e2.v≤0))).bind λq=>
  bif q then
  some t.1
  else
  let e3:=Lp (λx4=>e.v == x4.k) t.1 (⟨e.v,⟨0,0,0,⟨0,0⟩,0,0,false,0⟩⟩:Jl)
  let has:=Oc (λx4=>e.v == x4.k) t.1
  (
   bif ! has then
   some true
   else
   bif e3.v.I5 then
    bif ! x.I5 then
    some true
    else
    bif e3.v.I5 == x.I5 then
     some (decide (x.Id>e3.v.Id))
    else
     some false
   else
    bif e3.v.I5 == x.I5 then
    some (decide (x.Id>e3.v.Id))
    else
    some false).bind λq1=>
  bif q1 then
   some (Ll (λx5=>e.v == x5.k) t.1 (⟨e.v,⟨x.Id,x.App,x.Node,⟨x.Kj.Mem,x.Kj.IZ⟩,x.Jt,x.I_,x.I5,x.L_⟩⟩:Jl))
  else
   some t.1).bind λbest=>
 some (.inl (best,I8 (t.2+1)))
 else
 some (.inr t.1)
def eE(k:Jv):Option (Cont×Bool×Jv):=
 (loop (cX k) ([],0)).bind λWo=>
 (rng (ω:=Obj) (λ_=>some ([]:List UInt8)) (bg k) Wo).bind λTn=>
 let e7:=Lp (λM_=>Tn == M_.k) Wo (⟨Tn,⟨0,0,0,⟨0,0⟩,0,0,false,0⟩⟩:Jl)
 let is1:=Oc (λM_=>Tn == M_.k) Wo
 some (e7.v,is1,k)
def aep:Spec fam:=⟨[QE],[QI,gt],λa=>eE a.1⟩
def pn(need:Int×Jv)(t:Jv×List Int):Option ((Jv×List Int) ⊕ List Int):=
 bif decide (t.1.gone<need.1)then
 (eE t.1).bind λx=>
 bif ! x.2.1 then
  some (.inr t.2)
 else
  (ca x.2.2 x.1).bind λx1=>
  (app 8 t.2 [x.1.Id]).bind λl=>
  some (.inl (x1,l))
 else
 some (.inr t.2)
def j6(s:GN)(label:Int):Option (List Int):=
 (kw s label).bind λk=>
 (eC k).bind λneed=>
 (loop (pn need) (need.2,[])).bind λout=>
 some out
def aeY:Spec fam:=⟨[f9,ge],[f0],λa=>j6 a.1 a.2.1⟩
def pv(x:Cont)(p:Int):Option Bool:=
 some (x.Id == p)
def aeX:Spec fam:=⟨[QI,.rp (.int .i64)],[gt],λa=>pv a.1 a.2.1⟩
def oX(x:Cont)(p:Cont):Option Bool:=
 some (x.Id == p.Id)
def aeW:Spec fam:=⟨[QI,.rp (.st 7)],[gt],λa=>oX a.1 a.2.1⟩
def bv(s:List Int):Option (List Int):=P6 s
def aeV:Spec fam:=⟨[QM],[],λa=>bv a.1⟩
def gp(s:GN)(t3:GN)(t4:List Int×Int):Option ((List Int×Int) ⊕ List Int):=
 bif decide (t4.2<(s.IW.length:Int))then
 (
  (idx s.IW t4.2).bind λx5=>
  (j7 t3.IW (λa'=>oX a'.1 x5)).bind λx6=>
  bif ! x6 then
  (app 8 t4.1 [x5.Id]).bind λl=>
  some l
  else
  some t4.1).bind λgone=>
 some (.inl (gone,I8 (t4.2+1)))
 else
 some (.inr t4.1)
def gv(x2:List Int)(t1:GN×Int):Option ((GN×Int) ⊕ GN):=
 bif decide (t1.2<(x2.length:Int))then
 (Ka t1.2 x2.length).bind λi=>
 (x2[i]?).bind λx3=>
 (er t1.1.IW (λa'=>pv a'.1 x3)).bind λi1=>
 (Ka i1 t1.1.IW.length).bind λi2=>
 (t1.1.IW[i2]?).bind λx4=>
 some (.inl ((⟨⟨t1.1.I6.I7,t1.1.I6.IX⟩,t1.1.Jb,t1.1.IY,List.set t1.1.IW i2 (⟨x4.Id,x4.App,x4.Node,⟨x4.Kj.Mem,x4.Kj.IZ⟩,x4.Jt,x4.I_,x4.I5,imax t1.1.Now 1⟩:Cont),t1.1.Jj,t1.1.Ji,t1.1.Now,t1.1.Jq,t1.1.Seq⟩:GN),I8 (t1.2+1)))
 else
 some (.inr t1.1)
def gn(s:GN)(t:GN×Int):Option ((GN×Int) ⊕ GN):=
 bif decide (t.2<(s.I6.I7.length:Int))then
 (jX t.1 t.2).bind λx1=>
 (j6 x1 t.2).bind λx2=>
 (loop (gv x2) (x1,0)).bind λt2=>
 some (.inl (t2,I8 (t.2+1)))
 else
 some (.inr t.1)
def jh(s:GN):Option (GN×List Int):=
 (bj s []).bind λx=>
 (loop (gn s) (x,0)).bind λt3=>
 (loop (gp s t3) ([],0)).bind λajq=>
 (bv ajq).bind λx7=>
 some (t3,x7)
def afC:Spec fam:=⟨[f9],[QJ,f0],λa=>jh a.1⟩
def dW(was:List Cont)(t4:Step)(x10:GN×List Int)(t5:Output×Int):Option ((Output×Int) ⊕ Output):=
 bif decide (t5.2<(was.length:Int))then
 (
  (Ka t5.2 was.length).bind λi2=>
  (was[i2]?).bind λM_=>
  (ce (⟨⟨⟨x10.1.I6.I7,x10.1.I6.IX⟩,x10.1.Jb,x10.1.IY,x10.1.IW,x10.1.Jj,x10.1.Ji,x10.1.Now,x10.1.Jq,x10.1.Seq⟩,⟨t4.x.Kind,t4.x.Id,t4.x.J6,t4.x.N,t4.x.Text,⟨t4.x.Node.Id,t4.x.Node.I_,t4.x.Node.KF,⟨t4.x.Node.Cap.Mem,t4.x.Node.Cap.IZ⟩,t4.x.Node.Kz,t4.x.Node.J6,t4.x.Node.Up⟩,⟨t4.x.App.Id,t4.x.App.GN,t4.x.App.I4,t4.x.App.User,t4.x.App.Jt,⟨t4.x.App.I5.Mem,t4.x.App.I5.IZ⟩,t4.x.App.Ju,t4.x.App.Kz,t4.x.App.J6,t4.x.App.Ke,t4.x.App.KE,t4.x.App.Told,t4.x.App.Lg⟩,t4.x.Ju,t4.x.Ids,⟨t4.x.Jd.Id,t4.x.Jd.I_,t4.x.Jd.From,t4.x.Jd.Until,⟨t4.x.Jd.Need.Mem,t4.x.Jd.Need.IZ⟩⟩⟩⟩:Step) [M_.Id]).bind λOo=>
  bif(Oo.length:Int) == 0 then
  (app 8 t5.1.Gone [M_.Id]).bind λl=>
  some (⟨t5.1.Err,t5.1.IW,t5.1.Ids,l,t5.1.N⟩:Output)
  else
  some t5.1).bind λout=>
 some (.inl (out,I8 (t5.2+1)))
 else
 some (.inr t5.1)
def dY(x5:List Int)(t3:Step×Int):Option ((Step×Int) ⊕ Step):=
 bif decide (t3.2<(x5.length:Int))then
 (Ka t3.2 x5.length).bind λi1=>
 (x5[i1]?).bind λx6=>
 (gi t3.1 x6).bind λx7=>
 (bj t3.1.s x7).bind λx8=>
 some (.inl ((⟨⟨⟨x8.I6.I7,x8.I6.IX⟩,x8.Jb,x8.IY,x8.IW,x8.Jj,x8.Ji,x8.Now,x8.Jq,x8.Seq⟩,⟨t3.1.x.Kind,t3.1.x.Id,t3.1.x.J6,t3.1.x.N,t3.1.x.Text,⟨t3.1.x.Node.Id,t3.1.x.Node.I_,t3.1.x.Node.KF,⟨t3.1.x.Node.Cap.Mem,t3.1.x.Node.Cap.IZ⟩,t3.1.x.Node.Kz,t3.1.x.Node.J6,t3.1.x.Node.Up⟩,⟨t3.1.x.App.Id,t3.1.x.App.GN,t3.1.x.App.I4,t3.1.x.App.User,t3.1.x.App.Jt,⟨t3.1.x.App.I5.Mem,t3.1.x.App.I5.IZ⟩,t3.1.x.App.Ju,t3.1.x.App.Kz,t3.1.x.App.J6,t3.1.x.App.Ke,t3.1.x.App.KE,t3.1.x.App.Told,t3.1.x.App.Lg⟩,t3.1.x.Ju,t3.1.x.Ids,⟨t3.1.x.Jd.Id,t3.1.x.Jd.I_,t3.1.x.Jd.From,t3.1.x.Jd.Until,⟨t3.1.x.Jd.Need.Mem,t3.1.x.Jd.Need.IZ⟩⟩⟩⟩:Step),I8 (t3.2+1)))
 else
 some (.inr t3.1)
def dZ(x2:List Int)(t1:Step×Int):Option ((Step×Int) ⊕ Step):=
 bif decide (t1.2<(x2.length:Int))then
 (Ka t1.2 x2.length).bind λi=>
 (x2[i]?).bind λx3=>
 (fQ t1.1 x3).bind λx4=>
 some (.inl (x4,I8 (t1.2+1)))
 else
 some (.inr t1.1)
def fI(t:Step):Option (Output×Step):=
 (
 bif decide (t.x.N<1)then
  some true
 else
  some (decide (t.x.N>100))).bind λq=>
 bif q then
 (aO 1).bind λx=>
 some (x,t)
 else
 bif decide (t.s.Now>(I8 (1000000000 - t.x.N)))then
  (aO 11).bind λx1=>
  some (x1,t)
 else
  (d7 t.s.IW).bind λwas=>
  (om (⟨⟨t.s.I6.I7,t.s.I6.IX⟩,t.s.Jb,t.s.IY,t.s.IW,t.s.Jj,t.s.Ji,I8 (t.s.Now+t.x.N),t.s.Jq,t.s.Seq⟩:GN)).bind λx2=>
  (loop (dZ x2) ((⟨⟨⟨t.s.I6.I7,t.s.I6.IX⟩,t.s.Jb,t.s.IY,t.s.IW,t.s.Jj,t.s.Ji,I8 (t.s.Now+t.x.N),t.s.Jq,t.s.Seq⟩,⟨t.x.Kind,t.x.Id,t.x.J6,t.x.N,t.x.Text,⟨t.x.Node.Id,t.x.Node.I_,t.x.Node.KF,⟨t.x.Node.Cap.Mem,t.x.Node.Cap.IZ⟩,t.x.Node.Kz,t.x.Node.J6,t.x.Node.Up⟩,⟨t.x.App.Id,t.x.App.GN,t.x.App.I4,t.x.App.User,t.x.App.Jt,⟨t.x.App.I5.Mem,t.x.App.I5.IZ⟩,t.x.App.Ju,t.x.App.Kz,t.x.App.J6,t.x.App.Ke,t.x.App.KE,t.x.App.Told,t.x.App.Lg⟩,t.x.Ju,t.x.Ids,⟨t.x.Jd.Id,t.x.Jd.I_,t.x.Jd.From,t.x.Jd.Until,⟨t.x.Jd.Need.Mem,t.x.Jd.Need.IZ⟩⟩⟩⟩:Step),0)).bind λt2=>
  (lX t2.s).bind λx5=>
  (loop (dY x5) (t2,0)).bind λt4=>
  (jm t4.s.Ji (λa'=>kR a'.1 t4.s.Now)).bind λx9=>
  (jh (⟨⟨t4.s.I6.I7,t4.s.I6.IX⟩,t4.s.Jb,t4.s.IY,t4.s.IW,t4.s.Jj,x9,t4.s.Now,t4.s.Jq,t4.s.Seq⟩:GN)).bind λx10=>
  (loop (dW was t4 x10) ((⟨0,[],[],[],0⟩:Output),0)).bind λLG=>
  some (LG,(⟨⟨⟨x10.1.I6.I7,x10.1.I6.IX⟩,x10.1.Jb,x10.1.IY,x10.1.IW,x10.1.Jj,x10.1.Ji,x10.1.Now,x10.1.Jq,x10.1.Seq⟩,⟨t4.x.Kind,t4.x.Id,t4.x.J6,t4.x.N,t4.x.Text,⟨t4.x.Node.Id,t4.x.Node.I_,t4.x.Node.KF,⟨t4.x.Node.Cap.Mem,t4.x.Node.Cap.IZ⟩,t4.x.Node.Kz,t4.x.Node.J6,t4.x.Node.Up⟩,⟨t4.x.App.Id,t4.x.App.GN,t4.x.App.I4,t4.x.App.User,t4.x.App.Jt,⟨t4.x.App.I5.Mem,t4.x.App.I5.IZ⟩,t4.x.App.Ju,t4.x.App.Kz,t4.x.App.J6,t4.x.App.Ke,t4.x.App.KE,t4.x.App.Told,t4.x.App.Lg⟩,t4.x.Ju,t4.x.Ids,⟨t4.x.Jd.Id,t4.x.Jd.I_,t4.x.Jd.From,t4.x.Jd.Until,⟨t4.x.Jd.Need.Mem,t4.x.Jd.Need.IZ⟩⟩⟩⟩:Step))
def alJ:Spec fam:=⟨[QH],[QN],λa=>fI a.1⟩
def d_(n:Int)(most:Int):Option Bool:=
 bif decide (n≥0)then
 some (decide (n≤most))
 else
 some false
def aeU:Spec fam:=⟨[ge,ge],[gt],λa=>d_ a.1 a.2.1⟩
def mH(s:List Jd)(f:(Jk fam [.st 9]→Option Bool)):Option Bool:=
 (gG s f).bind λx=>
 some (decide (x≥0))
def aeT:Spec fam:=⟨[Q6,.fn [.st 9] .bool],[gt],λa=>mH a.1 a.2.1⟩
def vw(x:Jd)(p:Jd):Option Bool:=
 some (x.Id == p.Id)
def aeS:Spec fam:=⟨[Qk,.rp (.st 9)],[gt],λa=>vw a.1 a.2.1⟩
def A8(l:List Jd)(label:Int)(t:Int)(t1:Vec×Int):Option ((Vec×Int) ⊕ Vec):=
 bif decide (t1.2<(l.length:Int))then
 (
  (idx l t1.2).bind λx=>
  (
  bif x.I_ == label then
   bif decide (x.From≤t)then
   some (decide (x.Until>t))
   else
   some false
  else
   some false).bind λq=>
  bif q then
  (cz t1.1 x.Need).bind λx1=>
  some x1.1
  else
  some t1.1).bind λout=>
 some (.inl (out,I8 (t1.2+1)))
 else
 some (.inr t1.1)
def sH(l:List Jd)(label:Int)(t:Int):Option Vec:=
 (loop (A8 l label t) ((⟨0,0⟩:Vec),0)).bind λLG=>
 some LG
def adO:Spec fam:=⟨[Q6,ge,ge],[t7],λa=>sH a.1 a.2.1 a.2.2.1⟩
def jb(k:Int)(p:List Jd)(p1:Jd)(p2:Vec):Option Bool:=
 (sH p p1.I_ k).bind λx=>
 (cz x p1.Need).bind λx1=>
 bif x1.2 != 0 then
 some true
 else
 (d9 x1.1 p2).bind λx2=>
 some (! x2)
def adP:Spec fam:=⟨[ge,.rp (.slice (.st 9)),.rp (.st 9),.rp (.st 0)],[gt],λa=>jb a.1 a.2.1 a.2.2.1 a.2.2.2.1⟩
def kg(l:List Jd)(t:Int)(long:Int)(t1:List Int×Int):Option ((List Int×Int) ⊕ List Int):=
 bif decide (t1.2<(l.length:Int))then
 (
  (idx l t1.2).bind λx=>
  (
  bif decide (x.From>t)then
   some (decide (x.From<(I8 (t+long))))
  else
   some false).bind λq=>
  bif q then
  (app 8 t1.1 [x.From]).bind λl1=>
  some l1
  else
  some t1.1).bind λtimes=>
 some (.inl (times,I8 (t1.2+1)))
 else
 some (.inr t1.1)
def pa(l:List Jd)(total:Vec)(p:Jd)(t:Int)(long:Int):Option Bool:=
 (loop (kg l t long) ([t],0)).bind λTg=>
 (bf Tg (λa'=>jb a'.1 l p total)).bind λx1=>
 some (! x1)
def aen:Spec fam:=⟨[Q6,t7,Qk,ge,ge],[gt],λa=>pa a.1 a.2.1 a.2.2.1 a.2.2.2.1 a.2.2.2.2.1⟩
def mD(l:List Jd)(total:Vec)(p:Jd)(long:Int)(x6:List Int)(t1:Int):Option (Int ⊕ ((Int×Int) ⊕ Unit)):=
 bif decide (t1<(x6.length:Int))then
 (Ka t1 x6.length).bind λi1=>
 (x6[i1]?).bind λx7=>
 (
  bif decide (x7≤(I8 (p.Until - long)))then
  (pa l total p x7 long).bind λx8=>
  some x8
  else
  some false).bind λq1=>
 bif q1 then
  some (.inr (.inl (x7,0)))
 else
  some (.inl (I8 (t1+1)))
 else
 some (.inr (.inr ()))
def jl(l:List Jd)(p:Jd)(t:List Int×Int):Option ((List Int×Int) ⊕ List Int):=
 bif decide (t.2<(l.length:Int))then
 (
  (idx l t.2).bind λx5=>
  bif decide (x5.Until>p.From)then
  (app 8 t.1 [x5.Until]).bind λl2=>
  some l2
  else
  some t.1).bind λtimes=>
 some (.inl (times,I8 (t.2+1)))
 else
 some (.inr t.1)
def mZ(l:List Jd)(total:Vec)(p:Jd)(long:Int):Option (Int×Int):=
 (
 bif decide (long<1)then
  some true
 else
  bif decide (long>1000)then
  some true
  else
  (d_ p.From 1000000).bind λx=>
  bif ! x then
   some true
  else
   (d_ p.Until 1000000).bind λx1=>
   bif ! x1 then
   some true
   else
   (d_ p.Need.Mem 1073741824).bind λx2=>
   bif ! x2 then
    some true
   else
    (d_ p.Need.IZ 1073741824).bind λx3=>
    some (! x3)).bind λq=>
 bif q then
 some (0,1)
 else
 (PV 8 1 (I8 ((l.length:Int)+1)) 0).bind λl1=>
 (Ka 0 l1.length).bind λi=>
 (l1[i]?).bind λx4=>
 (loop (jl l p) (List.set l1 i p.From,0)).bind λTg=>
 (bv Tg).bind λx6=>
 (loop (mD l total p long x6) 0).bind λq0=>
 match q0 with
 | .inl q2=>
  some (q2.1,q2.2)
 | .inr _=>
  some (0,16)
def aeR:Spec fam:=⟨[Q6,t7,Qk,ge],[ge,ge],λa=>mZ a.1 a.2.1 a.2.2.1 a.2.2.2.1⟩
def tz(p:Jd)(x:GN)(k:Int):Option (Int ⊕ Int):=
 (
 bif decide (k<(x.Ji.length:Int))then
  (Ka k x.Ji.length).bind λi=>
  (x.Ji[i]?).bind λx1=>
  some (decide (x1.Id<p.Id))
 else
  some false).bind λq=>
 bif q then
 some (.inl (I8 (k+1)))
 else
 some (.inr k)
def qp(s:GN)(p:Jd)(long:Int):Option (GN×Int×Int):=
 (bj s []).bind λx=>
 (loop (tz p x) 0).bind λk1=>
 (
 (d_ p.Id 999).bind λx2=>
 bif ! x2 then
  some true
 else
  (d_ p.I_ (I8 ((x.I6.I7.length:Int) - 1))).bind λx3=>
  bif ! x3 then
  some true
  else
  some ((p.Need.Mem == 0)&&(p.Need.IZ == 0))).bind λq1=>
 bif q1 then
 some (x,0,1)
 else
 (mH x.Ji (λa'=>vw a'.1 p)).bind λx4=>
 bif x4 then
  some (x,0,7)
 else
  bif decide ((x.Ji.length:Int)≥12)then
  some (x,0,4)
  else
  bif decide (p.From<x.Now)then
   some (x,0,15)
  else
   (em x p.I_).bind λx5=>
   (mZ x.Ji x5 p long).bind λx6=>
   bif x6.2 != 0 then
   some (x,0,x6.2)
   else
   (PV 48 (I8 ((x.Ji.length:Int)+1)) (I8 ((x.Ji.length:Int)+1)) (⟨0,0,0,0,⟨0,0⟩⟩:Jd)).bind λl=>
   (Mj 0 k1 x.Ji.length).bind λp1=>
   (Ka k1 (LD l 0 l.length (sub x.Ji p1.1 p1.2)).length).bind λi1=>
   ((LD l 0 l.length (sub x.Ji p1.1 p1.2))[i1]?).bind λx7=>
   (Mj (I8 (k1+1)) ((List.set (LD l 0 l.length (sub x.Ji p1.1 p1.2)) i1 (⟨p.Id,p.I_,x6.1,I8 (x6.1+long),⟨p.Need.Mem,p.Need.IZ⟩⟩:Jd)).length:Int) (List.set (LD l 0 l.length (sub x.Ji p1.1 p1.2)) i1 (⟨p.Id,p.I_,x6.1,I8 (x6.1+long),⟨p.Need.Mem,p.Need.IZ⟩⟩:Jd)).length).bind λp2=>
   (Mj k1 (x.Ji.length:Int) x.Ji.length).bind λp3=>
   some ((⟨⟨x.I6.I7,x.I6.IX⟩,x.Jb,x.IY,x.IW,x.Jj,LD (List.set (LD l 0 l.length (sub x.Ji p1.1 p1.2)) i1 (⟨p.Id,p.I_,x6.1,I8 (x6.1+long),⟨p.Need.Mem,p.Need.IZ⟩⟩:Jd)) p2.1 p2.2 (sub x.Ji p3.1 p3.2),x.Now,x.Jq,x.Seq⟩:GN),x6.1,0)
def afB:Spec fam:=⟨[f9,Qk,ge],[QJ,ge,ge],λa=>qp a.1 a.2.1 a.2.2.1⟩
def ga(t:Step):Option (Output×Step):=
 (qp t.s t.x.Jd t.x.N).bind λx=>
 bif x.2.2 != 0 then
 (aO x.2.2).bind λx1=>
 some (x1,t)
 else
 some ((⟨0,[],[],[],x.2.1⟩:Output),(⟨⟨⟨x.1.I6.I7,x.1.I6.IX⟩,x.1.Jb,x.1.IY,x.1.IW,x.1.Jj,x.1.Ji,x.1.Now,x.1.Jq,x.1.Seq⟩,⟨t.x.Kind,t.x.Id,t.x.J6,t.x.N,t.x.Text,⟨t.x.Node.Id,t.x.Node.I_,t.x.Node.KF,⟨t.x.Node.Cap.Mem,t.x.Node.Cap.IZ⟩,t.x.Node.Kz,t.x.Node.J6,t.x.Node.Up⟩,⟨t.x.App.Id,t.x.App.GN,t.x.App.I4,t.x.App.User,t.x.App.Jt,⟨t.x.App.I5.Mem,t.x.App.I5.IZ⟩,t.x.App.Ju,t.x.App.Kz,t.x.App.J6,t.x.App.Ke,t.x.App.KE,t.x.App.Told,t.x.App.Lg⟩,t.x.Ju,t.x.Ids,⟨t.x.Jd.Id,t.x.Jd.I_,t.x.Jd.From,t.x.Jd.Until,⟨t.x.Jd.Need.Mem,t.x.Jd.Need.IZ⟩⟩⟩⟩:Step))
def alI:Spec fam:=⟨[QH],[QN],λa=>ga a.1⟩
def tQ(x:Jd)(p:Int):Option Bool:=
 some (x.Id == p)
def afz:Spec fam:=⟨[Qk,.rp (.int .i64)],[gt],λa=>tQ a.1 a.2.1⟩
def mG(s:List Jd)(i:Int)(j:Int):Option (List Jd):=del s i j
def afy:Spec fam:=⟨[Q9,ge,ge],[Q9],λa=>mG a.1 a.2.1 a.2.2.1⟩
def ph(s:GN)(Lc:Int):Option (GN×Int):=
 (bj s []).bind λx=>
 (gG x.Ji (λa'=>tQ a'.1 Lc)).bind λk=>
 bif decide (k<0)then
 some (x,2)
 else
 (mG x.Ji k (I8 (k+1))).bind λx1=>
 some ((⟨⟨x.I6.I7,x.I6.IX⟩,x.Jb,x.IY,x.IW,x.Jj,x1,x.Now,x.Jq,x.Seq⟩:GN),0)
def alH:Spec fam:=⟨[f9,ge],[QJ,ge],λa=>ph a.1 a.2.1⟩
def h_(t:Step):Option (Output×Step):=
 bif decide (t.s.Jq≥1048576)then
 (aO 11).bind λx=>
 some (x,t)
 else
 some ((⟨0,[],[],[],0⟩:Output),(⟨⟨⟨t.s.I6.I7,t.s.I6.IX⟩,t.s.Jb,t.s.IY,t.s.IW,t.s.Jj,t.s.Ji,t.s.Now,I8 (t.s.Jq+1),0⟩,⟨t.x.Kind,t.x.Id,t.x.J6,t.x.N,t.x.Text,⟨t.x.Node.Id,t.x.Node.I_,t.x.Node.KF,⟨t.x.Node.Cap.Mem,t.x.Node.Cap.IZ⟩,t.x.Node.Kz,t.x.Node.J6,t.x.Node.Up⟩,⟨t.x.App.Id,t.x.App.GN,t.x.App.I4,t.x.App.User,t.x.App.Jt,⟨t.x.App.I5.Mem,t.x.App.I5.IZ⟩,t.x.App.Ju,t.x.App.Kz,t.x.App.J6,t.x.App.Ke,t.x.App.KE,t.x.App.Told,t.x.App.Lg⟩,t.x.Ju,t.x.Ids,⟨t.x.Jd.Id,t.x.Jd.I_,t.x.Jd.From,t.x.Jd.Until,⟨t.x.Jd.Need.Mem,t.x.Jd.Need.IZ⟩⟩⟩⟩:Step))
def alG:Spec fam:=⟨[QH],[QN],λa=>h_ a.1⟩
def kq(t:Step):Option (Output×Step):=
 bif t.x.Kind == 1 then
 (cY t).bind λx=>
 some (x.1,x.2)
 else
 bif t.x.Kind == 2 then
  (il t.s t.x.Node).bind λx1=>
  (c9 t x1.1 x1.2).bind λx2=>
  some (x2.1,x2.2)
 else
  bif t.x.Kind == 3 then
  (fL t).bind λx3=>
  some (x3.1,x3.2)
  else
  bif t.x.Kind == 4 then
   (lW t.s t.x.App).bind λx4=>
   (c9 t x4.1 x4.2).bind λx5=>
   some (x5.1,x5.2)
  else
   bif t.x.Kind == 5 then
   (eH t).bind λx6=>
   some (x6.1,x6.2)
   else
   bif t.x.Kind == 6 then
    (ep t 3).bind λx7=>
    some (x7.1,x7.2)
   else
    bif t.x.Kind == 7 then
    (ep t 4).bind λx8=>
    some (x8.1,x8.2)
    else
    bif t.x.Kind == 8 then
     (fI t).bind λx9=>
     some (x9.1,x9.2)
    else
     bif t.x.Kind == 9 then
     (ga t).bind λx10=>
     some (x10.1,x10.2)
     else
     bif t.x.Kind == 10 then
      (ph t.s t.x.Id).bind λM_=>
      (c9 t M_.1 M_.2).bind λOo=>
      some (Oo.1,Oo.2)
     else
      bif t.x.Kind == 11 then
      (h_ t).bind λPO=>
      some (PO.1,PO.2)
      else
      (aO 3).bind λN_=>
      some (N_,t)
def ame:Spec fam:=⟨[QH],[QN],λa=>kq a.1⟩
def fW(s:GN)(x:Input):Option (GN×Output):=
 (bj s []).bind λx1=>
 (kq (⟨⟨⟨x1.I6.I7,x1.I6.IX⟩,x1.Jb,x1.IY,x1.IW,x1.Jj,x1.Ji,x1.Now,x1.Jq,x1.Seq⟩,⟨x.Kind,x.Id,x.J6,x.N,x.Text,⟨x.Node.Id,x.Node.I_,x.Node.KF,⟨x.Node.Cap.Mem,x.Node.Cap.IZ⟩,x.Node.Kz,x.Node.J6,x.Node.Up⟩,⟨x.App.Id,x.App.GN,x.App.I4,x.App.User,x.App.Jt,⟨x.App.I5.Mem,x.App.I5.IZ⟩,x.App.Ju,x.App.Kz,x.App.J6,x.App.Ke,x.App.KE,x.App.Told,x.App.Lg⟩,x.Ju,x.Ids,⟨x.Jd.Id,x.Jd.I_,x.Jd.From,x.Jd.Until,⟨x.Jd.Need.Mem,x.Jd.Need.IZ⟩⟩⟩⟩:Step)).bind λx2=>
 bif x2.1.Err != 0 then
 (bj s []).bind λx3=>
 some (x3,x2.1)
 else
 (bj x2.2.s []).bind λx4=>
 some (x4,x2.1)
def h9:Hint:=.z
def sp9:Spec fam:=⟨[f9,.v (.st 14) []],[QJ,QN],λa=>fW a.1 a.2.1⟩
def zS(s:List Vec)(f:(Jk fam [.st 0]→Option Bool))(t:Int):Option (Int ⊕ (Int ⊕ Unit)):=
 bif decide (t<(s.length:Int))then
 (idx s t).bind λx=>
 (f (x,())).bind λr=>
 bif r then
  some (.inr (.inl t))
 else
  some (.inl (I8 (t+1)))
 else
 some (.inr (.inr ()))
def yW(s:List Vec)(f:(Jk fam [.st 0]→Option Bool)):Option Int:=
 (loop (zS s f) 0).bind λq0=>
 match q0 with
 | .inl q=>
 some q
 | .inr _=>
 some (-1)
def afr:Spec fam:=⟨[Qr,.fn [.st 0] .bool],[ge],λa=>yW a.1 a.2.1⟩
def tN(s:List Vec)(f:(Jk fam [.st 0]→Option Bool)):Option Bool:=
 (yW s f).bind λx=>
 some (decide (x≥0))
def alB:Spec fam:=⟨[Qr,.fn [.st 0] .bool],[gt],λa=>tN a.1 a.2.1⟩
def j_(v:Vec):Option Bool:=
 bif decide (v.Mem<0)then
 some true
 else
 bif decide (v.Mem>1125899906842624)then
  some true
 else
  bif decide (v.IZ<0)then
  some true
  else
  some (decide (v.IZ>1125899906842624))
def alA:Spec fam:=⟨[t7],[gt],λa=>j_ a.1⟩
def qm(x3:App)(t4:List Vec×Int):Option ((List Vec×Int) ⊕ List Vec):=
 bif decide (t4.2<(x3.Ju.length:Int))then
 (idx x3.Ju t4.2).bind λx4=>
 (app 16 t4.1 [x4.Kj]).bind λl7=>
 some (.inl (l7,I8 (t4.2+1)))
 else
 some (.inr t4.1)
def pM(k:Look)(t3:List Vec×Int):Option ((List Vec×Int) ⊕ List Vec):=
 bif decide (t3.2<(k.s.IY.length:Int))then
 (idx k.s.IY t3.2).bind λx3=>
 (app 16 t3.1 [x3.I5]).bind λl6=>
 (loop (qm x3) (l6,0)).bind λl8=>
 some (.inl (l8,I8 (t3.2+1)))
 else
 some (.inr t3.1)
def pV(k:Look)(t2:List Vec×Int):Option ((List Vec×Int) ⊕ List Vec):=
 bif decide (t2.2<(k.s.Ji.length:Int))then
 (idx k.s.Ji t2.2).bind λx2=>
 (app 16 t2.1 [x2.Need]).bind λl4=>
 some (.inl (l4,I8 (t2.2+1)))
 else
 some (.inr t2.1)
def p9(k:Look)(t1:List Vec×Int):Option ((List Vec×Int) ⊕ List Vec):=
 bif decide (t1.2<(k.s.IW.length:Int))then
 (idx k.s.IW t1.2).bind λx1=>
 (app 16 t1.1 [x1.Kj]).bind λl2=>
 some (.inl (l2,I8 (t1.2+1)))
 else
 some (.inr t1.1)
def p_(k:Look)(t:List Vec×Int):Option ((List Vec×Int) ⊕ List Vec):=
 bif decide (t.2<(k.s.Jb.length:Int))then
 (idx k.s.Jb t.2).bind λx=>
 (app 16 t.1 [x.Cap]).bind λl=>
 some (.inl (l,I8 (t.2+1)))
 else
 some (.inr t.1)
def mz(k:Look):Option Bool:=
 (loop (p_ k) ([],0)).bind λl1=>
 (loop (p9 k) (l1,0)).bind λl3=>
 (loop (pV k) (l3,0)).bind λl5=>
 (loop (pM k) (l5,0)).bind λl9=>
 (tN l9 (λa'=>j_ a'.1)).bind λx5=>
 some (! x5)
def amc:Spec fam:=⟨[Qj],[gt],λa=>mz a.1⟩
def ua(n:Int)(Lc:(Jk fam [.int .i64]→Option Int))(i:Int):Option (Int ⊕ (Bool ⊕ Unit)):=
 bif decide (i<n)then
 (Lc (I8 (i - 1),())).bind λr=>
 (Lc (i,())).bind λr1=>
 bif decide (r≥r1)then
  some (.inr (.inl false))
 else
  some (.inl (I8 (i+1)))
 else
 some (.inr (.inr ()))
def eU(n:Int)(most:Int)(Lc:(Jk fam [.int .i64]→Option Int)):Option Bool:=
 (loop (ua n Lc) 1).bind λq0=>
 match q0 with
 | .inl q=>
 some q
 | .inr _=>
 some (decide (n≤most))
def h63:Hint:=(JJ (.s (JJ ((JX [(7,ge)] [6,7] [(1,[(6,gt)]),(2,[])] .z))) .z))
def alz:Spec fam:=⟨[ge,ge,.fn [.int .i64] (.int .i64)],[gt],λa=>eU a.1 a.2.1 a.2.2.1⟩
def jB(i:Int)(p:GN):Option Int:=
 (idx p.Jb i).bind λx=>
 some x.Id
def aly:Spec fam:=⟨[ge,.rp (.st 10)],[ge],λa=>jB a.1 a.2.1⟩
def jH(i:Int)(p:GN):Option Int:=
 (idx p.IY i).bind λx=>
 some x.Id
def alx:Spec fam:=⟨[ge,.rp (.st 10)],[ge],λa=>jH a.1 a.2.1⟩
def jQ(i:Int)(p:GN):Option Int:=
 (idx p.IW i).bind λx=>
 some x.Id
def alv:Spec fam:=⟨[ge,.rp (.st 10)],[ge],λa=>jQ a.1 a.2.1⟩
def jJ(i:Int)(p:GN):Option Int:=
 (idx p.Jj i).bind λx=>
 some x.Node
def alu:Spec fam:=⟨[ge,.rp (.st 10)],[ge],λa=>jJ a.1 a.2.1⟩
def jz(i:Int)(p:GN):Option Int:=
 (idx p.Ji i).bind λx=>
 some x.Id
def alr:Spec fam:=⟨[ge,.rp (.st 10)],[ge],λa=>jz a.1 a.2.1⟩
def kS(k:Look):Option Bool:=
 (eU (k.s.Jb.length:Int) 12 (λa'=>jB a'.1 k.s)).bind λx=>
 bif x then
 (eU (k.s.IY.length:Int) 16 (λa'=>jH a'.1 k.s)).bind λx1=>
 bif x1 then
  (eU (k.s.IW.length:Int) 200 (λa'=>jQ a'.1 k.s)).bind λx2=>
  bif x2 then
  (eU (k.s.Jj.length:Int) 12 (λa'=>jJ a'.1 k.s)).bind λx3=>
  bif x3 then
   (eU (k.s.Ji.length:Int) 12 (λa'=>jz a'.1 k.s)).bind λx4=>
   some x4
  else
   some false
  else
  some false
 else
  some false
 else
 some false
def amb:Spec fam:=⟨[Qj],[gt],λa=>kS a.1⟩
def rK(l:List Cont)(holds:(Jk fam [.st 7]→Option Bool)):Option Bool:=(j7 l (λx=>(holds x).bind λr=>some (!r))).bind λr=>some (!r)
def ama:Spec fam:=⟨[Qf,.fn [.st 7] .bool],[gt],λa=>rK a.1 a.2.1⟩
def mS(k:Look)(c:Cont):Option Bool:=
 (de k.s c.App).bind λx=>
 (fu k.s c.Node).bind λx1=>
 bif x.2 then
 (cf x.1).bind λx2=>
 bif x2 then
  bif x1.2 then
  bif x1.1.Up then
   bif x1.1.I_ == c.I_ then
   bif decide (c.L_≥0)then
    some (decide (c.L_≤(imax k.s.Now 1)))
   else
    some false
   else
   some false
  else
   some false
  else
  some false
 else
  some false
 else
 some false
def al_:Spec fam:=⟨[Qj,QI],[gt],λa=>mS a.1 a.2.1⟩
def sf(s:List Node)(f:(Jk fam [.st 4]→Option Bool)):Option Bool:=
 (jk s f).bind λx=>
 some (decide (x≥0))
def alm:Spec fam:=⟨[Qh,.fn [.st 4] .bool],[gt],λa=>sf a.1 a.2.1⟩
def rJ(l:List Node)(holds:(Jk fam [.st 4]→Option Bool)):Option Bool:=(sf l (λx=>(holds x).bind λr=>some (!r))).bind λr=>some (!r)
def al9:Spec fam:=⟨[Qh,.fn [.st 4] .bool],[gt],λa=>rJ a.1 a.2.1⟩
def qP(k:Look)(n:Node)(t:Vec×Int):Option ((Vec×Int) ⊕ (Bool ⊕ Vec)):=
 bif decide (t.2<(k.s.IW.length:Int))then
 (
  (idx k.s.IW t.2).bind λx=>
  bif x.Node != n.Id then
  some (.inl (t.1))
  else
  (cz t.1 x.Kj).bind λx1=>
  bif x1.2 != 0 then
   some (.inr false)
  else
   some (.inl (x1.1)):Option (Vec ⊕ Bool)).bind λq0=>
 match q0 with
 | .inl sum=>
  some (.inl (sum,I8 (t.2+1)))
 | .inr q=>
  some (.inr (.inl q))
 else
 some (.inr (.inr (t.1)))
def mQ(k:Look)(n:Node):Option Bool:=
 (loop (qP k n) ((⟨0,0⟩:Vec),0)).bind λq0=>
 match q0 with
 | .inl q1=>
 some q1
 | .inr ZI=>
 (d9 ZI n.Cap).bind λx2=>
 some x2
def al8:Spec fam:=⟨[Qj,Ql],[gt],λa=>mQ a.1 a.2.1⟩
def tD(s:List App)(f:(Jk fam [.st 6]→Option Bool)):Option Bool:=
 (iY s f).bind λx=>
 some (decide (x≥0))
def ali:Spec fam:=⟨[Qa,.fn [.st 6] .bool],[gt],λa=>tD a.1 a.2.1⟩
def tV(l:List App)(holds:(Jk fam [.st 6]→Option Bool)):Option Bool:=(tD l (λx=>(holds x).bind λr=>some (!r))).bind λr=>some (!r)
def al7:Spec fam:=⟨[Qa,.fn [.st 6] .bool],[gt],λa=>tV a.1 a.2.1⟩
def rf(k:Look)(a:App)(t:Int×Int×Int):Option ((Int×Int×Int) ⊕ ((Int×Int))):=
 bif decide (t.2.2<(k.s.IW.length:Int))then
 (
  (idx k.s.IW t.2.2).bind λx=>
  (
  bif x.App == a.Id then
   some (I8 (t.2.1+1))
  else
   some t.2.1).bind λall=>
  (
  bif x.App == a.Id then
   some x.I5
  else
   some false).bind λq=>
  bif q then
  some (I8 (t.1+1),all)
  else
  some (t.1,all)).bind λq1=>
 some (.inl (q1.1,q1.2,I8 (t.2.2+1)))
 else
 some (.inr (t.1,t.2.1))
def oC(k:Look)(a:App):Option Bool:=
 (loop (rf k a) (0,0,0)).bind λq2=>
 (
 bif a.GN == 1 then
  bif decide (q2.2>0)then
  some (.inr false)
  else
  some (.inl ())
 else
  bif a.GN == 2 then
  bif q2.1 != 1 then
   some (.inr false)
  else
   some (.inl ())
  else
  some (.inr true):Option (Unit ⊕ Bool)).bind λq0=>
 match q0 with
 | .inl _=>
 (jG k.s.I6 a.I4).bind λx1=>
 some x1
 | .inr q3=>
 some q3
def al6:Spec fam:=⟨[Qj,QP],[gt],λa=>oC a.1 a.2.1⟩
def rB(l:List Slot)(holds:(Jk fam [.st 8]→Option Bool)):Option Bool:=(kn l (λx=>(holds x).bind λr=>some (!r))).bind λr=>some (!r)
def al5:Spec fam:=⟨[Qi,.fn [.st 8] .bool],[gt],λa=>rB a.1 a.2.1⟩
def mT(k:Look)(x:Slot):Option Bool:=
 (fu k.s x.Node).bind λx1=>
 bif x1.2 then
 some x1.1.Up
 else
 some false
def al4:Spec fam:=⟨[Qj,Qs],[gt],λa=>mT a.1 a.2.1⟩
def qW(s:GN):Option Bool:=
 (jS s.I6).bind λx=>
 bif x == 0 then
 (mz (⟨⟨⟨s.I6.I7,s.I6.IX⟩,s.Jb,s.IY,s.IW,s.Jj,s.Ji,s.Now,s.Jq,s.Seq⟩⟩:Look)).bind λx1=>
 bif x1 then
  (kS (⟨⟨⟨s.I6.I7,s.I6.IX⟩,s.Jb,s.IY,s.IW,s.Jj,s.Ji,s.Now,s.Jq,s.Seq⟩⟩:Look)).bind λx2=>
  bif x2 then
  (rK s.IW (λa'=>mS (⟨⟨⟨s.I6.I7,s.I6.IX⟩,s.Jb,s.IY,s.IW,s.Jj,s.Ji,s.Now,s.Jq,s.Seq⟩⟩:Look) a'.1)).bind λx3=>
  bif x3 then
   (rJ s.Jb (λa'=>mQ (⟨⟨⟨s.I6.I7,s.I6.IX⟩,s.Jb,s.IY,s.IW,s.Jj,s.Ji,s.Now,s.Jq,s.Seq⟩⟩:Look) a'.1)).bind λx4=>
   bif x4 then
   (tV s.IY (λa'=>oC (⟨⟨⟨s.I6.I7,s.I6.IX⟩,s.Jb,s.IY,s.IW,s.Jj,s.Ji,s.Now,s.Jq,s.Seq⟩⟩:Look) a'.1)).bind λx5=>
   bif x5 then
    (rB s.Jj (λa'=>mT (⟨⟨⟨s.I6.I7,s.I6.IX⟩,s.Jb,s.IY,s.IW,s.Jj,s.Ji,s.Now,s.Jq,s.Seq⟩⟩:Look) a'.1)).bind λx6=>
    some x6
   else
    some false
   else
   some false
  else
   some false
  else
  some false
 else
  some false
 else
 some false
def amm:Spec fam:=⟨[f9],[gt],λa=>qW a.1⟩
def qL(t:GN×Int):Option ((GN×Int) ⊕ (Bool ⊕ GN)):=
 bif decide (t.2<([(⟨2,0,0,0,[],⟨1,0,0,⟨1,1⟩,0,0,false⟩,⟨0,0,[],0,0,⟨0,0⟩,[],0,0,[],[],[],[]⟩,[],[],⟨0,0,0,0,⟨0,0⟩⟩⟩:Input),(⟨4,0,0,0,[],⟨0,0,0,⟨0,0⟩,0,0,false⟩,⟨2,0,([114,111,111,116]:List UInt8),0,0,⟨1,1⟩,[],0,0,[],[],[],[]⟩,[],[],⟨0,0,0,0,⟨0,0⟩⟩⟩:Input),(⟨3,1,1,0,[],⟨0,0,0,⟨0,0⟩,0,0,false⟩,⟨0,0,[],0,0,⟨0,0⟩,[],0,0,[],[],[],[]⟩,[],[],⟨0,0,0,0,⟨0,0⟩⟩⟩:Input)].length:Int))then
 (Ka t.2 [(⟨2,0,0,0,[],⟨1,0,0,⟨1,1⟩,0,0,false⟩,⟨0,0,[],0,0,⟨0,0⟩,[],0,0,[],[],[],[]⟩,[],[],⟨0,0,0,0,⟨0,0⟩⟩⟩:Input),(⟨4,0,0,0,[],⟨0,0,0,⟨0,0⟩,0,0,false⟩,⟨2,0,([114,111,111,116]:List UInt8),0,0,⟨1,1⟩,[],0,0,[],[],[],[]⟩,[],[],⟨0,0,0,0,⟨0,0⟩⟩⟩:Input),(⟨3,1,1,0,[],⟨0,0,0,⟨0,0⟩,0,0,false⟩,⟨0,0,[],0,0,⟨0,0⟩,[],0,0,[],[],[],[]⟩,[],[],⟨0,0,0,0,⟨0,0⟩⟩⟩:Input)].length).bind λi=>
 ([(⟨2,0,0,0,[],⟨1,0,0,⟨1,1⟩,0,0,false⟩,⟨0,0,[],0,0,⟨0,0⟩,[],0,0,[],[],[],[]⟩,[],[],⟨0,0,0,0,⟨0,0⟩⟩⟩:Input),(⟨4,0,0,0,[],⟨0,0,0,⟨0,0⟩,0,0,false⟩,⟨2,0,([114,111,111,116]:List UInt8),0,0,⟨1,1⟩,[],0,0,[],[],[],[]⟩,[],[],⟨0,0,0,0,⟨0,0⟩⟩⟩:Input),(⟨3,1,1,0,[],⟨0,0,0,⟨0,0⟩,0,0,false⟩,⟨0,0,[],0,0,⟨0,0⟩,[],0,0,[],[],[],[]⟩,[],[],⟨0,0,0,0,⟨0,0⟩⟩⟩:Input)][i]?).bind λx1=>
 (fW t.1 x1).bind λx2=>
 bif x2.2.Err != 0 then
  some (.inr (.inl false))
 else
  some (.inl (x2.1,I8 (t.2+1)))
 else
 some (.inr (.inr (t.1)))
def iR:Option Bool:=
 (lR).bind λx=>
 (loop qL (x,0)).bind λq0=>
 match q0 with
 | .inl q=>
 some q
 | .inr s=>
 bif(s.IW.length:Int) == 1 then
  (Ka 0 s.IW.length).bind λi1=>
  (s.IW[i1]?).bind λx3=>
  bif x3.I5 then
  (qW s).bind λx4=>
  some x4
  else
  some false
 else
  some false
def h5:Hint:=(JJ (.s .z (JJ (.s .z (.s (JJ ((JX [(1,Qn),(4,ge)] [0,1,4,5,6] [(1,[(0,gt)]),(2,[(1,Qn)])] .z))) .z)))))
noncomputable def sp5:Spec fam:=⟨[],[gt],λ_=>iR⟩
def eP(x:Script):Option Bool:=
 bif decide ((x.Ns.length:Int)≤30)then
 some (decide ((x.Vm.length:Int)≤80))
 else
 some false
def h6:Hint:=.z
def sp6:Spec fam:=⟨[.v (.st 12) []],[gt],λa=>eP a.1⟩
def am(at_:Int)(n:Int):Option Int:=
 (nz n).bind λ_=>
 (
 bif decide ((Int.tmod at_ n)<0)then
  let k:=I8 ((Int.tmod at_ n)+n)
  some k
 else
  some (Int.tmod at_ n)).bind λk1=>
 some k1
def aml:Spec fam:=⟨[ge,ge],[ge],λa=>am a.1 a.2.1⟩
def qh(Ki:List UInt8)(k1:Int):Option (Int ⊕ Int):=
 (
 bif decide (k1≥0)then
  (idx Ki k1).bind λch=>
  some ((ch.toNat:Int) != 46)
 else
  some false).bind λq=>
 bif q then
 some (.inl (I8 (k1 - 1)))
 else
 some (.inr k1)
def ff(Ki:List UInt8):Option (List UInt8):=
 let k:=I8 ((Ki.length:Int) - 1)
 (loop (qh Ki) k).bind λk2=>
 bif decide (k2<0)then
 some ([]:List UInt8)
 else
 (slc Ki 0 k2).bind λs=>
 some s
def ale:Spec fam:=⟨[f8],[f8],λa=>ff a.1⟩
def dP(c:I6)(Ki:List UInt8)(t:List (List UInt8)×Int):Option ((List (List UInt8)×Int) ⊕ List (List UInt8)):=
 bif decide (t.2<(c.IX.length:Int))then
 (
  (
  bif ! (Ki == ([]:List UInt8))then
   (idx c.IX t.2).bind λx=>
   (ff x.J_).bind λx1=>
   some (x1 == Ki)
  else
   some false).bind λq=>
  bif q then
  (idx c.IX t.2).bind λx2=>
  (app 16 t.1 [x2.J_]).bind λl=>
  some l
  else
  some t.1).bind λl1=>
 some (.inl (l1,I8 (t.2+1)))
 else
 some (.inr t.1)
def dD(c:I6)(Ki:List UInt8):Option (List (List UInt8)):=
 (loop (dP c Ki) ([],0)).bind λl2=>
 some l2
def h36:Hint:=(JJ (.s .z (.s (JJ ((JX [(5,t6),(6,ge)] [5,6,26] [(2,[(5,t6)])] (JJ (.s (.j [5,26] [(0,[(5,t6)])] (.b JE)) .z))))) .z)))
def al0:Spec fam:=⟨[Q5,f8],[t6],λa=>dD a.1 a.2.1⟩
def gq(c:I6)(Ki:List UInt8)(t:I4×Int):Option ((I4×Int) ⊕ ((I4×Bool) ⊕ I4)):=
 bif decide (t.2<(c.IX.length:Int))then
 (idx c.IX t.2).bind λx=>
 bif x.J_ == Ki then
  (idx c.IX t.2).bind λx1=>
  (app 16 [] x1.KU).bind λl=>
  some (.inr (.inl ((⟨x1.J_,l,x1.User⟩:I4),true)))
 else
  some (.inl (t.1,I8 (t.2+1)))
 else
 some (.inr (.inr (t.1)))
def iN(c:I6)(Ki:List UInt8):Option (I4×Bool):=
 (loop (gq c Ki) ((⟨[],[],0⟩:I4),0)).bind λq0=>
 match q0 with
 | .inl q=>
 some (q.1,q.2)
 | .inr q1=>
 some ((⟨[],[],0⟩:I4),false)
def alf:Spec fam:=⟨[Q5,f8],[.v (.st 2) [1],gt],λa=>iN a.1 a.2.1⟩
def fP(c:I6)(Ki:List UInt8):Option Bool:=
 (iN c Ki).bind λx=>
 bif x.2 then
 (dD c Ki).bind λx1=>
 some ((x1.length:Int) == 0)
 else
 some false
def al3:Spec fam:=⟨[Q5,f8],[gt],λa=>fP a.1 a.2.1⟩
def cS(c:I6)(t:List (List UInt8)×Int):Option ((List (List UInt8)×Int) ⊕ List (List UInt8)):=
 bif decide (t.2<(c.IX.length:Int))then
 (
  (idx c.IX t.2).bind λx=>
  (fP c x.J_).bind λx1=>
  bif x1 then
  (idx c.IX t.2).bind λx2=>
  (app 16 t.1 [x2.J_]).bind λl=>
  some l
  else
  some t.1).bind λl1=>
 some (.inl (l1,I8 (t.2+1)))
 else
 some (.inr t.1)
def eL(c:I6):Option (List (List UInt8)):=
 (loop (cS c) ([],0)).bind λl2=>
 some l2
def amk:Spec fam:=⟨[Q5],[t6],λa=>eL a.1⟩
def dH(n:Int):Option Vec:=
 (am n 5).bind λx=>
 (Ka x [(⟨1,1⟩:Vec),(⟨2,1⟩:Vec),(⟨4,4⟩:Vec),(⟨3,2⟩:Vec),(⟨1,3⟩:Vec)].length).bind λi=>
 ([(⟨1,1⟩:Vec),(⟨2,1⟩:Vec),(⟨4,4⟩:Vec),(⟨3,2⟩:Vec),(⟨1,3⟩:Vec)][i]?).bind λx1=>
 some x1
def h16:Hint:=.z
def amj:Spec fam:=⟨[ge],[t7],λa=>dH a.1⟩
def b9(a:Act)(s:GN)(x1:App)(t:Input×Int):Option ((Input×Int) ⊕ Input):=
 bif decide (t.2<(s.IW.length:Int))then
 (
  (
  (idx s.IW t.2).bind λM_=>
  bif M_.App == x1.Id then
   (am (I8 (a.D+t.2)) 11).bind λOo=>
   some (Oo == 10)
  else
   some false).bind λq=>
  bif q then
  (idx s.IW t.2).bind λPO=>
  (app 8 t.1.Ids [PO.Id]).bind λl=>
  some (⟨t.1.Kind,t.1.Id,t.1.J6,t.1.N,t.1.Text,⟨t.1.Node.Id,t.1.Node.I_,t.1.Node.KF,⟨t.1.Node.Cap.Mem,t.1.Node.Cap.IZ⟩,t.1.Node.Kz,t.1.Node.J6,t.1.Node.Up⟩,⟨t.1.App.Id,t.1.App.GN,t.1.App.I4,t.1.App.User,t.1.App.Jt,⟨t.1.App.I5.Mem,t.1.App.I5.IZ⟩,t.1.App.Ju,t.1.App.Kz,t.1.App.J6,t.1.App.Ke,t.1.App.KE,t.1.App.Told,t.1.App.Lg⟩,t.1.Ju,l,⟨t.1.Jd.Id,t.1.Jd.I_,t.1.Jd.From,t.1.Jd.Until,⟨t.1.Jd.Need.Mem,t.1.Jd.Need.IZ⟩⟩⟩:Input)
  else
  some t.1).bind λN_=>
 some (.inl (N_,I8 (t.2+1)))
 else
 some (.inr t.1)
def cL(a:Act)(s:GN):Option Input:=
 bif(s.IY.length:Int) == 0 then
 some (⟨5,0,0,0,[],⟨0,0,0,⟨0,0⟩,0,0,false⟩,⟨0,0,[],0,0,⟨0,0⟩,[],0,0,[],[],[],[]⟩,[],[],⟨0,0,0,0,⟨0,0⟩⟩⟩:Input)
 else
 (am a.A (s.IY.length:Int)).bind λx=>
 (idx s.IY x).bind λx1=>
 (am a.B 8).bind λx2=>
 (
  bif decide ((Int.tmod a.C 3)>0)then
  (am a.B 5).bind λx3=>
  (am a.C (s.I6.I7.length:Int)).bind λx4=>
  (dH a.D).bind λx5=>
  (am a.D 7).bind λx6=>
  (
   bif(Int.tmod a.D 4) == 1 then
   (am a.C 3).bind λx7=>
   some (⟨x3,x4,⟨x5.Mem,x5.IZ⟩,x6,(-1),x7,0⟩:Ask)
   else
   some (⟨x3,x4,⟨x5.Mem,x5.IZ⟩,x6,(-1),(-1),0⟩:Ask)).bind λk=>
  (
   bif(Int.tmod a.D 4) == 2 then
   (am a.C 3).bind λx8=>
   (am a.B 6).bind λx9=>
   some (⟨k.Jt,k.I_,⟨k.Kj.Mem,k.Kj.IZ⟩,k.KC,x9,x8,k.Nh⟩:Ask)
   else
   some k).bind λk1=>
  some (⟨5,x1.Id,I8 ((I8 (x1.J6+1)) - (I8 (Int.tdiv x2 6))),0,[],⟨0,0,0,⟨0,0⟩,0,0,false⟩,⟨0,0,[],0,0,⟨0,0⟩,[],0,0,[],[],[],[]⟩,[k1],[],⟨0,0,0,0,⟨0,0⟩⟩⟩:Input)
  else
  some (⟨5,x1.Id,I8 ((I8 (x1.J6+1)) - (I8 (Int.tdiv x2 6))),0,[],⟨0,0,0,⟨0,0⟩,0,0,false⟩,⟨0,0,[],0,0,⟨0,0⟩,[],0,0,[],[],[],[]⟩,[],[],⟨0,0,0,0,⟨0,0⟩⟩⟩:Input)).bind λx10=>
 (loop (b9 a s x1) (x10,0)).bind λSH=>
 some SH
def ami:Spec fam:=⟨[.v (.st 11) [],f9],[Qq],λa=>cL a.1 a.2.1⟩
def b7(self:Int→Option (List UInt8))(n:Int):Option (List UInt8):=
 bif decide (n<0)then
 bif n == (-9223372036854775808)then
  some ([45,57,50,50,51,51,55,50,48,51,54,56,53,52,55,55,53,56,48,56]:List UInt8)
 else
  (self (I8 (0 - n))).bind λx=>
  (cat ([45]:List UInt8) x).bind λs=>
  some s
 else
 bif decide (n≥10)then
  (self (I8 (Int.tdiv n 10))).bind λx1=>
  (self (Int.tmod n 10)).bind λx2=>
  (cat x1 x2).bind λs1=>
  some s1
 else
  some (List.map toB [IntKind.u8.wrap (I8 (48+n))])
def bz:Nat→Int→Option (List UInt8)
 | 0=>λ_=>none
 | n+1=>b7 (bz n)
def cm(a0:Int):Option (List UInt8):=bz 64 a0
def h34:Hint:=.z
def al2:Spec fam:=⟨[ge],[f8],λa=>cm a.1⟩
def Ii(n:Nat):Spec fam:=⟨[.v (.int .i64) []],[.v .str []],λa=>bz n a.1⟩
def dX(x1:I4)(t2:List UInt8×Int):Option ((List UInt8×Int) ⊕ List UInt8):=
 bif decide (t2.2<(x1.KU.length:Int))then
 (cat t2.1 ([32]:List UInt8)).bind λs7=>
 (idx x1.KU t2.2).bind λx3=>
 (cm x3.Ls).bind λx4=>
 (cat s7 x4).bind λs8=>
 (cat s8 ([47]:List UInt8)).bind λs9=>
 (idx x1.KU t2.2).bind λx5=>
 (cm x5.Most).bind λx6=>
 (cat s9 x6).bind λs10=>
 some (.inl (s10,I8 (t2.2+1)))
 else
 some (.inr t2.1)
def dU(c:I6)(t1:List UInt8×Int):Option ((List UInt8×Int) ⊕ List UInt8):=
 bif decide (t1.2<(c.IX.length:Int))then
 (idx c.IX t1.2).bind λx1=>
 (cat t1.1 ([113,117,101,117,101,32]:List UInt8)).bind λs3=>
 (cat s3 x1.J_).bind λs4=>
 (cat s4 ([32]:List UInt8)).bind λs5=>
 (cm x1.User).bind λx2=>
 (cat s5 x2).bind λs6=>
 (loop (dX x1) (s6,0)).bind λLG=>
 (cat LG ([10]:List UInt8)).bind λs11=>
 some (.inl (s11,I8 (t1.2+1)))
 else
 some (.inr t1.1)
def jY(c:I6)(t:List UInt8×Int):Option ((List UInt8×Int) ⊕ List UInt8):=
 bif decide (t.2<(c.I7.length:Int))then
 (cat t.1 ([32]:List UInt8)).bind λs=>
 (idx c.I7 t.2).bind λx=>
 (cat s x).bind λs1=>
 some (.inl (s1,I8 (t.2+1)))
 else
 some (.inr t.1)
def fN(c:I6):Option (List UInt8):=
 (loop (jY c) (([108,97,98,101,108,115]:List UInt8),1)).bind λout=>
 (cat out ([10]:List UInt8)).bind λs2=>
 (loop (dU c) (s2,0)).bind λU_=>
 some U_
def amh:Spec fam:=⟨[Q5],[f8],λa=>fN a.1⟩
def aU(at_:Int)(n:Int):Option Int:=
 (nz n).bind λ_=>
 (
 bif decide ((Int.tmod at_ n)<0)then
  let k:=I8 ((Int.tmod at_ n)+n)
  some k
 else
  some (Int.tmod at_ n)).bind λk1=>
 some k1
def al1:Spec fam:=⟨[ge,ge],[ge],λa=>aU a.1 a.2.1⟩
def bT(ns:List Int)(i:Int):Option Int:=
 bif(ns.length:Int) == 0 then
 some i
 else
 (nz (ns.length:Int)).bind λ_=>
 (idx ns (Int.tmod i (ns.length:Int))).bind λx=>
 some x
def alZ:Spec fam:=⟨[QQ,ge],[ge],λa=>bT a.1 a.2.1⟩
def cB(kids:List (List UInt8))(t3:I6×Int)(t4:I6×Int×Int)(n:Int)(UA:Int)(t5:I6×Int):Option ((I6×Int) ⊕ I6):=
 bif decide (t5.2<(t5.1.IX.length:Int))then
 (
  (Ka t5.2 t5.1.IX.length).bind λi3=>
  (t5.1.IX[i3]?).bind λx18=>
  (Ka t4.2.2 kids.length).bind λi4=>
  (kids[i4]?).bind λx19=>
  bif x18.J_ == x19 then
  (Ka t5.2 t5.1.IX.length).bind λi5=>
  (t5.1.IX[i5]?).bind λx20=>
  (t5.1.IX[i5]?).bind λx21=>
  (Ka t3.2 x21.KU.length).bind λi6=>
  (t5.1.IX[i5]?).bind λx22=>
  (x22.KU[i6]?).bind λy=>
  some (⟨t5.1.I7,List.set t5.1.IX i5 (⟨x22.J_,List.set x22.KU i6 (⟨n,UA⟩:Cap),x22.User⟩:I4)⟩:I6)
  else
  some t5.1).bind λc1=>
 some (.inl (c1,I8 (t5.2+1)))
 else
 some (.inr t5.1)
def cw(ns:List Int)(t2:I6×Int)(kids:List (List UInt8))(t3:I6×Int)(t4:I6×Int×Int):Option ((I6×Int×Int) ⊕ I6):=
 bif decide (t4.2.2<(kids.length:Int))then
 (
  bif decide (t4.2.2<(I8 ((kids.length:Int) - 1)))then
  (bT ns (I8 ((I8 (t2.2+t4.2.2))+t3.2))).bind λx8=>
  (aU x8 (I8 (t4.2.1+1))).bind λx9=>
  (bT ns (I8 ((I8 (t2.2*t4.2.2))+t3.2))).bind λx10=>
  (aU x10 4).bind λM_=>
  (Ka M_ [0,I8 (Int.tdiv t4.2.1 2),t4.2.1,x9].length).bind λi1=>
  ([0,I8 (Int.tdiv t4.2.1 2),t4.2.1,x9][i1]?).bind λOo=>
  some Oo
  else
  some t4.2.1).bind λn=>
 (bT ns (I8 (t4.2.2+t3.2))).bind λPO=>
 (aU PO (I8 ((I8 (10000 - n))+1))).bind λN_=>
 (bT ns (I8 (t2.2+(I8 (2*t4.2.2))))).bind λSH=>
 (aU SH 3).bind λUM=>
 (Ka UM [10000,n,I8 (n+N_)].length).bind λi2=>
 ([10000,n,I8 (n+N_)][i2]?).bind λUA=>
 (loop (cB kids t3 t4 n UA) (t4.1,0)).bind λc2=>
 some (.inl (c2,I8 (t4.2.1 - n),I8 (t4.2.2+1)))
 else
 some (.inr t4.1)
def dV(ns:List Int)(t2:I6×Int)(kids:List (List UInt8))(t3:I6×Int):Option ((I6×Int) ⊕ I6):=
 bif decide (t3.2<(t3.1.I7.length:Int))then
 (loop (cw ns t2 kids t3) (t3.1,10000,0)).bind λc3=>
 some (.inl (c3,I8 (t3.2+1)))
 else
 some (.inr t3.1)
def cq(ns:List Int)(x2:List (List UInt8))(t2:I6×Int):Option ((I6×Int) ⊕ I6):=
 bif decide (t2.2<(x2.length:Int))then
 (idx x2 t2.2).bind λx7=>
 (dD t2.1 x7).bind λkids=>
 (loop (dV ns t2 kids) (t2.1,0)).bind λc4=>
 some (.inl (c4,I8 (t2.2+1)))
 else
 some (.inr t2.1)
def dL(t:I6×Int)(t1:I4×Int):Option ((I4×Int) ⊕ I4):=
 bif decide (t1.2<(t.1.I7.length:Int))then
 (app 16 t1.1.KU [(⟨10000,10000⟩:Cap)]).bind λl=>
 some (.inl ((⟨t1.1.J_,l,t1.1.User⟩:I4),I8 (t1.2+1)))
 else
 some (.inr t1.1)
def cu(ns:List Int)(x2:List (List UInt8))(t:I6×Int):Option ((I6×Int) ⊕ I6):=
 bif decide (t.2<(x2.length:Int))then
 (idx x2 t.2).bind λx3=>
 (
  (
  bif decide (t.2<(ns.length:Int))then
   (idx ns t.2).bind λx4=>
   some ((Int.tmod x4 3) == 0)
  else
   some false).bind λq=>
  bif q then
  (idx ns t.2).bind λx5=>
  (aU x5 20000).bind λx6=>
  some (⟨x3,[],I8 (1+x6)⟩:I4)
  else
  some (⟨x3,[],1000000⟩:I4)).bind λq1=>
 (loop (dL t) (q1,0)).bind λq2=>
 (app 48 t.1.IX [q2]).bind λl1=>
 some (.inl ((⟨t.1.I7,l1⟩:I6),I8 (t.2+1)))
 else
 some (.inr t.1)
def fO(shape:Int)(ns:List Int):Option I6:=
 (aU (I8 (Int.tdiv shape 5)) 2).bind λx=>
 (Mj 0 (I8 (1+x)) [([]:List UInt8),([103,112,117]:List UInt8)].length).bind λp=>
 (aU shape 5).bind λx1=>
 (Ka x1 [[([114,111,111,116]:List UInt8)],[([114,111,111,116]:List UInt8),([114,111,111,116,46,97]:List UInt8),([114,111,111,116,46,98]:List UInt8)],[([114,111,111,116]:List UInt8),([114,111,111,116,46,97]:List UInt8),([114,111,111,116,46,97,46,120]:List UInt8),([114,111,111,116,46,97,46,121]:List UInt8),([114,111,111,116,46,98]:List UInt8)],[([114,111,111,116]:List UInt8),([114,111,111,116,46,97]:List UInt8),([114,111,111,116,46,98]:List UInt8),([114,111,111,116,46,98,46,120]:List UInt8),([114,111,111,116,46,98,46,120,46,112]:List UInt8),([114,111,111,116,46,98,46,120,46,113]:List UInt8),([114,111,111,116,46,99]:List UInt8)],[([114,111,111,116]:List UInt8),([114,111,111,116,46,97]:List UInt8)]].length).bind λi=>
 ([[([114,111,111,116]:List UInt8)],[([114,111,111,116]:List UInt8),([114,111,111,116,46,97]:List UInt8),([114,111,111,116,46,98]:List UInt8)],[([114,111,111,116]:List UInt8),([114,111,111,116,46,97]:List UInt8),([114,111,111,116,46,97,46,120]:List UInt8),([114,111,111,116,46,97,46,121]:List UInt8),([114,111,111,116,46,98]:List UInt8)],[([114,111,111,116]:List UInt8),([114,111,111,116,46,97]:List UInt8),([114,111,111,116,46,98]:List UInt8),([114,111,111,116,46,98,46,120]:List UInt8),([114,111,111,116,46,98,46,120,46,112]:List UInt8),([114,111,111,116,46,98,46,120,46,113]:List UInt8),([114,111,111,116,46,99]:List UInt8)],[([114,111,111,116]:List UInt8),([114,111,111,116,46,97]:List UInt8)]][i]?).bind λx2=>
 (loop (cu ns x2) ((⟨sub [([]:List UInt8),([103,112,117]:List UInt8)] p.1 p.2,[]⟩:I6),0)).bind λc=>
 (loop (cq ns x2) (c,0)).bind λc5=>
 some c5
def amg:Spec fam:=⟨[ge,QQ],[.v (.st 3) [1001]],λa=>fO a.1 a.2.1⟩
def cj(a:Act)(s:GN)(Lc:Int)(t1:Input×Int):Option ((Input×Int) ⊕ Input):=
 bif decide (t1.2<(s.IW.length:Int))then
 (
  (
  (idx s.IW t1.2).bind λM_=>
  bif M_.Node == Lc then
   (am (I8 (a.C+t1.2)) 9).bind λOo=>
   some (Oo == 8)
  else
   some false).bind λq2=>
  bif q2 then
  (idx s.IW t1.2).bind λPO=>
  (app 8 t1.1.Ids [PO.Id]).bind λl=>
  some (⟨t1.1.Kind,t1.1.Id,t1.1.J6,t1.1.N,t1.1.Text,⟨t1.1.Node.Id,t1.1.Node.I_,t1.1.Node.KF,⟨t1.1.Node.Cap.Mem,t1.1.Node.Cap.IZ⟩,t1.1.Node.Kz,t1.1.Node.J6,t1.1.Node.Up⟩,⟨t1.1.App.Id,t1.1.App.GN,t1.1.App.I4,t1.1.App.User,t1.1.App.Jt,⟨t1.1.App.I5.Mem,t1.1.App.I5.IZ⟩,t1.1.App.Ju,t1.1.App.Kz,t1.1.App.J6,t1.1.App.Ke,t1.1.App.KE,t1.1.App.Told,t1.1.App.Lg⟩,t1.1.Ju,l,⟨t1.1.Jd.Id,t1.1.Jd.I_,t1.1.Jd.From,t1.1.Jd.Until,⟨t1.1.Jd.Need.Mem,t1.1.Jd.Need.IZ⟩⟩⟩:Input)
  else
  some t1.1).bind λN_=>
 some (.inl (N_,I8 (t1.2+1)))
 else
 some (.inr t1.1)
def ck(a:Act)(s:GN)(Lc:Int)(t:Input×Int):Option ((Input×Int) ⊕ Input):=
 bif decide (t.2<(s.Jb.length:Int))then
 (
  (idx s.Jb t.2).bind λx6=>
  bif x6.Id == Lc then
  (idx s.Jb t.2).bind λx7=>
  (am a.B 8).bind λx8=>
  some (⟨t.1.Kind,t.1.Id,I8 ((I8 (x7.J6+1)) - (I8 (Int.tdiv x8 6))),t.1.N,t.1.Text,⟨t.1.Node.Id,t.1.Node.I_,t.1.Node.KF,⟨t.1.Node.Cap.Mem,t.1.Node.Cap.IZ⟩,t.1.Node.Kz,t.1.Node.J6,t.1.Node.Up⟩,⟨t.1.App.Id,t.1.App.GN,t.1.App.I4,t.1.App.User,t.1.App.Jt,⟨t.1.App.I5.Mem,t.1.App.I5.IZ⟩,t.1.App.Ju,t.1.App.Kz,t.1.App.J6,t.1.App.Ke,t.1.App.KE,t.1.App.Told,t.1.App.Lg⟩,t.1.Ju,t.1.Ids,⟨t.1.Jd.Id,t.1.Jd.I_,t.1.Jd.From,t.1.Jd.Until,⟨t.1.Jd.Need.Mem,t.1.Jd.Need.IZ⟩⟩⟩:Input)
  else
  some t.1).bind λx9=>
 some (.inl (x9,I8 (t.2+1)))
 else
 some (.inr t.1)
def cW(a:Act)(s:GN):Option Input:=
 (am a.A 6).bind λLc=>
 (eL s.I6).bind λleaves=>
 (am a.B 4).bind λx=>
 (
 (am a.Kind 16).bind λx1=>
 (
  bif x1 == 0 then
  some (x1 == 0)
  else
  some (x1 == 1)).bind λq=>
 bif q then
  (am a.B (s.I6.I7.length:Int)).bind λx2=>
  (am a.C 3).bind λx3=>
  (am a.D 12).bind λx4=>
  (am a.D 8).bind λx5=>
  some (⟨2,Lc,0,I8 (1+x),[],⟨Lc,x2,x3,⟨I8 (4+x4),I8 (4+x5)⟩,0,0,false⟩,⟨0,0,[],0,0,⟨0,0⟩,[],0,0,[],[],[],[]⟩,[],[],⟨0,0,0,0,⟨0,0⟩⟩⟩:Input)
 else
  (
  bif x1 == 2 then
   some (x1 == 2)
  else
   bif x1 == 3 then
   some (x1 == 3)
   else
   bif x1 == 4 then
    some (x1 == 4)
   else
    some (x1 == 5)).bind λq1=>
  bif q1 then
  (loop (ck a s Lc) ((⟨3,Lc,0,I8 (1+x),[],⟨0,0,0,⟨0,0⟩,0,0,false⟩,⟨0,0,[],0,0,⟨0,0⟩,[],0,0,[],[],[],[]⟩,[],[],⟨0,0,0,0,⟨0,0⟩⟩⟩:Input),0)).bind λx10=>
  (loop (cj a s Lc) (x10,0)).bind λSH=>
  some SH
  else
  (
   bif x1 == 6 then
   some (x1 == 6)
   else
   some (x1 == 7)).bind λq3=>
  bif q3 then
   (am a.A 20).bind λUM=>
   (am a.B (leaves.length:Int)).bind λUA=>
   (Ka UA leaves.length).bind λi=>
   (leaves[i]?).bind λx18=>
   (am a.C 3).bind λx19=>
   (am a.D 3).bind λx20=>
   (dH (I8 (Int.tdiv a.D 3))).bind λx21=>
   some (⟨4,Lc,0,I8 (1+x),[],⟨0,0,0,⟨0,0⟩,0,0,false⟩,⟨UM,0,x18,x19,x20,⟨x21.Mem,x21.IZ⟩,[],0,0,[],[],[],[]⟩,[],[],⟨0,0,0,0,⟨0,0⟩⟩⟩:Input)
  else
   (
   bif x1 == 8 then
    some (x1 == 8)
   else
    bif x1 == 9 then
    some (x1 == 9)
    else
    some (x1 == 10)).bind λq4=>
   bif q4 then
   (cL a s).bind λx22=>
   some x22
   else
   bif x1 == 11 then
    (am a.B 2).bind λx23=>
    (Ka x23 [6,7].length).bind λi1=>
    ([6,7][i1]?).bind λx24=>
    (am a.A 20).bind λx25=>
    some (⟨x24,x25,0,I8 (1+x),[],⟨0,0,0,⟨0,0⟩,0,0,false⟩,⟨0,0,[],0,0,⟨0,0⟩,[],0,0,[],[],[],[]⟩,[],[],⟨0,0,0,0,⟨0,0⟩⟩⟩:Input)
   else
    (
    bif x1 == 12 then
     some (x1 == 12)
    else
     some (x1 == 13)).bind λq5=>
    bif q5 then
    (am a.A 5).bind λx26=>
    some (⟨8,Lc,0,I8 (1+x26),[],⟨0,0,0,⟨0,0⟩,0,0,false⟩,⟨0,0,[],0,0,⟨0,0⟩,[],0,0,[],[],[],[]⟩,[],[],⟨0,0,0,0,⟨0,0⟩⟩⟩:Input)
    else
    bif x1 == 14 then
     (am a.D 3).bind λx27=>
     (Ka x27 [9,9,10].length).bind λi2=>
     ([9,9,10][i2]?).bind λx28=>
     (am a.B (s.I6.I7.length:Int)).bind λx29=>
     (am a.C 5).bind λx30=>
     (dH a.D).bind λx31=>
     (am a.C 12).bind λx32=>
     some (⟨x28,Lc,0,I8 (1+x32),[],⟨0,0,0,⟨0,0⟩,0,0,false⟩,⟨0,0,[],0,0,⟨0,0⟩,[],0,0,[],[],[],[]⟩,[],[],⟨Lc,x29,I8 (s.Now+x30),I8 (s.Now+20),⟨x31.Mem,x31.IZ⟩⟩⟩:Input)
    else
     bif x1 == 15 then
     (am a.A 3).bind λx33=>
     (Ka x33 [11,1,1].length).bind λi3=>
     ([11,1,1][i3]?).bind λx34=>
     (fO a.B [a.C,a.D]).bind λx35=>
     (fN x35).bind λx36=>
     some (⟨x34,Lc,0,I8 (1+x),x36,⟨0,0,0,⟨0,0⟩,0,0,false⟩,⟨0,0,[],0,0,⟨0,0⟩,[],0,0,[],[],[],[]⟩,[],[],⟨0,0,0,0,⟨0,0⟩⟩⟩:Input)
     else
     some (⟨0,Lc,0,I8 (1+x),[],⟨0,0,0,⟨0,0⟩,0,0,false⟩,⟨0,0,[],0,0,⟨0,0⟩,[],0,0,[],[],[],[]⟩,[],[],⟨0,0,0,0,⟨0,0⟩⟩⟩:Input)).bind λx37=>
 some x37
def h8:Hint:=(JJ (.s .z (JJ (.s .z (.s (.j [8,9,10,27,28,29,30,53,109,121,148,168] [(0,[(8,QX)])] (JJ (.b (.s JM (.c .z (.s (.j [] [(0,[(53,gt)])] .z) (.c (JJ (.s (JJ ((JX [(8,QX),(9,ge)] [8,9] [(3,[(8,QX)])] (JJ (.s (.j [8] [(0,[(8,QX)])] .z) .z))))) (JJ ((JX [(8,QX),(10,ge)] [8,10,109] [(5,[(8,QX)])] (JJ (.s (.j [8,109] [(0,[(8,QX)])] (.b (.s (.j [] [(0,[(109,gt)])] .z) .z))) .z))))))) (.s (.j [] [(0,[(121,gt)])] .z) (.c .z (.s (.j [] [(0,[(148,gt)])] .z) (.c .z (JJ (.c .z (.s (.j [] [(0,[(168,gt)])] .z) .z)))))))))))))) .z)))))
def sp8:Spec fam:=⟨[.v (.st 11) [],f9],[Qq],λa=>cW a.1 a.2.1⟩
def fX(s:GN)(Lc:Int)(t:Cont×Int):Option ((Cont×Int) ⊕ ((Cont×Bool) ⊕ Cont)):=
 bif decide (t.2<(s.IW.length:Int))then
 (idx s.IW t.2).bind λx=>
 bif x.Id == Lc then
  (idx s.IW t.2).bind λx1=>
  some (.inr (.inl (x1,true)))
 else
  some (.inl (t.1,I8 (t.2+1)))
 else
 some (.inr (.inr (t.1)))
def fd(s:GN)(Lc:Int):Option (Cont×Bool):=
 (loop (fX s Lc) ((⟨0,0,0,⟨0,0⟩,0,0,false,0⟩:Cont),0)).bind λq0=>
 match q0 with
 | .inl q=>
 some (q.1,q.2)
 | .inr q1=>
 some ((⟨0,0,0,⟨0,0⟩,0,0,false,0⟩:Cont),false)
def h10:Hint:=(JJ (.s (JJ ((JX [(4,QD),(6,ge)] [4,5,6] [(1,[(4,QD),(5,gt)]),(2,[(4,QD)])] .z))) .z))
def amo:Spec fam:=⟨[f9,ge],[QI,gt],λa=>fd a.1 a.2.1⟩
def fY(s:GN)(Lc:Int)(t:App×Int):Option ((App×Int) ⊕ ((App×Bool) ⊕ App)):=
 bif decide (t.2<(s.IY.length:Int))then
 (idx s.IY t.2).bind λx=>
 bif x.Id == Lc then
  (idx s.IY t.2).bind λx1=>
  some (.inr (.inl (x1,true)))
 else
  some (.inl (t.1,I8 (t.2+1)))
 else
 some (.inr (.inr (t.1)))
def fD(s:GN)(Lc:Int):Option (App×Bool):=
 (loop (fY s Lc) ((⟨0,0,[],0,0,⟨0,0⟩,[],0,0,[],[],[],[]⟩:App),0)).bind λq0=>
 match q0 with
 | .inl q=>
 some (q.1,q.2)
 | .inr q1=>
 some ((⟨0,0,[],0,0,⟨0,0⟩,[],0,0,[],[],[],[]⟩:App),false)
def h11:Hint:=(JJ (.s (JJ ((JX [(4,QZ),(6,ge)] [4,5,6] [(1,[(4,.box (.st 6) []),(5,gt)]),(2,[(4,QZ)])] .z))) .z))
def amn:Spec fam:=⟨[f9,ge],[QP,gt],λa=>fD a.1 a.2.1⟩
def bL(x7:Cont)(x9:App×Bool)(t1:Bool×Int):Option ((Bool×Int) ⊕ Bool):=
 bif decide (t1.2<(x9.1.Ju.length:Int))then
 (
  bif t1.1 then
  some true
  else
  (idx x9.1.Ju t1.2).bind λx10=>
  bif x10.Jt == x7.Jt then
   (idx x9.1.Ju t1.2).bind λM_=>
   bif M_.I_ == x7.I_ then
   (idx x9.1.Ju t1.2).bind λOo=>
   let is:=(Oo.Kj.Mem == x7.Kj.Mem)&&(Oo.Kj.IZ == x7.Kj.IZ)
   some is
   else
   some false
  else
   some false).bind λis1=>
 some (.inl (is1,I8 (t1.2+1)))
 else
 some (.inr t1.1)
def bI(t:GN×Int)(x5:Input)(x6:GN×Output)(k:Int):Option (Int ⊕ (Bool ⊕ Unit)):=
 bif decide (k<(x6.1.IW.length:Int))then
 (
  (Ka k x6.1.IW.length).bind λi=>
  (x6.1.IW[i]?).bind λx7=>
  (fd t.1 x7.Id).bind λx8=>
  bif x8.2 then
  some (.inl ())
  else
  (fD t.1 x7.App).bind λx9=>
  (loop (bL x7 x9) (false,0)).bind λis2=>
  (
   bif is2 then
   some true
   else
   bif x7.I5 then
    bif x7.Jt == 0 then
    bif x7.I_ == 0 then
     let is3:=(x7.Kj.Mem == x9.1.I5.Mem)&&(x7.Kj.IZ == x9.1.I5.IZ)
     some is3
    else
     some false
    else
    some false
   else
    some false).bind λis4=>
  (
   bif ! is4 then
   some true
   else
   bif x5.Kind != 3 then
    some true
   else
    some (x7.Node != x5.Id)).bind λq1=>
  bif q1 then
   some (.inr false)
  else
   some (.inl ()):Option (Unit ⊕ Bool)).bind λq0=>
 match q0 with
 | .inl _=>
  some (.inl (I8 (k+1)))
 | .inr q2=>
  some (.inr (.inl q2))
 else
 some (.inr (.inr ()))
def cx(x:Script)(t:GN×Int):Option ((GN×Int) ⊕ (Bool ⊕ Unit)):=
 (
 bif decide (t.2<(x.Vm.length:Int))then
  some (decide (t.2<50))
 else
  some false).bind λq=>
 bif q then
 (idx x.Vm t.2).bind λx4=>
 (cW x4 t.1).bind λx5=>
 (fW t.1 x5).bind λx6=>
 (loop (bI t x5 x6) 0).bind λq0=>
 match q0 with
 | .inl q3=>
  some (.inr (.inl q3))
 | .inr _=>
  some (.inl (x6.1,I8 (t.2+1)))
 else
 some (.inr (.inr ()))
def dw(x:Script):Option Bool:=
 (iR).bind λx1=>
 bif ! x1 then
 some false
 else
 (eP x).bind λx2=>
 bif ! x2 then
  some true
 else
  (lR).bind λx3=>
  (loop (cx x) (x3,0)).bind λq0=>
  match q0 with
  | .inl q4=>
  some q4
  | .inr _=>
  some true
def h3:Hint:=(JJ (.s .z (JJ (.s .z (.s (JJ ((JX [(3,Qn),(4,ge)] [2,3,4,5,6,7,8,9,10,11,12,13,14,15,30,149] [(1,[(2,gt)]),(2,[])] (.s (.s JM .z) (.s (.b (JJ (.s .z (.s (JJ ((JX [(8,ge)] [2,8,9,10,11,12,13,14,15,149] [(1,[(2,gt)]),(4,[])] (JJ (.s (.j [2,9,10,11,12,13,14,15,149] [(0,[]),(1,[(2,gt)])] (.b (JJ (.s .z (JJ (.s .z (.s (JJ ((JX [(14,gt),(15,ge)] [14,15] [(6,[(14,gt)])] (JJ (.s (.j [14] [(0,[(14,gt)])] .z) .z))))) (.s (.j [14] [(0,[(14,gt)])] .z) (.s (.j [] [(0,[(149,gt)])] .z) .z))))))))) .z))))) .z)))) .z))))) .z)))))
def sp3:Spec fam:=⟨[.v (.st 12) []],[gt],λa=>dw a.1⟩
end
end Go.Fx.D
