/-
  The functions of the program that this law reaches, as functions over plain data (printed by a program). Conditions: none.
-/
import Derived.Test.YtppllkbjijfocaaGreatDoorD0
namespace Go.Fx.D
open Go Go.Fx Go.Proofs
set_option linter.unusedVariables false
noncomputable section
def GU(n:Nat):Spec fam:=⟨[.row (.st 6) false,.v (.int .i64) [],.v (.int .i64) [],.v (.int .i64) [],.fn [.st 6,.st 6] (.int .i64)],[],λa=>lz n a.1 a.2.1 a.2.2.1 a.2.2.2.1 a.2.2.2.2.1⟩
def vf(n:Int)(cmp:(Js fam [.st 6,.st 6]→Option Int))(t1:List App×Int)(t2:List App×Int×Int):Option ((List App×Int×Int) ⊕ ((List App×Int))):=
 bif decide (t2.2.2≤n)then
 (n7 t2.1 t2.2.1 (Jd (t2.2.1+t1.2)) t2.2.2 cmp).bind λx2=>
 let b:=Jd (t2.2.2+(Jd (2*t1.2)))
 some (.inl (x2,t2.2.2,b))
 else
 some (.inr (t2.1,t2.2.1))
def ka(n:Int)(cmp:(Js fam [.st 6,.st 6]→Option Int))(t1:List App×Int):Option ((List App×Int) ⊕ List App):=
 bif decide (t1.2<n)then
 (loop (vf n cmp t1) (t1.1,0,Jd (2*t1.2))).bind λq1=>
 (
  let m:=Jd (q1.2+t1.2)
  bif decide (m<n)then
  (n7 q1.1 q1.2 m n cmp).bind λx3=>
  some x3
  else
  some q1.1).bind λMN=>
 some (.inl (MN,Jd (t1.2*2)))
 else
 some (.inr t1.1)
def kF(n:Int)(cmp:(Js fam [.st 6,.st 6]→Option Int))(t:List App×Int×Int):Option ((List App×Int×Int) ⊕ ((List App×Int))):=
 bif decide (t.2.2≤n)then
 (ke t.1 t.2.1 t.2.2 cmp).bind λx=>
 some (.inl (x,t.2.2,Jd (t.2.2+20)))
 else
 some (.inr (t.1,t.2.1))
def nR(data:List App)(n:Int)(cmp:(Js fam [.st 6,.st 6]→Option Int)):Option (List App):=
 (loop (kF n cmp) (data,0,20)).bind λq=>
 (ke q.1 q.2 n cmp).bind λx1=>
 (loop (ka n cmp) (x1,20)).bind λNJ=>
 some NJ
def ac3:Spec fam:=⟨[ac,ge,.fn [.st 6,.st 6] (.int .i64)],[],λa=>nR a.1 a.2.1 a.2.2.1⟩
def kO(x:List App)(cmp:(Js fam [.st 6,.st 6]→Option Int)):Option (List App):=
 (nR x (x.length:Int) cmp).bind λx1=>
 some x1
def adi:Spec fam:=⟨[ac,.fn [.st 6,.st 6] (.int .i64)],[],λa=>kO a.1 a.2.1⟩
def iH(x:Int):Option Bool:=
 some (x != x)
def adx:Spec fam:=⟨[ge],[gt],λa=>iH a.1⟩
def cQ(x:Int)(y:Int):Option Int:=
 (iH x).bind λZI=>
 (iH y).bind λVa=>
 bif ZI then
 bif Va then
  some 0
 else
  some (-1)
 else
 bif Va then
  some 1
 else
  bif decide (x<y)then
  some (-1)
  else
  bif decide (x>y)then
   some 1
  else
   some 0
def adV:Spec fam:=⟨[ge,ge],[ge],λa=>cQ a.1 a.2.1⟩
def oN(a:App)(b:App):Option Int:=
 (cQ b.J6 a.J6).bind λx=>
 (cQ a.Id b.Id).bind λx1=>
 (gS [x,x1]).bind λx2=>
 some x2
def adh:Spec fam:=⟨[QP,QP],[ge],λa=>oN a.1 a.2.1⟩
def jw(x2:List App)(t1:List Int×Int):Option ((List Int×Int) ⊕ List Int):=
 bif decide (t1.2<(x2.length:Int))then
 (Kk t1.2 x2.length).bind λi=>
 (x2[i]?).bind λx3=>
 (Kk t1.2 t1.1.length).bind λi1=>
 (t1.1[i1]?).bind λx4=>
 some (.inl (List.set t1.1 i1 x3.Id,Jd (t1.2+1)))
 else
 some (.inr t1.1)
def jx(s:Gp)(queue:List UInt8)(t:List App×Int):Option ((List App×Int) ⊕ List App):=
 bif decide (t.2<(s.I9.length:Int))then
 (
  (idx s.I9 t.2).bind λx=>
  (
  (ci x).bind λx1=>
  bif x1 then
   some (x.Ja == queue)
  else
   some false).bind λq=>
  bif q then
  (app 200 t.1 [x]).bind λl=>
  some l
  else
  some t.1).bind λl1=>
 some (.inl (l1,Jd (t.2+1)))
 else
 some (.inr t.1)
def ng(s:Gp)(queue:List UInt8):Option (List Int):=
 (loop (jx s queue) ([],0)).bind λl2=>
 (kO l2 (λa'=>oN a'.1 a'.2.1)).bind λx2=>
 (P7 8 (x2.length:Int) (x2.length:Int) 0).bind λl3=>
 (loop (jw x2) (l3,0)).bind λout=>
 some out
def adD:Spec fam:=⟨[f9,f8],[f0],λa=>ng a.1 a.2.1⟩
def pm(l:List Ask)(prio:Int):Option (List Ask):=
 (kY l).bind λout=>
 (
 (p8 out prio).bind λi=>
 bif decide (i≥0)then
  (Kk i out.length).bind λi1=>
  (out[i1]?).bind λx=>
  (Kk i out.length).bind λi2=>
  (out[i2]?).bind λx1=>
  some (List.set out i2 (⟨x1.J6,x1.Ji,⟨x1.Ku.Mem,x1.Ku.I_⟩,x1.Ky,x1.Node,x1.KL,Oj (Jd (x.Nn+1)) 100⟩:Ask))
 else
  some out).bind λLQ=>
 some LQ
def adg:Spec fam:=⟨[Q2,ge],[QC],λa=>pm a.1 a.2.1⟩
def eG(t:Attempt)(a:App)(prio:Int):Option (App×Attempt):=
 (pm a.Jy prio).bind λx=>
 (lK t.s (⟨a.Id,a.Gp,a.Ja,a.User,a.J6,⟨a.Jb.Mem,a.Jb.I_⟩,x,a.KD,a.J_,a.Kj,a.KJ,a.Told,a.Lm⟩:App)).bind λx1=>
 some ((⟨a.Id,a.Gp,a.Ja,a.User,a.J6,⟨a.Jb.Mem,a.Jb.I_⟩,x,a.KD,a.J_,a.Kj,a.KJ,a.Told,a.Lm⟩:App),(⟨⟨⟨x1.Jc.Je,x1.Jc.I8⟩,x1.Jh,x1.I9,x1.I6,x1.Jr,x1.Jq,x1.Now,x1.Jz,x1.Seq⟩,⟨t.n.Id,t.n.Ji,t.n.KL,⟨t.n.Cap.Mem,t.n.Cap.I_⟩,t.n.KD,t.n.J_,t.n.Up⟩,⟨t.free.Mem,t.free.I_⟩⟩:Attempt))
def adC:Spec fam:=⟨[pp,Q7,ge],[Q7],λa=>eG a.1 a.2.1 a.2.2.1⟩
def kw(s:List Slot)(f:(Js fam [.st 8]→Option Bool)):Option Bool:=
 (gI s f).bind λx=>
 some (decide (x≥0))
def alp:Spec fam:=⟨[Qg,.fn [.st 8] .bool],[gt],λa=>kw a.1 a.2.1⟩
def fX(x:Slot)(p:Int)(p1:Int):Option Bool:=
 bif x.App == p then
 some (x.J6 == p1)
 else
 some false
def adf:Spec fam:=⟨[Qr,.rp (.int .i64),.rp (.int .i64)],[gt],λa=>fX a.1 a.2.1 a.2.2.1⟩
def vC(s:List Slot)(i:Int)(v:List Slot):Option (List Slot):=
 (Ms i (s.length:Int) s.length).bind λp=>
 bif(v.length:Int) == 0 then
 some s
 else
 bif i == (s.length:Int)then
  (app 24 s v).bind λl=>
  some l
 else
  none
def mI(s:List Slot)(i:Int)(v:List Slot):Option (List Slot):=ins s i v
def aoz:Hint:=.z
def ade:Spec fam:=⟨[Q1,ge,Q1],[Q1],λa=>mI a.1 a.2.1 a.2.2.1⟩
def GO:Spec fam:=⟨[.v (.slice (.st 8)) [0],.v (.int .i64) [],.v (.slice (.st 8)) [0]],[.v (.slice (.st 8)) [0]],λa=>vC a.1 a.2.1 a.2.2.1⟩
def jh(t:Attempt)(k:Int):Option (Int ⊕ Int):=
 (
 bif decide (k<(t.s.Jr.length:Int))then
  (Kk k t.s.Jr.length).bind λi=>
  (t.s.Jr[i]?).bind λx1=>
  some (decide (x1.Node<t.n.Id))
 else
  some false).bind λq=>
 bif q then
 some (.inl (Jd (k+1)))
 else
 some (.inr k)
def eK(t:Attempt)(Li:Int)(prio:Int):Option (Bool×Attempt):=
 (kw t.s.Jr (λa'=>fX a'.1 Li prio)).bind λx=>
 bif x then
 some (false,t)
 else
 (loop (jh t) 0).bind λk1=>
 (mI t.s.Jr k1 [(⟨t.n.Id,Li,prio⟩:Slot)]).bind λx2=>
 some (true,(⟨⟨⟨t.s.Jc.Je,t.s.Jc.I8⟩,t.s.Jh,t.s.I9,t.s.I6,x2,t.s.Jq,t.s.Now,t.s.Jz,t.s.Seq⟩,⟨t.n.Id,t.n.Ji,t.n.KL,⟨t.n.Cap.Mem,t.n.Cap.I_⟩,t.n.KD,t.n.J_,t.n.Up⟩,⟨t.free.Mem,t.free.I_⟩⟩:Attempt))
def adB:Spec fam:=⟨[pp,ge,ge],[gt],λa=>eK a.1 a.2.1 a.2.2.1⟩
def bU(first:Bool)(may:(Js fam [.st 5,.st 4]→Option Bool))(x2:Int)(x5:List Ask)(t3:Attempt×Cont×App×Int):Option ((Attempt×Cont×App×Int) ⊕ ((Attempt×Int×Cont) ⊕ (Attempt×Cont))):=
 bif decide (t3.2.2.2<(x5.length:Int))then
 (
  (Kk t3.2.2.2 x5.length).bind λi1=>
  (x5[i1]?).bind λx6=>
  (fJ t3.1 t3.2.2.1 x6).bind λdue=>
  (
  (d7 t3.1 x6).bind λx7=>
  bif ! x7 then
   some true
  else
   bif first then
   some (! due)
   else
   some false).bind λq=>
  bif q then
  some (.inl (t3.1,t3.2.1,t3.2.2.1))
  else
  (may (x6,t3.1.n,())).bind λr=>
  bif ! r then
   bif first == due then
   (eG t3.1 t3.2.2.1 x6.J6).bind λx8=>
   some (.inl (x8.2,t3.2.1,x8.1))
   else
   some (.inl (t3.1,t3.2.1,t3.2.2.1))
  else
   (eN t3.1 t3.2.2.1 x6).bind λx9=>
   bif ! x9 then
   some (.inl (t3.1,t3.2.1,t3.2.2.1))
   else
   (eJ t3.1 x6).bind λx10=>
   bif x10 then
    (cp t3.1 t3.2.2.1 x6).bind λNg=>
    some (.inr (Ng.2,1,Ng.1))
   else
    (
    bif first then
     (eK t3.1 x2 x6.J6).bind λOA=>
     some (OA.2,OA.1)
    else
     some (t3.1,false)).bind λq1=>
    bif q1.2 then
    some (.inr (q1.1,2,(⟨0,0,0,⟨0,0⟩,0,0,false,0⟩:Cont)))
    else
    some (.inl (q1.1,t3.2.1,t3.2.2.1)):Option ((Attempt×Cont×App) ⊕ (Attempt×Int×Cont))).bind λq0=>
 match q0 with
 | .inl q2=>
  some (.inl (q2.1,q2.2.1,q2.2.2,Jd (t3.2.2.2+1)))
 | .inr q3=>
  some (.inr (.inl (q3.1,q3.2.1,q3.2.2)))
 else
 some (.inr (.inr (t3.1,t3.2.1)))
def bT(first:Bool)(may:(Js fam [.st 5,.st 4]→Option Bool))(x1:List Int)(t2:Attempt×Cont×Int):Option ((Attempt×Cont×Int) ⊕ ((Attempt×Int×Cont) ⊕ (Attempt×Cont) ⊕ (Attempt×Cont))):=
 bif decide (t2.2.2<(x1.length:Int))then
 (
  (Kk t2.2.2 x1.length).bind λi=>
  (x1[i]?).bind λx2=>
  (di t2.1.s x2).bind λx3=>
  bif ! x3.2 then
  some (.inr (.inr (t2.1,t2.2.1)))
  else
  (eQ t2.1 x3.1).bind λx4=>
  bif ! x4 then
   some (.inl (t2.1,t2.2.1))
  else
   (lq x3.1.Jy).bind λx5=>
   (loop (bU first may x2 x5) (t2.1,t2.2.1,x3.1,0)).bind λq0=>
   match q0 with
   | .inl q4=>
   some (.inr (.inl (q4.1,q4.2.1,q4.2.2)))
   | .inr q5=>
   some (.inl (q5.1,q5.2)):Option ((Attempt×Cont) ⊕ (Attempt×Int×Cont) ⊕ (Attempt×Cont))).bind λq0=>
 match q0 with
 | .inl q6=>
  some (.inl (q6.1,q6.2,Jd (t2.2.2+1)))
 | .inr (.inl q7)=>
  some (.inr (.inl (q7.1,q7.2.1,q7.2.2)))
 | .inr (.inr q8)=>
  some (.inr (.inr (.inl (q8.1,q8.2))))
 else
 some (.inr (.inr (.inr (t2.1,t2.2.1))))
def cL(leaves:List (List UInt8))(first:Bool)(may:(Js fam [.st 5,.st 4]→Option Bool))(t1:Attempt×Cont×Int):Option ((Attempt×Cont×Int) ⊕ ((Attempt×Int×Cont) ⊕ (Attempt×Cont))):=
 bif decide (t1.2.2<(leaves.length:Int))then
 (
  (idx leaves t1.2.2).bind λx=>
  (ng t1.1.s x).bind λx1=>
  (loop (bT first may x1) (t1.1,t1.2.1,0)).bind λq0=>
  match q0 with
  | .inl q9=>
  some (.inr (q9.1,q9.2.1,q9.2.2))
  | .inr (.inl q10)=>
  some (.inl (q10.1,q10.2))
  | .inr (.inr q11)=>
  some (.inl (q11.1,q11.2)):Option ((Attempt×Cont) ⊕ (Attempt×Int×Cont))).bind λq0=>
 match q0 with
 | .inl q12=>
  some (.inl (q12.1,q12.2,Jd (t1.2.2+1)))
 | .inr q13=>
  some (.inr (.inl (q13.1,q13.2.1,q13.2.2)))
 else
 some (.inr (.inr (t1.1,t1.2.1)))
def cD(t:Attempt)(leaves:List (List UInt8))(first:Bool)(may:(Js fam [.st 5,.st 4]→Option Bool)):Option (Int×Cont×Attempt):=
 (loop (cL leaves first may) (t,(⟨0,0,0,⟨0,0⟩,0,0,false,0⟩:Cont),0)).bind λq0=>
 match q0 with
 | .inl q14=>
 some (q14.2.1,q14.2.2,q14.1)
 | .inr q15=>
 some (0,(⟨0,0,0,⟨0,0⟩,0,0,false,0⟩:Cont),q15.1)
def ad3:Spec fam:=⟨[pp,QA,gt,.fn [.st 5,.st 4] .bool],[ge,QI],λa=>cD a.1 a.2.1 a.2.2.1 a.2.2.2.1⟩
def dv(t:Attempt):Option (Int×Cont×Attempt):=
 (nQ t.s t.n.Ji).bind λleaves=>
 (cD t leaves true (λa'=>mn a'.1 a'.2.1)).bind λx=>
 bif x.1 != 0 then
 some (x.1,x.2.1,x.2.2)
 else
 (cD x.2.2 leaves false (λa'=>mn a'.1 a'.2.1)).bind λx1=>
 some (x1.1,x1.2.1,x1.2.2)
def aeE:Spec fam:=⟨[pp],[ge,QI],λa=>dv a.1⟩
def nq(s:Gp)(node:Int):Option (Gp×Int×Cont):=
 (bj s []).bind λx=>
 (ff s node).bind λx1=>
 (
 bif ! x1.2 then
  some true
 else
  bif ! x1.1.Up then
  some true
  else
  bif decide ((s.I6.length:Int)≥200)then
   some true
  else
   some (decide (s.Seq≥1048575))).bind λq=>
 bif q then
 some (x,0,(⟨0,0,0,⟨0,0⟩,0,0,false,0⟩:Cont))
 else
 (m7 s node).bind λx2=>
 (eP (⟨⟨⟨x.Jc.Je,x.Jc.I8⟩,x.Jh,x.I9,x.I6,x.Jr,x.Jq,x.Now,x.Jz,x.Seq⟩,⟨x1.1.Id,x1.1.Ji,x1.1.KL,⟨x1.1.Cap.Mem,x1.1.Cap.I_⟩,x1.1.KD,x1.1.J_,x1.1.Up⟩,⟨x2.Mem,x2.I_⟩⟩:Attempt)).bind λx3=>
 (
  bif ! x3.2.2.1 then
  (dv x3.2.2.2).bind λx4=>
  some (x4.1,x4.2.1,x4.2.2)
  else
  some (x3.1,x3.2.1,x3.2.2.2)).bind λq1=>
 (bj q1.2.2.s []).bind λx5=>
 some (x5,q1.1,q1.2.1)
def afc:Spec fam:=⟨[f9,ge],[QJ,ge,QI],λa=>nq a.1 a.2.1⟩
def pM(node:Int)(t:Gp×List Cont):Option ((Gp×List Cont) ⊕ ((Gp×List Cont))):=
 bif decide ((t.2.length:Int)<3)then
 (nq t.1 node).bind λx1=>
 bif x1.2.1 != 1 then
  some (.inr (x1.1,t.2))
 else
  (app 72 t.2 [x1.2.2]).bind λl=>
  some (.inl (x1.1,l))
 else
 some (.inr (t.1,t.2))
def mf(s:Gp)(node:Int):Option (Gp×List Cont):=
 (bj s []).bind λx=>
 (loop (pM node) (x,[])).bind λq=>
 some (q.1,q.2)
def afZ:Spec fam:=⟨[f9,ge],[QJ,QU],λa=>mf a.1 a.2.1⟩
def fN(t:Step):Option (Output×Step):=
 (ff t.s t.x.Id).bind λx=>
 (
 bif x.2 then
  bif x.1.Up then
  some (t.x.J_ == x.1.J_)
  else
  some false
 else
  some false).bind λq=>
 bif q then
 (dz t x.1.Id).bind λx1=>
 some ((⟨0,[],x1,[],0⟩:Output),t)
 else
 (m0 t.s t.x.Id t.x.J_).bind λx2=>
 bif x2.2 != 0 then
  (aO x2.2).bind λx3=>
  some (x3,t)
 else
  (dz t x.1.Id).bind λx4=>
  (bS t.x.Ids).bind λx5=>
  (bn x5 (λa'=>eL a'.1 x4)).bind λended=>
  (bj x2.1 ended).bind λx6=>
  (mf x6 x.1.Id).bind λx7=>
  (dz (⟨⟨⟨x7.1.Jc.Je,x7.1.Jc.I8⟩,x7.1.Jh,x7.1.I9,x7.1.I6,x7.1.Jr,x7.1.Jq,x7.1.Now,x7.1.Jz,x7.1.Seq⟩,⟨t.x.Kind,t.x.Id,t.x.J_,t.x.N,t.x.Text,⟨t.x.Node.Id,t.x.Node.Ji,t.x.Node.KL,⟨t.x.Node.Cap.Mem,t.x.Node.Cap.I_⟩,t.x.Node.KD,t.x.Node.J_,t.x.Node.Up⟩,⟨t.x.App.Id,t.x.App.Gp,t.x.App.Ja,t.x.App.User,t.x.App.J6,⟨t.x.App.Jb.Mem,t.x.App.Jb.I_⟩,t.x.App.Jy,t.x.App.KD,t.x.App.J_,t.x.App.Kj,t.x.App.KJ,t.x.App.Told,t.x.App.Lm⟩,t.x.Jy,t.x.Ids,⟨t.x.Jk.Id,t.x.Jk.Ji,t.x.Jk.From,t.x.Jk.Until,⟨t.x.Jk.Need.Mem,t.x.Jk.Need.I_⟩⟩⟩⟩:Step) x.1.Id).bind λx8=>
  some ((⟨0,[],x8,[],0⟩:Output),(⟨⟨⟨x7.1.Jc.Je,x7.1.Jc.I8⟩,x7.1.Jh,x7.1.I9,x7.1.I6,x7.1.Jr,x7.1.Jq,x7.1.Now,x7.1.Jz,x7.1.Seq⟩,⟨t.x.Kind,t.x.Id,t.x.J_,t.x.N,t.x.Text,⟨t.x.Node.Id,t.x.Node.Ji,t.x.Node.KL,⟨t.x.Node.Cap.Mem,t.x.Node.Cap.I_⟩,t.x.Node.KD,t.x.Node.J_,t.x.Node.Up⟩,⟨t.x.App.Id,t.x.App.Gp,t.x.App.Ja,t.x.App.User,t.x.App.J6,⟨t.x.App.Jb.Mem,t.x.App.Jb.I_⟩,t.x.App.Jy,t.x.App.KD,t.x.App.J_,t.x.App.Kj,t.x.App.KJ,t.x.App.Told,t.x.App.Lm⟩,t.x.Jy,t.x.Ids,⟨t.x.Jk.Id,t.x.Jk.Ji,t.x.Jk.From,t.x.Jk.Until,⟨t.x.Jk.Need.Mem,t.x.Jk.Need.I_⟩⟩⟩⟩:Step))
def alV:Spec fam:=⟨[QH],[QN],λa=>fN a.1⟩
def er(n:Int)(least:Int)(most:Int):Option Bool:=
 bif decide (n≥least)then
 some (decide (n≤most))
 else
 some false
def afY:Spec fam:=⟨[ge,ge,ge],[gt],λa=>er a.1 a.2.1 a.2.2.1⟩
def hP(l:List App)(t:Int×Int):Option ((Int×Int) ⊕ Int):=
 bif decide (t.2<(l.length:Int))then
 (
  (idx l t.2).bind λx=>
  (ci x).bind λx1=>
  bif x1 then
  some (Jd (t.1+1))
  else
  some t.1).bind λn=>
 some (.inl (n,Jd (t.2+1)))
 else
 some (.inr t.1)
def pa(l:List App):Option Int:=
 (loop (hP l) (0,0)).bind λn1=>
 some n1
def afX:Spec fam:=⟨[Qa],[ge],λa=>pa a.1⟩
def pg(a:App):Option Bool:=
 (ci a).bind λx=>
 some (! x)
def afW:Spec fam:=⟨[QP],[gt],λa=>pg a.1⟩
def oR(s:List App)(i:Int)(j:Int):Option (List App):=del s i j
def afV:Spec fam:=⟨[QR,ge,ge],[QR],λa=>oR a.1 a.2.1 a.2.2.1⟩
def lP(s:Gp)(a:App):Option (Gp×Int):=
 (gp s).bind λx=>
 (
 (er a.Id 0 9999).bind λx1=>
 bif ! x1 then
  some true
 else
  (er a.User 0 99).bind λx2=>
  bif ! x2 then
  some true
  else
  (er a.J6 0 9).bind λx3=>
  bif ! x3 then
   some true
  else
   (er a.Jb.Mem 1 1073741824).bind λx4=>
   bif ! x4 then
   some true
   else
   (er a.Jb.I_ 1 1073741824).bind λx5=>
   some (! x5)).bind λq=>
 bif q then
 some (x,1)
 else
 (jW x a.Id).bind λx6=>
 bif decide (x6≥0)then
  some (x,7)
 else
  (pa x.I9).bind λx7=>
  bif decide (x7≥16)then
  some (x,4)
  else
  (jL x.Jc a.Ja).bind λx8=>
  bif ! x8 then
   some (x,19)
  else
   (
   (jg x.I9 (λa'=>pg a'.1)).bind λk=>
   (
    bif decide ((x.I9.length:Int)≥16)then
    some (decide (k≥0))
    else
    some false).bind λq1=>
   bif q1 then
    (oR x.I9 k (Jd (k+1))).bind λx9=>
    some (⟨⟨x.Jc.Je,x.Jc.I8⟩,x.Jh,x9,x.I6,x.Jr,x.Jq,x.Now,x.Jz,x.Seq⟩:Gp)
   else
    some x).bind λs1=>
   (j9 (⟨a.Id,1,a.Ja,a.User,a.J6,⟨a.Jb.Mem,a.Jb.I_⟩,[],s1.Now,0,[],[],[],[]⟩:App)).bind λx10=>
   (nL s1 (⟨a.Id,1,a.Ja,a.User,a.J6,⟨a.Jb.Mem,a.Jb.I_⟩,x10,s1.Now,0,[],[],[],[]⟩:App)).bind λNg=>
   some (Ng,0)
def alU:Spec fam:=⟨[f9,QP],[QF,ge],λa=>lP a.1 a.2.1⟩
def dB(t:Step)(x:Int)(t2:List Cont×Int):Option ((List Cont×Int) ⊕ List Cont):=
 bif decide (t2.2<(t.s.I6.length:Int))then
 (
  (idx t.s.I6 t2.2).bind λx1=>
  bif x1.Id == x then
  (app 72 t2.1 [x1]).bind λl=>
  some l
  else
  some t2.1).bind λout=>
 some (.inl (out,Jd (t2.2+1)))
 else
 some (.inr t2.1)
def dw(t:Step)(ids:List Int)(t1:List Cont×Int):Option ((List Cont×Int) ⊕ List Cont):=
 bif decide (t1.2<(ids.length:Int))then
 (idx ids t1.2).bind λx=>
 (loop (dB t x) (t1.1,0)).bind λLQ=>
 some (.inl (LQ,Jd (t1.2+1)))
 else
 some (.inr t1.1)
def cj(t:Step)(ids:List Int):Option (List Cont):=
 (loop (dw t ids) ([],0)).bind λVf=>
 some Vf
def afT:Spec fam:=⟨[.rp (.st 19),QQ],[QU],λa=>cj a.1 a.2.1⟩
def oU(t:Step)(Om:Int)(t1:List Int×Int):Option ((List Int×Int) ⊕ List Int):=
 bif decide (t1.2<(t.s.I6.length:Int))then
 (
  (idx t.s.I6 t1.2).bind λx=>
  (
  bif x.App == Om then
   some (x.Mf != 0)
  else
   some false).bind λq=>
  bif q then
  (app 8 t1.1 [x.Id]).bind λl=>
  some l
  else
  some t1.1).bind λout=>
 some (.inl (out,Jd (t1.2+1)))
 else
 some (.inr t1.1)
def d5(t:Step)(Om:Int):Option (List Int):=
 (loop (oU t Om) ([],0)).bind λLQ=>
 some LQ
def afS:Spec fam:=⟨[.rp (.st 19),ge],[f0],λa=>d5 a.1 a.2.1⟩
def bf(s:List Int)(f:(Js fam [.int .i64]→Option Bool)):Option Bool:=
 (bY s f).bind λx=>
 some (decide (x≥0))
def aeD:Spec fam:=⟨[QQ,.fn [.int .i64] .bool],[gt],λa=>bf a.1 a.2.1⟩
def qU(n:Int)(p:Int)(p1:Int):Option Bool:=
 bif decide (n<p)then
 some true
 else
 some (decide (n>p1))
def aeC:Spec fam:=⟨[ge,.rp (.int .i64),.rp (.int .i64)],[gt],λa=>qU a.1 a.2.1 a.2.2.1⟩
def eF(least:Int)(most:Int)(l:List Int):Option Bool:=
 (bf l (λa'=>qU a'.1 least most)).bind λx=>
 some (! x)
def afa:Spec fam:=⟨[ge,ge,QQ],[gt],λa=>eF a.1 a.2.1 a.2.2.1⟩
def nA(a:Ask)(labels:Int):Option Int:=
 (
 (eF 0 9 [a.J6]).bind λx=>
 bif ! x then
  some true
 else
  (eF 0 (Jd (labels - 1)) [a.Ji]).bind λx1=>
  bif ! x1 then
  some true
  else
  (eF 1 1073741824 [a.Ku.Mem,a.Ku.I_]).bind λx2=>
  bif ! x2 then
   some true
  else
   (eF (-1) 999 [a.Node]).bind λx3=>
   bif ! x3 then
   some true
   else
   (eF (-1) 99 [a.KL]).bind λx4=>
   bif ! x4 then
    some true
   else
    bif a.Node != (-1)then
    some (a.KL == (-1))
    else
    some false).bind λq=>
 bif q then
 some 1
 else
 (eF 0 50 [a.Ky]).bind λx5=>
 bif ! x5 then
  some 4
 else
  some 0
def afR:Spec fam:=⟨[Q3,ge],[ge],λa=>nA a.1 a.2.1⟩
def gU(c:Cont)(p:Int)(p1:App):Option Bool:=
 bif c.Id == p then
 bif c.App == p1.Id then
  some (! c.Jb)
 else
  some false
 else
 some false
def ae6:Spec fam:=⟨[QI,.rp (.int .i64),.rp (.st 6)],[gt],λa=>gU a.1 a.2.1 a.2.2.1⟩
def kU(g:Int)(p:Int):Option Bool:=
 some (g == p)
def ae5:Spec fam:=⟨[ge,.rp (.int .i64)],[gt],λa=>kU a.1 a.2.1⟩
def dX(ids:List Int)(t1:Step×App×Int):Option ((Step×App×Int) ⊕ ((Step×App))):=
 bif decide (t1.2.2<(ids.length:Int))then
 (
  (idx ids t1.2.2).bind λx=>
  (eB t1.1.s.I6 (λa'=>gU a'.1 x t1.2.1)).bind λi=>
  bif decide (i≥0)then
  (hZ t1.1.s.I6 i (Jd (i+1))).bind λx1=>
  (bn t1.2.1.Kj (λa'=>kU a'.1 x)).bind λx2=>
  some ((⟨⟨⟨t1.1.s.Jc.Je,t1.1.s.Jc.I8⟩,t1.1.s.Jh,t1.1.s.I9,x1,t1.1.s.Jr,t1.1.s.Jq,t1.1.s.Now,t1.1.s.Jz,t1.1.s.Seq⟩,⟨t1.1.x.Kind,t1.1.x.Id,t1.1.x.J_,t1.1.x.N,t1.1.x.Text,⟨t1.1.x.Node.Id,t1.1.x.Node.Ji,t1.1.x.Node.KL,⟨t1.1.x.Node.Cap.Mem,t1.1.x.Node.Cap.I_⟩,t1.1.x.Node.KD,t1.1.x.Node.J_,t1.1.x.Node.Up⟩,⟨t1.1.x.App.Id,t1.1.x.App.Gp,t1.1.x.App.Ja,t1.1.x.App.User,t1.1.x.App.J6,⟨t1.1.x.App.Jb.Mem,t1.1.x.App.Jb.I_⟩,t1.1.x.App.Jy,t1.1.x.App.KD,t1.1.x.App.J_,t1.1.x.App.Kj,t1.1.x.App.KJ,t1.1.x.App.Told,t1.1.x.App.Lm⟩,t1.1.x.Jy,t1.1.x.Ids,⟨t1.1.x.Jk.Id,t1.1.x.Jk.Ji,t1.1.x.Jk.From,t1.1.x.Jk.Until,⟨t1.1.x.Jk.Need.Mem,t1.1.x.Jk.Need.I_⟩⟩⟩⟩:Step),(⟨t1.2.1.Id,t1.2.1.Gp,t1.2.1.Ja,t1.2.1.User,t1.2.1.J6,⟨t1.2.1.Jb.Mem,t1.2.1.Jb.I_⟩,t1.2.1.Jy,t1.2.1.KD,t1.2.1.J_,x2,t1.2.1.KJ,t1.2.1.Told,t1.2.1.Lm⟩:App))
  else
  some (t1.1,t1.2.1)).bind λq=>
 some (.inl (q.1,q.2,Jd (t1.2.2+1)))
 else
 some (.inr (t1.1,t1.2.1))
def iX(t:Step)(a:App)(ids:List Int):Option (App×Step):=
 (loop (dX ids) (t,a,0)).bind λq1=>
 some (q1.2,q1.1)
def afP:Spec fam:=⟨[QL,Q7,QQ],[Q7],λa=>iX a.1 a.2.1 a.2.2.1⟩
def c9(t:Step)(t1:Output×App×Int):Option ((Output×App×Int) ⊕ (Output ⊕ (Output×App))):=
 bif decide (t1.2.2<(t.x.Jy.length:Int))then
 (idx t.x.Jy t1.2.2).bind λx7=>
 (nA x7 (t.s.Jc.Je.length:Int)).bind λe=>
 (
  bif e == 0 then
  (la t1.2.1.Jy x7).bind λx8=>
  some ((⟨t1.2.1.Id,t1.2.1.Gp,t1.2.1.Ja,t1.2.1.User,t1.2.1.J6,⟨t1.2.1.Jb.Mem,t1.2.1.Jb.I_⟩,x8.1,t1.2.1.KD,t1.2.1.J_,t1.2.1.Kj,t1.2.1.KJ,t1.2.1.Told,t1.2.1.Lm⟩:App),x8.2)
  else
  some (t1.2.1,e)).bind λq=>
 bif q.2 != 0 then
  (aO q.2).bind λx9=>
  some (.inr (.inl x9))
 else
  some (.inl (t1.1,q.1,Jd (t1.2.2+1)))
 else
 some (.inr (.inr (t1.1,t1.2.1)))
def eO(t:Step):Option (Output×Step):=
 (di t.s t.x.Id).bind λx=>
 bif ! x.2 then
 (aO 2).bind λx1=>
 some (x1,t)
 else
 bif x.1.Gp != 2 then
  (aO 14).bind λx2=>
  some (x2,t)
 else
  bif decide (t.x.J_<x.1.J_)then
  (aO 15).bind λx3=>
  some (x3,t)
  else
  bif decide ((Jd (t.x.J_ - x.1.J_))>1)then
   (aO 1).bind λx4=>
   some (x4,t)
  else
   bif t.x.J_ == x.1.J_ then
   (cj t x.1.Told).bind λx5=>
   (d5 t x.1.Id).bind λx6=>
   some ((⟨0,x5,x6,x.1.Lm,0⟩:Output),t)
   else
   (loop (c9 t) ((⟨0,[],[],[],0⟩:Output),x.1,0)).bind λq0=>
   match q0 with
   | .inl q1=>
    some (q1,t)
   | .inr q2=>
    (iX t q2.2 t.x.Ids).bind λx10=>
    (cj x10.2 x10.1.Kj).bind λNg=>
    (d5 x10.2 x10.1.Id).bind λOA=>
    (bS x10.1.KJ).bind λPw=>
    (lK x10.2.s (⟨x10.1.Id,x10.1.Gp,x10.1.Ja,x10.1.User,x10.1.J6,⟨x10.1.Jb.Mem,x10.1.Jb.I_⟩,x10.1.Jy,x10.2.s.Now,Jd (x10.1.J_+1),[],[],x10.1.Kj,x10.1.KJ⟩:App)).bind λN7=>
    some ((⟨0,Ng,OA,Pw,0⟩:Output),(⟨⟨⟨N7.Jc.Je,N7.Jc.I8⟩,N7.Jh,N7.I9,N7.I6,N7.Jr,N7.Jq,N7.Now,N7.Jz,N7.Seq⟩,⟨x10.2.x.Kind,x10.2.x.Id,x10.2.x.J_,x10.2.x.N,x10.2.x.Text,⟨x10.2.x.Node.Id,x10.2.x.Node.Ji,x10.2.x.Node.KL,⟨x10.2.x.Node.Cap.Mem,x10.2.x.Node.Cap.I_⟩,x10.2.x.Node.KD,x10.2.x.Node.J_,x10.2.x.Node.Up⟩,⟨x10.2.x.App.Id,x10.2.x.App.Gp,x10.2.x.App.Ja,x10.2.x.App.User,x10.2.x.App.J6,⟨x10.2.x.App.Jb.Mem,x10.2.x.App.Jb.I_⟩,x10.2.x.App.Jy,x10.2.x.App.KD,x10.2.x.App.J_,x10.2.x.App.Kj,x10.2.x.App.KJ,x10.2.x.App.Told,x10.2.x.App.Lm⟩,x10.2.x.Jy,x10.2.x.Ids,⟨x10.2.x.Jk.Id,x10.2.x.Jk.Ji,x10.2.x.Jk.From,x10.2.x.Jk.Until,⟨x10.2.x.Jk.Need.Mem,x10.2.x.Jk.Need.I_⟩⟩⟩⟩:Step))
def alT:Spec fam:=⟨[QH],[QN],λa=>eO a.1⟩
def qH(s:Gp)(Li:Int)(state:Int):Option (Gp×List Int):=
 (gp s).bind λx=>
 (jW x Li).bind λi=>
 (
 bif decide (i<0)then
  some true
 else
  (Kk i x.I9.length).bind λi1=>
  (x.I9[i1]?).bind λx1=>
  (ci x1).bind λx2=>
  some (! x2)).bind λq=>
 bif q then
 some (x,[])
 else
 (Kk i x.I9.length).bind λi2=>
 (x.I9[i2]?).bind λx3=>
 (Kk i x.I9.length).bind λi3=>
 (x.I9[i3]?).bind λx4=>
 (n_ (⟨⟨x.Jc.Je,x.Jc.I8⟩,x.Jh,List.set x.I9 i3 (⟨x3.Id,state,x3.Ja,x3.User,x3.J6,⟨x3.Jb.Mem,x3.Jb.I_⟩,[],x3.KD,x3.J_,[],[],[],[]⟩:App),x.I6,x.Jr,x.Jq,x.Now,x.Jz,x.Seq⟩:Gp) Li).bind λx5=>
 some (x5.1,x5.2)
def afN:Spec fam:=⟨[f9,ge,ge],[QF,f0],λa=>qH a.1 a.2.1 a.2.2.1⟩
def eE(t:Step)(state:Int):Option (Output×Step):=
 (di t.s t.x.Id).bind λx=>
 bif ! x.2 then
 (aO 2).bind λx1=>
 some (x1,t)
 else
 (ci x.1).bind λx2=>
 bif ! x2 then
  (aO 14).bind λx3=>
  some (x3,t)
 else
  (qH t.s x.1.Id state).bind λx4=>
  some ((⟨0,[],[],x4.2,0⟩:Output),(⟨⟨⟨x4.1.Jc.Je,x4.1.Jc.I8⟩,x4.1.Jh,x4.1.I9,x4.1.I6,x4.1.Jr,x4.1.Jq,x4.1.Now,x4.1.Jz,x4.1.Seq⟩,⟨t.x.Kind,t.x.Id,t.x.J_,t.x.N,t.x.Text,⟨t.x.Node.Id,t.x.Node.Ji,t.x.Node.KL,⟨t.x.Node.Cap.Mem,t.x.Node.Cap.I_⟩,t.x.Node.KD,t.x.Node.J_,t.x.Node.Up⟩,⟨t.x.App.Id,t.x.App.Gp,t.x.App.Ja,t.x.App.User,t.x.App.J6,⟨t.x.App.Jb.Mem,t.x.App.Jb.I_⟩,t.x.App.Jy,t.x.App.KD,t.x.App.J_,t.x.App.Kj,t.x.App.KJ,t.x.App.Told,t.x.App.Lm⟩,t.x.Jy,t.x.Ids,⟨t.x.Jk.Id,t.x.Jk.Ji,t.x.Jk.From,t.x.Jk.Until,⟨t.x.Jk.Need.Mem,t.x.Jk.Need.I_⟩⟩⟩⟩:Step))
def alS:Spec fam:=⟨[QH,ge],[QN],λa=>eE a.1 a.2.1⟩
def u6(s:Gp)(t:List Int×Int):Option ((List Int×Int) ⊕ List Int):=
 bif decide (t.2<(s.Jh.length:Int))then
 (
  (idx s.Jh t.2).bind λx=>
  (
  bif x.Up then
   some (decide ((Jd (s.Now - x.KD))≥10))
  else
   some false).bind λq=>
  bif q then
  (app 8 t.1 [x.Id]).bind λl=>
  some l
  else
  some t.1).bind λout=>
 some (.inl (out,Jd (t.2+1)))
 else
 some (.inr t.1)
def ot(s:Gp):Option (List Int):=
 (loop (u6 s) ([],0)).bind λLQ=>
 some LQ
def afM:Spec fam:=⟨[f9],[f0],λa=>ot a.1⟩
def kR(x:Slot)(p:Int):Option Bool:=
 some (x.Node == p)
def ae4:Spec fam:=⟨[Qr,.rp (.int .i64)],[gt],λa=>kR a.1 a.2.1⟩
def dN(t:Step)(Li:Int)(t1:List Node×Int):Option ((List Node×Int) ⊕ List Node):=
 bif decide (t1.2<(t.s.Jh.length:Int))then
 (
  (Kk t1.2 t1.1.length).bind λi=>
  (t1.1[i]?).bind λx=>
  bif x.Id == Li then
  (Kk t1.2 t1.1.length).bind λi1=>
  (t1.1[i1]?).bind λx1=>
  some (List.set t1.1 i1 (⟨x1.Id,x1.Ji,x1.KL,⟨x1.Cap.Mem,x1.Cap.I_⟩,x1.KD,x1.J_,false⟩:Node))
  else
  some t1.1).bind λq=>
 some (.inl (q,Jd (t1.2+1)))
 else
 some (.inr t1.1)
def fS(t:Step)(Li:Int):Option Step:=
 (dz t Li).bind λhere=>
 (loop (dN t Li) (t.s.Jh,0)).bind λq1=>
 (eV t.s.Jr (λa'=>kR a'.1 Li)).bind λx2=>
 (bj (⟨⟨t.s.Jc.Je,t.s.Jc.I8⟩,q1,t.s.I9,t.s.I6,x2,t.s.Jq,t.s.Now,t.s.Jz,t.s.Seq⟩:Gp) here).bind λx3=>
 some (⟨⟨⟨x3.Jc.Je,x3.Jc.I8⟩,x3.Jh,x3.I9,x3.I6,x3.Jr,x3.Jq,x3.Now,x3.Jz,x3.Seq⟩,⟨t.x.Kind,t.x.Id,t.x.J_,t.x.N,t.x.Text,⟨t.x.Node.Id,t.x.Node.Ji,t.x.Node.KL,⟨t.x.Node.Cap.Mem,t.x.Node.Cap.I_⟩,t.x.Node.KD,t.x.Node.J_,t.x.Node.Up⟩,⟨t.x.App.Id,t.x.App.Gp,t.x.App.Ja,t.x.App.User,t.x.App.J6,⟨t.x.App.Jb.Mem,t.x.App.Jb.I_⟩,t.x.App.Jy,t.x.App.KD,t.x.App.J_,t.x.App.Kj,t.x.App.KJ,t.x.App.Told,t.x.App.Lm⟩,t.x.Jy,t.x.Ids,⟨t.x.Jk.Id,t.x.Jk.Ji,t.x.Jk.From,t.x.Jk.Until,⟨t.x.Jk.Need.Mem,t.x.Jk.Need.I_⟩⟩⟩⟩:Step)
def afL:Spec fam:=⟨[QL,ge],[],λa=>fS a.1 a.2.1⟩
def iL(s:Gp)(t:List Ko×List Int×Int):Option ((List Ko×List Int×Int) ⊕ List Int):=
 bif decide (t.2.2<(s.I9.length:Int))then
 (
  (idx s.I9 t.2.2).bind λx=>
  let e:=Lx (λx1=>x.Id == x1.k) t.1 (⟨x.Id,0⟩:Ko)
  (
  bif x.Gp == 2 then
   let e1:=Lx (λx3=>x.Id == x3.k) (Lu (λx2=>x.Id == x2.k) t.1 (⟨x.Id,Jd (e.v+1)⟩:Ko)) (⟨x.Id,0⟩:Ko)
   bif e1.v == 1 then
   some (decide ((Jd (s.Now - x.KD))≥15))
   else
   some false
  else
   some false).bind λq=>
  bif q then
  (app 8 t.2.1 [x.Id]).bind λl=>
  some (Lu (λx2=>x.Id == x2.k) t.1 (⟨x.Id,Jd (e.v+1)⟩:Ko),l)
  else
  some (Lu (λx2=>x.Id == x2.k) t.1 (⟨x.Id,Jd (e.v+1)⟩:Ko),t.2.1)).bind λq1=>
 some (.inl (q1.1,q1.2,Jd (t.2.2+1)))
 else
 some (.inr t.2.1)
def lR(s:Gp):Option (List Int):=
 (loop (iL s) ([],[],0)).bind λout=>
 some out
def afK:Spec fam:=⟨[f9],[f0],λa=>lR a.1⟩
def oT(t:Step)(Om:Int)(t1:List Int×Int):Option ((List Int×Int) ⊕ List Int):=
 bif decide (t1.2<(t.s.I6.length:Int))then
 (
  (idx t.s.I6 t1.2).bind λx=>
  (
  bif x.App == Om then
   some x.Jb
  else
   some false).bind λq=>
  bif q then
  (app 8 t1.1 [x.Id]).bind λl=>
  some l
  else
  some t1.1).bind λout=>
 some (.inl (out,Jd (t1.2+1)))
 else
 some (.inr t1.1)
def gy(t:Step)(Om:Int):Option (List Int):=
 (loop (oT t Om) ([],0)).bind λLQ=>
 some LQ
def afJ:Spec fam:=⟨[.rp (.st 19),ge],[f0],λa=>gy a.1 a.2.1⟩
def oE(s:List Jk)(f:(Js fam [.st 9]→Option Bool))(t:Int):Option (Int ⊕ (Int ⊕ Unit)):=
 bif decide (t<(s.length:Int))then
 (idx s t).bind λx=>
 (f (x,())).bind λr=>
 bif r then
  some (.inr (.inl t))
 else
  some (.inl (Jd (t+1)))
 else
 some (.inr (.inr ()))
def gK(s:List Jk)(f:(Js fam [.st 9]→Option Bool)):Option Int:=
 (loop (oE s f) 0).bind λq0=>
 match q0 with
 | .inl q=>
 some q
 | .inr _=>
 some (-1)
def afE:Spec fam:=⟨[Q6,.fn [.st 9] .bool],[ge],λa=>gK a.1 a.2.1⟩
def oK(del:(Js fam [.st 9]→Option Bool))(t:List Jk×Int×Int):Option ((List Jk×Int×Int) ⊕ ((List Jk×Int))):=
 bif decide (t.2.2<(t.1.length:Int))then
 (
  (Kk t.2.2 t.1.length).bind λi1=>
  (t.1[i1]?).bind λx=>
  (del (x,())).bind λr=>
  bif ! r then
  (Kk t.2.1 t.1.length).bind λi2=>
  (t.1[i2]?).bind λx1=>
  some (List.set t.1 i2 x,Jd (t.2.1+1))
  else
  some (t.1,t.2.1)).bind λq=>
 some (.inl (q.1,q.2,Jd (t.2.2+1)))
 else
 some (.inr (t.1,t.2.1))
def jv(s:List Jk)(del:(Js fam [.st 9]→Option Bool)):Option (List Jk):=
 (gK s del).bind λi=>
 bif i == (-1)then
 some s
 else
 (loop (oK del) (s,i,Jd (i+1))).bind λq1=>
 (Ms q1.2 (q1.1.length:Int) q1.1.length).bind λp=>
 (Ms 0 q1.2 (LP q1.1 p.1 p.2 (List.replicate p.2 (⟨0,0,0,0,⟨0,0⟩⟩:Jk))).length).bind λp1=>
 some (List.take p1.2 (LP q1.1 p.1 p.2 (List.replicate p.2 (⟨0,0,0,0,⟨0,0⟩⟩:Jk))))
def afI:Spec fam:=⟨[Q9,.fn [.st 9] .bool],[Q9],λa=>jv a.1 a.2.1⟩
def kX(p:Jk)(now:Int):Option Bool:=some (decide (p.Until≤now))
def afH:Spec fam:=⟨[Ql,.pk 7 (.int .i64)],[gt],λa=>kX a.1 a.2.1⟩
def ko(s:List Cont)(f:(Js fam [.st 7]→Option Bool)):Option Bool:=
 (eB s f).bind λx=>
 some (decide (x≥0))
def alB:Spec fam:=⟨[Qf,.fn [.st 7] .bool],[gt],λa=>ko a.1 a.2.1⟩
def pS(x:Cont)(p:Cont):Option Bool:=
 some (x.Id == p.Id)
def aeA:Spec fam:=⟨[QI,.rp (.st 7)],[gt],λa=>pS a.1 a.2.1⟩
def sd(c:Cont)(label:Int)(now:Int):Option Bool:=
 bif c.Ji == label then
 bif c.Mf != 0 then
  some (decide ((Jd (now - c.Mf))≥3))
 else
  some false
 else
 some false
def aez:Spec fam:=⟨[QI,ge,ge],[gt],λa=>sd a.1 a.2.1 a.2.2.1⟩
def vo(l:List Ask)(label:Int)(t:Vec×Int):Option ((Vec×Int) ⊕ Vec):=
 bif decide (t.2<(l.length:Int))then
 (
  (idx l t.2).bind λx=>
  (
  bif x.Ji == label then
   (eF 0 1125899906842624 [x.Ku.Mem,x.Ku.I_]).bind λx1=>
   bif x1 then
   (eF 0 50 [x.Ky]).bind λx2=>
   some x2
   else
   some false
  else
   some false).bind λq=>
  bif q then
  some (⟨Jd (t.1.Mem+(Jd (x.Ku.Mem*x.Ky))),Jd (t.1.I_+(Jd (x.Ku.I_*x.Ky)))⟩:Vec)
  else
  some t.1).bind λout=>
 some (.inl (out,Jd (t.2+1)))
 else
 some (.inr t.1)
def om(l:List Ask)(label:Int):Option Vec:=
 (loop (vo l label) ((⟨0,0⟩:Vec),0)).bind λLQ=>
 some LQ
def acZ:Spec fam:=⟨[Q2,ge],[t7],λa=>om a.1 a.2.1⟩
def p_(v:View)(t:Vec×Int):Option ((Vec×Int) ⊕ Vec):=
 bif decide (t.2<(v.s.I9.length:Int))then
 (
  (idx v.s.I9 t.2).bind λx=>
  (
  (ci x).bind λx1=>
  bif x1 then
   (gi v x).bind λx2=>
   some x2
  else
   some false).bind λq=>
  bif q then
  (om x.Jy v.label).bind λx3=>
  (cy t.1 x3).bind λx4=>
  some x4.1
  else
  some t.1).bind λout=>
 some (.inl (out,Jd (t.2+1)))
 else
 some (.inr t.1)
def ii(v:View):Option Vec:=
 (loop (p_ v) ((⟨0,0⟩:Vec),0)).bind λLQ=>
 some LQ
def ac9:Spec fam:=⟨[Qv],[t7],λa=>ii a.1⟩
def gD(s:Gp)(Kn:List UInt8)(label:Int):Option Vec:=
 (ii (⟨⟨⟨s.Jc.Je,s.Jc.I8⟩,s.Jh,s.I9,s.I6,s.Jr,s.Jq,s.Now,s.Jz,s.Seq⟩,Kn,label,(-1)⟩:View)).bind λx=>
 some x
def ady:Spec fam:=⟨[f9,f8,ge],[t7],λa=>gD a.1 a.2.1 a.2.2.1⟩
def gW(l:List Int)(t:Int×Int):Option ((Int×Int) ⊕ Int):=
 bif decide (t.2<(l.length:Int))then
 (idx l t.2).bind λx=>
 some (.inl (Oj t.1 x,Jd (t.2+1)))
 else
 some (.inr t.1)
def dl(first:Int)(l:List Int):Option Int:=
 (loop (gW l) (first,0)).bind λaaH=>
 some aaH
def ac1:Spec fam:=⟨[ge,QQ],[ge],λa=>dl a.1 a.2.1⟩
def fF(n:Int):Option Int:=
 (
 bif decide (n<0)then
  some true
 else
  some (decide (n>1125899906842624))).bind λq=>
 bif q then
 some 0
 else
 some n
def ac0:Spec fam:=⟨[ge],[ge],λa=>fF a.1⟩
def iG(want:List Int)(most:List Int)(n:Int)(t1:List Int×Int×Int):Option ((List Int×Int×Int) ⊕ List Int):=
 bif decide (t1.2.2<n)then
 (idx want t1.2.2).bind λx9=>
 (fF x9).bind λx10=>
 (idx most t1.2.2).bind λNg=>
 (fF Ng).bind λOA=>
 (dl x10 [OA]).bind λPw=>
 (Kk t1.2.2 t1.1.length).bind λi2=>
 (t1.1[i2]?).bind λN7=>
 (dl (imax (Jd (Pw - N7)) 0) [t1.2.1]).bind λmore=>
 (Kk t1.2.2 t1.1.length).bind λi3=>
 (t1.1[i3]?).bind λRP=>
 (Kk t1.2.2 t1.1.length).bind λi4=>
 (t1.1[i4]?).bind λUY=>
 some (.inl (List.set t1.1 i4 (Jd (RP+more)),Jd (t1.2.1 - more),Jd (t1.2.2+1)))
 else
 some (.inr t1.1)
def iD(least:List Int)(want:List Int)(most:List Int)(n:Int)(t:List Int×Int×Int):Option ((List Int×Int×Int) ⊕ ((List Int×Int))):=
 bif decide (t.2.2<n)then
 (idx least t.2.2).bind λx=>
 (fF x).bind λx1=>
 (idx want t.2.2).bind λx2=>
 (fF x2).bind λx3=>
 (idx most t.2.2).bind λx4=>
 (fF x4).bind λx5=>
 (dl x1 [x3,x5,t.2.1]).bind λx6=>
 (Kk t.2.2 t.1.length).bind λi=>
 (t.1[i]?).bind λx7=>
 (Kk t.2.2 (List.set t.1 i x6).length).bind λi1=>
 ((List.set t.1 i x6)[i1]?).bind λx8=>
 some (.inl (List.set t.1 i x6,Jd (t.2.1 - x8),Jd (t.2.2+1)))
 else
 some (.inr (t.1,t.2.1))
def l_(total:Int)(least:List Int)(want:List Int)(most:List Int):Option (List Int):=
 (dl (least.length:Int) [(want.length:Int),(most.length:Int)]).bind λn=>
 (P7 8 n n 0).bind λl=>
 (fF total).bind λleft=>
 (loop (iD least want most n) (l,left,0)).bind λq=>
 (loop (iG want most n) (q.1,q.2,0)).bind λout=>
 some out
def ac_:Spec fam:=⟨[ge,QQ,QQ,QQ],[f0],λa=>l_ a.1 a.2.1 a.2.2.1 a.2.2.2.1⟩
def gv(s:Gp)(label:Int)(deep:Int)(self:Gp→(List UInt8)→Int→Int→Int→Option (List Ma))(kids:List (List UInt8))(x5:List Int)(t1:List Ma×Int):Option ((List Ma×Int) ⊕ List Ma):=
 bif decide (t1.2<(x5.length:Int))then
 (Kk t1.2 x5.length).bind λi1=>
 (x5[i1]?).bind λx6=>
 (Kk t1.2 kids.length).bind λi2=>
 (kids[i2]?).bind λx7=>
 (self s x7 label x6 (Jd (deep+1))).bind λx8=>
 (app 24 t1.1 x8).bind λl3=>
 some (.inl (l3,Jd (t1.2+1)))
 else
 some (.inr t1.1)
def gq(s:Gp)(label:Int)(kids:List (List UInt8))(t:K6×Int):Option ((K6×Int) ⊕ K6):=
 bif decide (t.2<(kids.length:Int))then
 (Kk t.2 kids.length).bind λi=>
 (kids[i]?).bind λx=>
 (fK s x label).bind λx1=>
 (cV s x label).bind λx2=>
 (gD s x label).bind λx3=>
 (np s x label).bind λx4=>
 (Ms t.2 (t.1.r0.length:Int) t.1.r0.length).bind λp=>
 (Ms 0 1 [x1.Mem,Jd (x2.Mem+x3.Mem),x4.Mem].length).bind λp1=>
 (Ms t.2 (t.1.r1.length:Int) t.1.r1.length).bind λp2=>
 (Ms 1 2 [x1.Mem,Jd (x2.Mem+x3.Mem),x4.Mem].length).bind λp3=>
 (Ms t.2 (t.1.r2.length:Int) t.1.r2.length).bind λp4=>
 (Ms 2 3 [x1.Mem,Jd (x2.Mem+x3.Mem),x4.Mem].length).bind λp5=>
 some (.inl ((⟨LP t.1.r0 p.1 p.2 (sub [x1.Mem,Jd (x2.Mem+x3.Mem),x4.Mem] p1.1 p1.2),LP t.1.r1 p2.1 p2.2 (sub [x1.Mem,Jd (x2.Mem+x3.Mem),x4.Mem] p3.1 p3.2),LP t.1.r2 p4.1 p4.2 (sub [x1.Mem,Jd (x2.Mem+x3.Mem),x4.Mem] p5.1 p5.2)⟩:K6),Jd (t.2+1)))
 else
 some (.inr t.1)
def mT(self:Gp→(List UInt8)→Int→Int→Int→Option (List Ma))(s:Gp)(Kn:List UInt8)(label:Int)(mem:Int)(deep:Int):Option (List Ma):=
 (iq s.Jc Kn).bind λkids=>
 (
 bif(kids.length:Int) == 0 then
  some true
 else
  some (decide (deep>4))).bind λq=>
 bif q then
 some [(⟨Kn,mem⟩:Ma)]
 else
 (P7 8 (kids.length:Int) (kids.length:Int) 0).bind λl=>
 (P7 8 (kids.length:Int) (kids.length:Int) 0).bind λl1=>
 (P7 8 (kids.length:Int) (kids.length:Int) 0).bind λl2=>
 (loop (gq s label kids) ((⟨l,l1,l2⟩:K6),0)).bind λrows=>
 (l_ mem rows.r0 rows.r1 rows.r2).bind λx5=>
 (loop (gv s label deep self kids x5) ([],0)).bind λout=>
 some out
def eX:Nat→Gp→(List UInt8)→Int→Int→Int→Option (List Ma)
 | 0=>λ_ _ _ _ _=>none
 | n+1=>mT (eX n)
def tV(a0:Gp)(a1:List UInt8)(a2:Int)(a3:Int)(a4:Int):Option (List Ma):=eX 64 a0 a1 a2 a3 a4
def aoA:Hint:=(JQ (.s .z (.s (.s (.j [25,26,27,28,29,30,31] [(0,[(31,gt)])] .z) .z) (JQ (.s (JQ (.b (.u 4 .z))) (.s (JQ ((JJ [(12,.box (.st 22) [5003,0,1,2]),(51,ge)] [12,14,15,16,17,51,52,53,54,55,56,57,58,59,60,61,62,63,64,65,66,67,68,69,70,71,72,73,74,75,76,77,78,79,80,81,82,83,84,85,86,87,88,89,90,91,92,93,94,95,96] [(4,[(12,.box (.st 22) [5003,0,1,2])])] (JQ (.s .z (.s (.b (JQ (.s .z (JQ (.b (.u 4 .z)))))) .z)))))) (JQ (.s (JQ ((JJ [(18,Qc),(109,ge)] [18,19,20,109] [(8,[(18,Qc)])] .z))) .z))))))))
def adz:Spec fam:=⟨[f9,f8,ge,ge,ge],[Qc],λa=>tV a.1 a.2.1 a.2.2.1 a.2.2.2.1 a.2.2.2.2.1⟩
def p7(n:Nat):Spec fam:=⟨[.v (.st 10) [],.v .str [],.v (.int .i64) [],.v (.int .i64) [],.v (.int .i64) []],[.v (.slice (.st 15)) [0]],λa=>eX n a.1 a.2.1 a.2.2.1 a.2.2.2.1 a.2.2.2.2.1⟩
def ig(s:Gp)(label:Int):Option (List Ma):=
 (eg s label).bind λx=>
 (tV s ([114,111,111,116]:List UInt8) label x.Mem 1).bind λx1=>
 some x1
def ad1:Spec fam:=⟨[f9,ge],[Qc],λa=>ig a.1 a.2.1⟩
def pz(s:List Ma)(f:(Js fam [.st 15]→Option Bool))(t:Int):Option (Int ⊕ (Int ⊕ Unit)):=
 bif decide (t<(s.length:Int))then
 (idx s t).bind λx=>
 (f (x,())).bind λr=>
 bif r then
  some (.inr (.inl t))
 else
  some (.inl (Jd (t+1)))
 else
 some (.inr (.inr ()))
def n8(s:List Ma)(f:(Js fam [.st 15]→Option Bool)):Option Int:=
 (loop (pz s f) 0).bind λq0=>
 match q0 with
 | .inl q=>
 some q
 | .inr _=>
 some (-1)
def adZ:Spec fam:=⟨[.v (.slice (.st 15)) [],.fn [.st 15] .bool],[ge],λa=>n8 a.1 a.2.1⟩
def gX(x:Ma)(p:App):Option Bool:=
 some (x.Kh == p.Ja)
def adY:Spec fam:=⟨[.v (.st 15) [],.rp (.st 6)],[gt],λa=>gX a.1 a.2.1⟩
def uy(s:Gp)(c:Cont)(t:Int×Int):Option ((Int×Int) ⊕ Int):=
 bif decide (t.2<(s.I6.length:Int))then
 (
  (idx s.I6 t.2).bind λx2=>
  (
  bif c.Jb then
   bif x2.App == c.App then
   bif x2.Id != c.Id then
    some (x2.Ji == c.Ji)
   else
    some false
   else
   some false
  else
   some false).bind λq=>
  bif q then
  let used:=Jd (t.1 - x2.Ku.Mem)
  some used
  else
  some t.1).bind λacI=>
 some (.inl (acI,Jd (t.2+1)))
 else
 some (.inr t.1)
def jn(s:Gp)(c:Cont):Option Bool:=
 (di s c.App).bind λx=>
 (cV s x.1.Ja c.Ji).bind λx1=>
 (loop (uy s c) (x1.Mem,0)).bind λacH=>
 (ig s c.Ji).bind λl=>
 (n8 l (λa'=>gX a'.1 x.1)).bind λi=>
 bif decide (i≥0)then
 (Kk i l.length).bind λi1=>
 (l[i1]?).bind λx3=>
 some (decide (acH>x3.Mem))
 else
 some false
def aey:Spec fam:=⟨[f9,QI],[gt],λa=>jn a.1 a.2.1⟩
def kx(label:Int)(x1:Cont)(s1:Gp):Option Gp:=
 (eB s1.I6 (λa'=>pS a'.1 x1)).bind λi=>
 (
 bif decide (i<0)then
  some true
 else
  (Kk i s1.I6.length).bind λi1=>
  (s1.I6[i1]?).bind λx2=>
  (sd x2 label s1.Now).bind λx3=>
  some (! x3)).bind λq=>
 bif q then
 some s1
 else
 (jn s1 x1).bind λx4=>
 bif x4 then
  (bj s1 [x1.Id]).bind λx5=>
  some x5
 else
  (Kk i s1.I6.length).bind λi2=>
  (s1.I6[i2]?).bind λx6=>
  some (⟨⟨s1.Jc.Je,s1.Jc.I8⟩,s1.Jh,s1.I9,List.set s1.I6 i2 (⟨x6.Id,x6.App,x6.Node,⟨x6.Ku.Mem,x6.Ku.I_⟩,x6.J6,x6.Ji,x6.Jb,0⟩:Cont),s1.Jr,s1.Jq,s1.Now,s1.Jz,s1.Seq⟩:Gp)
def kq(s:Gp)(label:Int):Option Gp:=
 (ef s.I6).bind λx=>
 (WL (kx label) x s).bind λs2=>
 some s2
def anC:Ks:=[(2,QV)]
def ajF:List Nat:=[2,6,7,13,14,15,16,17,18,19,20,21,22,23,24,25,26,27,28,29,30,31,32,33,34,35,36,37,38,39,40,41,42,43,44,45,46]
def aoE:Hint:=(.b (JQ (.b (.s (.j [23,24,25,26,27,28,29,30,31,32,33,34,35,36,37] [(0,[(23,gt)])] .z) .z))))
def ae3:Spec fam:=⟨[QJ,ge],[QJ],λa=>kq a.1 a.2.1⟩
def cf(k:J7)(c:Cont):Option J7:=
 let e:=Lx (λx=>c.Id == x.k) k.Lp (⟨c.Id,0⟩:Ko)
 let e1:=Lx (λx2=>c.Id == x2.k) k.leaf (⟨c.Id,[]⟩:KA)
 let e2:=Lx (λx3=>e1.v == x3.k) k.over (⟨e1.v,0⟩:Jf)
 some (⟨⟨⟨k.s.Jc.Je,k.s.Jc.I8⟩,k.s.Jh,k.s.I9,k.s.I6,k.s.Jr,k.s.Jq,k.s.Now,k.s.Jz,k.s.Seq⟩,k.label,Lu (λx4=>e1.v == x4.k) k.over (⟨e1.v,Jd (e2.v - c.Ku.Mem)⟩:Jf),k.leaf,Lu (λx1=>c.Id == x1.k) k.Lp (⟨c.Id,Jd (e.v+1)⟩:Ko),Jd (k.gone+c.Ku.Mem)⟩:J7)
def aeu:Spec fam:=⟨[QE,QI],[],λa=>cf a.1 a.2.1⟩
def gZ(s:Gp)(label:Int)(t1:J7×Int):Option ((J7×Int) ⊕ J7):=
 bif decide (t1.2<(s.I6.length:Int))then
 (
  (idx s.I6 t1.2).bind λx4=>
  bif x4.Ji != label then
  some t1.1
  else
  (di s x4.App).bind λx5=>
  bif x4.Mf != 0 then
   (cf (⟨⟨⟨t1.1.s.Jc.Je,t1.1.s.Jc.I8⟩,t1.1.s.Jh,t1.1.s.I9,t1.1.s.I6,t1.1.s.Jr,t1.1.s.Jq,t1.1.s.Now,t1.1.s.Jz,t1.1.s.Seq⟩,t1.1.label,t1.1.over,Lu (λx6=>x4.Id == x6.k) t1.1.leaf (⟨x4.Id,x5.1.Ja⟩:KA),t1.1.Lp,t1.1.gone⟩:J7) x4).bind λx7=>
   some x7
  else
   some (⟨⟨⟨t1.1.s.Jc.Je,t1.1.s.Jc.I8⟩,t1.1.s.Jh,t1.1.s.I9,t1.1.s.I6,t1.1.s.Jr,t1.1.s.Jq,t1.1.s.Now,t1.1.s.Jz,t1.1.s.Seq⟩,t1.1.label,t1.1.over,Lu (λx6=>x4.Id == x6.k) t1.1.leaf (⟨x4.Id,x5.1.Ja⟩:KA),t1.1.Lp,t1.1.gone⟩:J7)).bind λk1=>
 some (.inl (k1,Jd (t1.2+1)))
 else
 some (.inr t1.1)
def g9(s:Gp)(label:Int)(x:List Ma)(t:J7×Int):Option ((J7×Int) ⊕ J7):=
 bif decide (t.2<(x.length:Int))then
 (Kk t.2 x.length).bind λi=>
 (x[i]?).bind λx1=>
 (cV s x1.Kh label).bind λx2=>
 some (.inl ((⟨⟨⟨t.1.s.Jc.Je,t.1.s.Jc.I8⟩,t.1.s.Jh,t.1.s.I9,t.1.s.I6,t.1.s.Jr,t.1.s.Jq,t.1.s.Now,t.1.s.Jz,t.1.s.Seq⟩,t.1.label,Lu (λx3=>x1.Kh == x3.k) t.1.over (⟨x1.Kh,Jd (x2.Mem - x1.Mem)⟩:Jf),t.1.leaf,t.1.Lp,t.1.gone⟩:J7),Jd (t.2+1)))
 else
 some (.inr t.1)
def jZ(s:Gp)(label:Int):Option J7:=
 (ig s label).bind λx=>
 (loop (g9 s label x) ((⟨⟨⟨s.Jc.Je,s.Jc.I8⟩,s.Jh,s.I9,s.I6,s.Jr,s.Jq,s.Now,s.Jz,s.Seq⟩,label,[],[],[],0⟩:J7),0)).bind λk=>
 (loop (gZ s label) (k,0)).bind λk2=>
 some k2
def aex:Spec fam:=⟨[f9,ge],[.nb (.st 23) [11,12,13]],λa=>jZ a.1 a.2.1⟩
def eT(k:J7)(Kn:List UInt8)(x:Vec)(x1:Vec)(x2:App)(t1:Int):Option (Int ⊕ (Int ⊕ Unit)):=
 bif decide (t1<(x2.Jy.length:Int))then
 (idx x2.Jy t1).bind λx4=>
 (
  bif x4.Ji == k.label then
  some (decide ((Jd (x.Mem+x4.Ku.Mem))≤x1.Mem))
  else
  some false).bind λq1=>
 bif q1 then
  (gD k.s Kn k.label).bind λx5=>
  some (.inr (.inl (Oj x5.Mem (Jd (x1.Mem - x.Mem)))))
 else
  some (.inl (Jd (t1+1)))
 else
 some (.inr (.inr ()))
def eS(k:J7)(Kn:List UInt8)(x:Vec)(x1:Vec)(t:Int):Option (Int ⊕ (Int ⊕ Unit)):=
 bif decide (t<(k.s.I9.length:Int))then
 (
  (idx k.s.I9 t).bind λx2=>
  (
  (ci x2).bind λx3=>
  bif ! x3 then
   some true
  else
   some (! (x2.Ja == Kn))).bind λq=>
  bif q then
  some (.inl ())
  else
  (loop (eT k Kn x x1 x2) 0).bind λq0=>
  match q0 with
  | .inl q2=>
   some (.inr q2)
  | .inr _=>
   some (.inl ()):Option (Unit ⊕ Int)).bind λq0=>
 match q0 with
 | .inl _=>
  some (.inl (Jd (t+1)))
 | .inr q3=>
  some (.inr (.inl q3))
 else
 some (.inr (.inr ()))
def dU(k:J7)(Kn:List UInt8):Option (Int×J7):=
 (cV k.s Kn k.label).bind λx=>
 (fK k.s Kn k.label).bind λx1=>
 (loop (eS k Kn x x1) 0).bind λq0=>
 match q0 with
 | .inl q4=>
 some (q4,k)
 | .inr _=>
 some (0,k)
def adX:Spec fam:=⟨[QE,f8],[ge],λa=>dU a.1 a.2.1⟩
def cX(x:List Ma)(t:J7×Int×Int):Option ((J7×Int×Int) ⊕ ((J7×Int))):=
 bif decide (t.2.2<(x.length:Int))then
 (Kk t.2.2 x.length).bind λi=>
 (x[i]?).bind λx1=>
 (dU t.1 x1.Kh).bind λx2=>
 let sum:=Jd (t.2.1+x2.1)
 some (.inl (x2.2,sum,Jd (t.2.2+1)))
 else
 some (.inr (t.1,t.2.1))
def eM(k:J7):Option (Int×J7):=
 (ig k.s k.label).bind λx=>
 (loop (cX x) (k,0,0)).bind λq=>
 (eg q.1.s q.1.label).bind λx3=>
 (cV q.1.s ([114,111,111,116]:List UInt8) q.1.label).bind λx4=>
 some (Jd (q.2 - (imax (Jd (x3.Mem - x4.Mem)) 0)),q.1)
def aew:Spec fam:=⟨[QE],[ge],λa=>eM a.1⟩
def bg(k:J7)(_ob:Obj)(found:List UInt8)(e4:Jt):Option (List UInt8):=
 (
 bif found == ([]:List UInt8)then
  some true
 else
  let e5:=Lx (λx6=>found == x6.k) k.over (⟨found,0⟩:Jf)
  let e6:=Lx (λx7=>e4.k == x7.k) k.over (⟨e4.k,0⟩:Jf)
  (cQ e5.v e6.v).bind λx8=>
  (b8 e4.k found).bind λx9=>
  (gS [x8,x9]).bind λx10=>
  some (decide (x10<0))).bind λq2=>
 bif q2 then
 some e4.k
 else
 some found
def cZ(k:J7)(t:List Jt×Int):Option ((List Jt×Int) ⊕ List Jt):=
 bif decide (t.2<(k.s.I6.length:Int))then
 (
  (idx k.s.I6 t.2).bind λx=>
  let e:=Lx (λx1=>x.Id == x1.k) k.leaf (⟨x.Id,[]⟩:KA)
  let is:=Oi (λx1=>x.Id == x1.k) k.leaf
  (
  bif ! is then
   some true
  else
   let e1:=Lx (λx2=>x.Id == x2.k) k.Lp (⟨x.Id,0⟩:Ko)
   bif decide (e1.v>0)then
   some true
   else
   let e2:=Lx (λx3=>e.v == x3.k) k.over (⟨e.v,0⟩:Jf)
   some (decide (e2.v≤0))).bind λq=>
  bif q then
  some t.1
  else
  let e3:=Lx (λx4=>e.v == x4.k) t.1 (⟨e.v,⟨0,0,0,⟨0,0⟩,0,0,false,0⟩⟩:Jt)
  let has:=Oi (λx4=>e.v == x4.k) t.1
  (
   bif ! has then
   some true
   else
   bif e3.v.Jb then
    bif ! x.Jb then
    some true
    else
    bif e3.v.Jb == x.Jb then
     some (decide (x.Id>e3.v.Id))
    else
     some false
   else
    bif e3.v.Jb == x.Jb then
    some (decide (x.Id>e3.v.Id))
    else
    some false).bind λq1=>
  bif q1 then
   some (Lu (λx5=>e.v == x5.k) t.1 (⟨e.v,⟨x.Id,x.App,x.Node,⟨x.Ku.Mem,x.Ku.I_⟩,x.J6,x.Ji,x.Jb,x.Mf⟩⟩:Jt))
  else
   some t.1).bind λbest=>
 some (.inl (best,Jd (t.2+1)))
 else
 some (.inr t.1)
def eH(k:J7):Option (Cont×Bool×J7):=
 (loop (cZ k) ([],0)).bind λWu=>
 (rng (ω:=Obj) (λ_=>some ([]:List UInt8)) (bg k) Wu).bind λTx=>
 let e7:=Lx (λNg=>Tx == Ng.k) Wu (⟨Tx,⟨0,0,0,⟨0,0⟩,0,0,false,0⟩⟩:Jt)
 let is1:=Oi (λNg=>Tx == Ng.k) Wu
 some (e7.v,is1,k)
def aev:Spec fam:=⟨[QE],[QI,gt],λa=>eH a.1⟩
def pv(need:Int×J7)(t:J7×List Int):Option ((J7×List Int) ⊕ List Int):=
 bif decide (t.1.gone<need.1)then
 (eH t.1).bind λx=>
 bif ! x.2.1 then
  some (.inr t.2)
 else
  (cf x.2.2 x.1).bind λx1=>
  (app 8 t.2 [x.1.Id]).bind λl=>
  some (.inl (x1,l))
 else
 some (.inr t.2)
def kN(s:Gp)(label:Int):Option (List Int):=
 (jZ s label).bind λk=>
 (eM k).bind λneed=>
 (loop (pv need) (need.2,[])).bind λout=>
 some out
def ae2:Spec fam:=⟨[f9,ge],[f0],λa=>kN a.1 a.2.1⟩
def pA(x:Cont)(p:Int):Option Bool:=
 some (x.Id == p)
def ae1:Spec fam:=⟨[QI,.rp (.int .i64)],[gt],λa=>pA a.1 a.2.1⟩
def pb(x:Cont)(p:Cont):Option Bool:=
 some (x.Id == p.Id)
def ae0:Spec fam:=⟨[QI,.rp (.st 7)],[gt],λa=>pb a.1 a.2.1⟩
def bB(s:List Int):Option (List Int):=Rb s
def aeZ:Spec fam:=⟨[QM],[],λa=>bB a.1⟩
def gr(s:Gp)(t3:Gp)(t4:List Int×Int):Option ((List Int×Int) ⊕ List Int):=
 bif decide (t4.2<(s.I6.length:Int))then
 (
  (idx s.I6 t4.2).bind λx5=>
  (ko t3.I6 (λa'=>pb a'.1 x5)).bind λx6=>
  bif ! x6 then
  (app 8 t4.1 [x5.Id]).bind λl=>
  some l
  else
  some t4.1).bind λgone=>
 some (.inl (gone,Jd (t4.2+1)))
 else
 some (.inr t4.1)
def gz(x2:List Int)(t1:Gp×Int):Option ((Gp×Int) ⊕ Gp):=
 bif decide (t1.2<(x2.length:Int))then
 (Kk t1.2 x2.length).bind λi=>
 (x2[i]?).bind λx3=>
 (eB t1.1.I6 (λa'=>pA a'.1 x3)).bind λi1=>
 (Kk i1 t1.1.I6.length).bind λi2=>
 (t1.1.I6[i2]?).bind λx4=>
 some (.inl ((⟨⟨t1.1.Jc.Je,t1.1.Jc.I8⟩,t1.1.Jh,t1.1.I9,List.set t1.1.I6 i2 (⟨x4.Id,x4.App,x4.Node,⟨x4.Ku.Mem,x4.Ku.I_⟩,x4.J6,x4.Ji,x4.Jb,imax t1.1.Now 1⟩:Cont),t1.1.Jr,t1.1.Jq,t1.1.Now,t1.1.Jz,t1.1.Seq⟩:Gp),Jd (t1.2+1)))
 else
 some (.inr t1.1)
def gx(s:Gp)(t:Gp×Int):Option ((Gp×Int) ⊕ Gp):=
 bif decide (t.2<(s.Jc.Je.length:Int))then
 (kq t.1 t.2).bind λx1=>
 (kN x1 t.2).bind λx2=>
 (loop (gz x2) (x1,0)).bind λt2=>
 some (.inl (t2,Jd (t.2+1)))
 else
 some (.inr t.1)
def jt(s:Gp):Option (Gp×List Int):=
 (bj s []).bind λx=>
 (loop (gx s) (x,0)).bind λt3=>
 (loop (gr s t3) ([],0)).bind λajy=>
 (bB ajy).bind λx7=>
 some (t3,x7)
def afG:Spec fam:=⟨[f9],[QJ,f0],λa=>jt a.1⟩
def d4(was:List Cont)(t4:Step)(x10:Gp×List Int)(t5:Output×Int):Option ((Output×Int) ⊕ Output):=
 bif decide (t5.2<(was.length:Int))then
 (
  (Kk t5.2 was.length).bind λi2=>
  (was[i2]?).bind λNg=>
  (cj (⟨⟨⟨x10.1.Jc.Je,x10.1.Jc.I8⟩,x10.1.Jh,x10.1.I9,x10.1.I6,x10.1.Jr,x10.1.Jq,x10.1.Now,x10.1.Jz,x10.1.Seq⟩,⟨t4.x.Kind,t4.x.Id,t4.x.J_,t4.x.N,t4.x.Text,⟨t4.x.Node.Id,t4.x.Node.Ji,t4.x.Node.KL,⟨t4.x.Node.Cap.Mem,t4.x.Node.Cap.I_⟩,t4.x.Node.KD,t4.x.Node.J_,t4.x.Node.Up⟩,⟨t4.x.App.Id,t4.x.App.Gp,t4.x.App.Ja,t4.x.App.User,t4.x.App.J6,⟨t4.x.App.Jb.Mem,t4.x.App.Jb.I_⟩,t4.x.App.Jy,t4.x.App.KD,t4.x.App.J_,t4.x.App.Kj,t4.x.App.KJ,t4.x.App.Told,t4.x.App.Lm⟩,t4.x.Jy,t4.x.Ids,⟨t4.x.Jk.Id,t4.x.Jk.Ji,t4.x.Jk.From,t4.x.Jk.Until,⟨t4.x.Jk.Need.Mem,t4.x.Jk.Need.I_⟩⟩⟩⟩:Step) [Ng.Id]).bind λOA=>
  bif(OA.length:Int) == 0 then
  (app 8 t5.1.Gone [Ng.Id]).bind λl=>
  some (⟨t5.1.Err,t5.1.I6,t5.1.Ids,l,t5.1.N⟩:Output)
  else
  some t5.1).bind λout=>
 some (.inl (out,Jd (t5.2+1)))
 else
 some (.inr t5.1)
def dV(x5:List Int)(t3:Step×Int):Option ((Step×Int) ⊕ Step):=
 bif decide (t3.2<(x5.length:Int))then
 (Kk t3.2 x5.length).bind λi1=>
 (x5[i1]?).bind λx6=>
 (gy t3.1 x6).bind λx7=>
 (bj t3.1.s x7).bind λx8=>
 some (.inl ((⟨⟨⟨x8.Jc.Je,x8.Jc.I8⟩,x8.Jh,x8.I9,x8.I6,x8.Jr,x8.Jq,x8.Now,x8.Jz,x8.Seq⟩,⟨t3.1.x.Kind,t3.1.x.Id,t3.1.x.J_,t3.1.x.N,t3.1.x.Text,⟨t3.1.x.Node.Id,t3.1.x.Node.Ji,t3.1.x.Node.KL,⟨t3.1.x.Node.Cap.Mem,t3.1.x.Node.Cap.I_⟩,t3.1.x.Node.KD,t3.1.x.Node.J_,t3.1.x.Node.Up⟩,⟨t3.1.x.App.Id,t3.1.x.App.Gp,t3.1.x.App.Ja,t3.1.x.App.User,t3.1.x.App.J6,⟨t3.1.x.App.Jb.Mem,t3.1.x.App.Jb.I_⟩,t3.1.x.App.Jy,t3.1.x.App.KD,t3.1.x.App.J_,t3.1.x.App.Kj,t3.1.x.App.KJ,t3.1.x.App.Told,t3.1.x.App.Lm⟩,t3.1.x.Jy,t3.1.x.Ids,⟨t3.1.x.Jk.Id,t3.1.x.Jk.Ji,t3.1.x.Jk.From,t3.1.x.Jk.Until,⟨t3.1.x.Jk.Need.Mem,t3.1.x.Jk.Need.I_⟩⟩⟩⟩:Step),Jd (t3.2+1)))
 else
 some (.inr t3.1)
def dQ(x2:List Int)(t1:Step×Int):Option ((Step×Int) ⊕ Step):=
 bif decide (t1.2<(x2.length:Int))then
 (Kk t1.2 x2.length).bind λi=>
 (x2[i]?).bind λx3=>
 (fS t1.1 x3).bind λx4=>
 some (.inl (x4,Jd (t1.2+1)))
 else
 some (.inr t1.1)
def fR(t:Step):Option (Output×Step):=
 (
 bif decide (t.x.N<1)then
  some true
 else
  some (decide (t.x.N>100))).bind λq=>
 bif q then
 (aO 1).bind λx=>
 some (x,t)
 else
 bif decide (t.s.Now>(Jd (1000000000 - t.x.N)))then
  (aO 11).bind λx1=>
  some (x1,t)
 else
  (ef t.s.I6).bind λwas=>
  (ot (⟨⟨t.s.Jc.Je,t.s.Jc.I8⟩,t.s.Jh,t.s.I9,t.s.I6,t.s.Jr,t.s.Jq,Jd (t.s.Now+t.x.N),t.s.Jz,t.s.Seq⟩:Gp)).bind λx2=>
  (loop (dQ x2) ((⟨⟨⟨t.s.Jc.Je,t.s.Jc.I8⟩,t.s.Jh,t.s.I9,t.s.I6,t.s.Jr,t.s.Jq,Jd (t.s.Now+t.x.N),t.s.Jz,t.s.Seq⟩,⟨t.x.Kind,t.x.Id,t.x.J_,t.x.N,t.x.Text,⟨t.x.Node.Id,t.x.Node.Ji,t.x.Node.KL,⟨t.x.Node.Cap.Mem,t.x.Node.Cap.I_⟩,t.x.Node.KD,t.x.Node.J_,t.x.Node.Up⟩,⟨t.x.App.Id,t.x.App.Gp,t.x.App.Ja,t.x.App.User,t.x.App.J6,⟨t.x.App.Jb.Mem,t.x.App.Jb.I_⟩,t.x.App.Jy,t.x.App.KD,t.x.App.J_,t.x.App.Kj,t.x.App.KJ,t.x.App.Told,t.x.App.Lm⟩,t.x.Jy,t.x.Ids,⟨t.x.Jk.Id,t.x.Jk.Ji,t.x.Jk.From,t.x.Jk.Until,⟨t.x.Jk.Need.Mem,t.x.Jk.Need.I_⟩⟩⟩⟩:Step),0)).bind λt2=>
  (lR t2.s).bind λx5=>
  (loop (dV x5) (t2,0)).bind λt4=>
  (jv t4.s.Jq (λa'=>kX a'.1 t4.s.Now)).bind λx9=>
  (jt (⟨⟨t4.s.Jc.Je,t4.s.Jc.I8⟩,t4.s.Jh,t4.s.I9,t4.s.I6,t4.s.Jr,x9,t4.s.Now,t4.s.Jz,t4.s.Seq⟩:Gp)).bind λx10=>
  (loop (d4 was t4 x10) ((⟨0,[],[],[],0⟩:Output),0)).bind λLQ=>
  some (LQ,(⟨⟨⟨x10.1.Jc.Je,x10.1.Jc.I8⟩,x10.1.Jh,x10.1.I9,x10.1.I6,x10.1.Jr,x10.1.Jq,x10.1.Now,x10.1.Jz,x10.1.Seq⟩,⟨t4.x.Kind,t4.x.Id,t4.x.J_,t4.x.N,t4.x.Text,⟨t4.x.Node.Id,t4.x.Node.Ji,t4.x.Node.KL,⟨t4.x.Node.Cap.Mem,t4.x.Node.Cap.I_⟩,t4.x.Node.KD,t4.x.Node.J_,t4.x.Node.Up⟩,⟨t4.x.App.Id,t4.x.App.Gp,t4.x.App.Ja,t4.x.App.User,t4.x.App.J6,⟨t4.x.App.Jb.Mem,t4.x.App.Jb.I_⟩,t4.x.App.Jy,t4.x.App.KD,t4.x.App.J_,t4.x.App.Kj,t4.x.App.KJ,t4.x.App.Told,t4.x.App.Lm⟩,t4.x.Jy,t4.x.Ids,⟨t4.x.Jk.Id,t4.x.Jk.Ji,t4.x.Jk.From,t4.x.Jk.Until,⟨t4.x.Jk.Need.Mem,t4.x.Jk.Need.I_⟩⟩⟩⟩:Step))
def alR:Spec fam:=⟨[QH],[QN],λa=>fR a.1⟩
def eo(n:Int)(most:Int):Option Bool:=
 bif decide (n≥0)then
 some (decide (n≤most))
 else
 some false
def aeY:Spec fam:=⟨[ge,ge],[gt],λa=>eo a.1 a.2.1⟩
def mP(s:List Jk)(f:(Js fam [.st 9]→Option Bool)):Option Bool:=
 (gK s f).bind λx=>
 some (decide (x≥0))
def aeX:Spec fam:=⟨[Q6,.fn [.st 9] .bool],[gt],λa=>mP a.1 a.2.1⟩
def vK(x:Jk)(p:Jk):Option Bool:=
 some (x.Id == p.Id)
def aeW:Spec fam:=⟨[Ql,.rp (.st 9)],[gt],λa=>vK a.1 a.2.1⟩
def BL(l:List Jk)(label:Int)(t:Int)(t1:Vec×Int):Option ((Vec×Int) ⊕ Vec):=
 bif decide (t1.2<(l.length:Int))then
 (
  (idx l t1.2).bind λx=>
  (
  bif x.Ji == label then
   bif decide (x.From≤t)then
   some (decide (x.Until>t))
   else
   some false
  else
   some false).bind λq=>
  bif q then
  (cy t1.1 x.Need).bind λx1=>
  some x1.1
  else
  some t1.1).bind λout=>
 some (.inl (out,Jd (t1.2+1)))
 else
 some (.inr t1.1)
def sK(l:List Jk)(label:Int)(t:Int):Option Vec:=
 (loop (BL l label t) ((⟨0,0⟩:Vec),0)).bind λLQ=>
 some LQ
def adS:Spec fam:=⟨[Q6,ge,ge],[t7],λa=>sK a.1 a.2.1 a.2.2.1⟩
def i_(k:Int)(p:List Jk)(p1:Jk)(p2:Vec):Option Bool:=
 (sK p p1.Ji k).bind λx=>
 (cy x p1.Need).bind λx1=>
 bif x1.2 != 0 then
 some true
 else
 (eh x1.1 p2).bind λx2=>
 some (! x2)
def adT:Spec fam:=⟨[ge,.rp (.slice (.st 9)),.rp (.st 9),.rp (.st 0)],[gt],λa=>i_ a.1 a.2.1 a.2.2.1 a.2.2.2.1⟩
def jY(l:List Jk)(t:Int)(long:Int)(t1:List Int×Int):Option ((List Int×Int) ⊕ List Int):=
 bif decide (t1.2<(l.length:Int))then
 (
  (idx l t1.2).bind λx=>
  (
  bif decide (x.From>t)then
   some (decide (x.From<(Jd (t+long))))
  else
   some false).bind λq=>
  bif q then
  (app 8 t1.1 [x.From]).bind λl1=>
  some l1
  else
  some t1.1).bind λtimes=>
 some (.inl (times,Jd (t1.2+1)))
 else
 some (.inr t1.1)
def oZ(l:List Jk)(total:Vec)(p:Jk)(t:Int)(long:Int):Option Bool:=
 (loop (jY l t long) ([t],0)).bind λTq=>
 (bf Tq (λa'=>i_ a'.1 l p total)).bind λx1=>
 some (! x1)
def aes:Spec fam:=⟨[Q6,t7,Ql,ge,ge],[gt],λa=>oZ a.1 a.2.1 a.2.2.1 a.2.2.2.1 a.2.2.2.2.1⟩
def mM(l:List Jk)(total:Vec)(p:Jk)(long:Int)(x6:List Int)(t1:Int):Option (Int ⊕ ((Int×Int) ⊕ Unit)):=
 bif decide (t1<(x6.length:Int))then
 (Kk t1 x6.length).bind λi1=>
 (x6[i1]?).bind λx7=>
 (
  bif decide (x7≤(Jd (p.Until - long)))then
  (oZ l total p x7 long).bind λx8=>
  some x8
  else
  some false).bind λq1=>
 bif q1 then
  some (.inr (.inl (x7,0)))
 else
  some (.inl (Jd (t1+1)))
 else
 some (.inr (.inr ()))
def jm(l:List Jk)(p:Jk)(t:List Int×Int):Option ((List Int×Int) ⊕ List Int):=
 bif decide (t.2<(l.length:Int))then
 (
  (idx l t.2).bind λx5=>
  bif decide (x5.Until>p.From)then
  (app 8 t.1 [x5.Until]).bind λl2=>
  some l2
  else
  some t.1).bind λtimes=>
 some (.inl (times,Jd (t.2+1)))
 else
 some (.inr t.1)
def m_(l:List Jk)(total:Vec)(p:Jk)(long:Int):Option (Int×Int):=
 (
 bif decide (long<1)then
  some true
 else
  bif decide (long>1000)then
  some true
  else
  (eo p.From 1000000).bind λx=>
  bif ! x then
   some true
  else
   (eo p.Until 1000000).bind λx1=>
   bif ! x1 then
   some true
   else
   (eo p.Need.Mem 1073741824).bind λx2=>
   bif ! x2 then
    some true
   else
    (eo p.Need.I_ 1073741824).bind λx3=>
    some (! x3)).bind λq=>
 bif q then
 some (0,1)
 else
 (P7 8 1 (Jd ((l.length:Int)+1)) 0).bind λl1=>
 (Kk 0 l1.length).bind λi=>
 (l1[i]?).bind λx4=>
 (loop (jm l p) (List.set l1 i p.From,0)).bind λTq=>
 (bB Tq).bind λx6=>
 (loop (mM l total p long x6) 0).bind λq0=>
 match q0 with
 | .inl q2=>
  some (q2.1,q2.2)
 | .inr _=>
  some (0,16)
def aeV:Spec fam:=⟨[Q6,t7,Ql,ge],[ge,ge],λa=>m_ a.1 a.2.1 a.2.2.1 a.2.2.2.1⟩
def tU(p:Jk)(x:Gp)(k:Int):Option (Int ⊕ Int):=
 (
 bif decide (k<(x.Jq.length:Int))then
  (Kk k x.Jq.length).bind λi=>
  (x.Jq[i]?).bind λx1=>
  some (decide (x1.Id<p.Id))
 else
  some false).bind λq=>
 bif q then
 some (.inl (Jd (k+1)))
 else
 some (.inr k)
def qv(s:Gp)(p:Jk)(long:Int):Option (Gp×Int×Int):=
 (bj s []).bind λx=>
 (loop (tU p x) 0).bind λk1=>
 (
 (eo p.Id 999).bind λx2=>
 bif ! x2 then
  some true
 else
  (eo p.Ji (Jd ((x.Jc.Je.length:Int) - 1))).bind λx3=>
  bif ! x3 then
  some true
  else
  some ((p.Need.Mem == 0)&&(p.Need.I_ == 0))).bind λq1=>
 bif q1 then
 some (x,0,1)
 else
 (mP x.Jq (λa'=>vK a'.1 p)).bind λx4=>
 bif x4 then
  some (x,0,7)
 else
  bif decide ((x.Jq.length:Int)≥12)then
  some (x,0,4)
  else
  bif decide (p.From<x.Now)then
   some (x,0,15)
  else
   (eg x p.Ji).bind λx5=>
   (m_ x.Jq x5 p long).bind λx6=>
   bif x6.2 != 0 then
   some (x,0,x6.2)
   else
   (P7 48 (Jd ((x.Jq.length:Int)+1)) (Jd ((x.Jq.length:Int)+1)) (⟨0,0,0,0,⟨0,0⟩⟩:Jk)).bind λl=>
   (Ms 0 k1 x.Jq.length).bind λp1=>
   (Kk k1 (LP l 0 l.length (sub x.Jq p1.1 p1.2)).length).bind λi1=>
   ((LP l 0 l.length (sub x.Jq p1.1 p1.2))[i1]?).bind λx7=>
   (Ms (Jd (k1+1)) ((List.set (LP l 0 l.length (sub x.Jq p1.1 p1.2)) i1 (⟨p.Id,p.Ji,x6.1,Jd (x6.1+long),⟨p.Need.Mem,p.Need.I_⟩⟩:Jk)).length:Int) (List.set (LP l 0 l.length (sub x.Jq p1.1 p1.2)) i1 (⟨p.Id,p.Ji,x6.1,Jd (x6.1+long),⟨p.Need.Mem,p.Need.I_⟩⟩:Jk)).length).bind λp2=>
   (Ms k1 (x.Jq.length:Int) x.Jq.length).bind λp3=>
   some ((⟨⟨x.Jc.Je,x.Jc.I8⟩,x.Jh,x.I9,x.I6,x.Jr,LP (List.set (LP l 0 l.length (sub x.Jq p1.1 p1.2)) i1 (⟨p.Id,p.Ji,x6.1,Jd (x6.1+long),⟨p.Need.Mem,p.Need.I_⟩⟩:Jk)) p2.1 p2.2 (sub x.Jq p3.1 p3.2),x.Now,x.Jz,x.Seq⟩:Gp),x6.1,0)
def afF:Spec fam:=⟨[f9,Ql,ge],[QJ,ge,ge],λa=>qv a.1 a.2.1 a.2.2.1⟩
def fZ(t:Step):Option (Output×Step):=
 (qv t.s t.x.Jk t.x.N).bind λx=>
 bif x.2.2 != 0 then
 (aO x.2.2).bind λx1=>
 some (x1,t)
 else
 some ((⟨0,[],[],[],x.2.1⟩:Output),(⟨⟨⟨x.1.Jc.Je,x.1.Jc.I8⟩,x.1.Jh,x.1.I9,x.1.I6,x.1.Jr,x.1.Jq,x.1.Now,x.1.Jz,x.1.Seq⟩,⟨t.x.Kind,t.x.Id,t.x.J_,t.x.N,t.x.Text,⟨t.x.Node.Id,t.x.Node.Ji,t.x.Node.KL,⟨t.x.Node.Cap.Mem,t.x.Node.Cap.I_⟩,t.x.Node.KD,t.x.Node.J_,t.x.Node.Up⟩,⟨t.x.App.Id,t.x.App.Gp,t.x.App.Ja,t.x.App.User,t.x.App.J6,⟨t.x.App.Jb.Mem,t.x.App.Jb.I_⟩,t.x.App.Jy,t.x.App.KD,t.x.App.J_,t.x.App.Kj,t.x.App.KJ,t.x.App.Told,t.x.App.Lm⟩,t.x.Jy,t.x.Ids,⟨t.x.Jk.Id,t.x.Jk.Ji,t.x.Jk.From,t.x.Jk.Until,⟨t.x.Jk.Need.Mem,t.x.Jk.Need.I_⟩⟩⟩⟩:Step))
def alQ:Spec fam:=⟨[QH],[QN],λa=>fZ a.1⟩
def t_(x:Jk)(p:Int):Option Bool:=
 some (x.Id == p)
def afD:Spec fam:=⟨[Ql,.rp (.int .i64)],[gt],λa=>t_ a.1 a.2.1⟩
def mJ(s:List Jk)(i:Int)(j:Int):Option (List Jk):=del s i j
def afC:Spec fam:=⟨[Q9,ge,ge],[Q9],λa=>mJ a.1 a.2.1 a.2.2.1⟩
def pd(s:Gp)(Li:Int):Option (Gp×Int):=
 (bj s []).bind λx=>
 (gK x.Jq (λa'=>t_ a'.1 Li)).bind λk=>
 bif decide (k<0)then
 some (x,2)
 else
 (mJ x.Jq k (Jd (k+1))).bind λx1=>
 some ((⟨⟨x.Jc.Je,x.Jc.I8⟩,x.Jh,x.I9,x.I6,x.Jr,x1,x.Now,x.Jz,x.Seq⟩:Gp),0)
def alP:Spec fam:=⟨[f9,ge],[QJ,ge],λa=>pd a.1 a.2.1⟩
def ic(t:Step):Option (Output×Step):=
 bif decide (t.s.Jz≥1048576)then
 (aO 11).bind λx=>
 some (x,t)
 else
 some ((⟨0,[],[],[],0⟩:Output),(⟨⟨⟨t.s.Jc.Je,t.s.Jc.I8⟩,t.s.Jh,t.s.I9,t.s.I6,t.s.Jr,t.s.Jq,t.s.Now,Jd (t.s.Jz+1),0⟩,⟨t.x.Kind,t.x.Id,t.x.J_,t.x.N,t.x.Text,⟨t.x.Node.Id,t.x.Node.Ji,t.x.Node.KL,⟨t.x.Node.Cap.Mem,t.x.Node.Cap.I_⟩,t.x.Node.KD,t.x.Node.J_,t.x.Node.Up⟩,⟨t.x.App.Id,t.x.App.Gp,t.x.App.Ja,t.x.App.User,t.x.App.J6,⟨t.x.App.Jb.Mem,t.x.App.Jb.I_⟩,t.x.App.Jy,t.x.App.KD,t.x.App.J_,t.x.App.Kj,t.x.App.KJ,t.x.App.Told,t.x.App.Lm⟩,t.x.Jy,t.x.Ids,⟨t.x.Jk.Id,t.x.Jk.Ji,t.x.Jk.From,t.x.Jk.Until,⟨t.x.Jk.Need.Mem,t.x.Jk.Need.I_⟩⟩⟩⟩:Step))
def alO:Spec fam:=⟨[QH],[QN],λa=>ic a.1⟩
def kL(t:Step):Option (Output×Step):=
 bif t.x.Kind == 1 then
 (cU t).bind λx=>
 some (x.1,x.2)
 else
 bif t.x.Kind == 2 then
  (iB t.s t.x.Node).bind λx1=>
  (de t x1.1 x1.2).bind λx2=>
  some (x2.1,x2.2)
 else
  bif t.x.Kind == 3 then
  (fN t).bind λx3=>
  some (x3.1,x3.2)
  else
  bif t.x.Kind == 4 then
   (lP t.s t.x.App).bind λx4=>
   (de t x4.1 x4.2).bind λx5=>
   some (x5.1,x5.2)
  else
   bif t.x.Kind == 5 then
   (eO t).bind λx6=>
   some (x6.1,x6.2)
   else
   bif t.x.Kind == 6 then
    (eE t 3).bind λx7=>
    some (x7.1,x7.2)
   else
    bif t.x.Kind == 7 then
    (eE t 4).bind λx8=>
    some (x8.1,x8.2)
    else
    bif t.x.Kind == 8 then
     (fR t).bind λx9=>
     some (x9.1,x9.2)
    else
     bif t.x.Kind == 9 then
     (fZ t).bind λx10=>
     some (x10.1,x10.2)
     else
     bif t.x.Kind == 10 then
      (pd t.s t.x.Id).bind λNg=>
      (de t Ng.1 Ng.2).bind λOA=>
      some (OA.1,OA.2)
     else
      bif t.x.Kind == 11 then
      (ic t).bind λPw=>
      some (Pw.1,Pw.2)
      else
      (aO 3).bind λN7=>
      some (N7,t)
def amm:Spec fam:=⟨[QH],[QN],λa=>kL a.1⟩
def ga(s:Gp)(x:Input):Option (Gp×Output):=
 (bj s []).bind λx1=>
 (kL (⟨⟨⟨x1.Jc.Je,x1.Jc.I8⟩,x1.Jh,x1.I9,x1.I6,x1.Jr,x1.Jq,x1.Now,x1.Jz,x1.Seq⟩,⟨x.Kind,x.Id,x.J_,x.N,x.Text,⟨x.Node.Id,x.Node.Ji,x.Node.KL,⟨x.Node.Cap.Mem,x.Node.Cap.I_⟩,x.Node.KD,x.Node.J_,x.Node.Up⟩,⟨x.App.Id,x.App.Gp,x.App.Ja,x.App.User,x.App.J6,⟨x.App.Jb.Mem,x.App.Jb.I_⟩,x.App.Jy,x.App.KD,x.App.J_,x.App.Kj,x.App.KJ,x.App.Told,x.App.Lm⟩,x.Jy,x.Ids,⟨x.Jk.Id,x.Jk.Ji,x.Jk.From,x.Jk.Until,⟨x.Jk.Need.Mem,x.Jk.Need.I_⟩⟩⟩⟩:Step)).bind λx2=>
 bif x2.1.Err != 0 then
 (bj s []).bind λx3=>
 some (x3,x2.1)
 else
 (bj x2.2.s []).bind λx4=>
 some (x4,x2.1)
def h9:Hint:=.z
def sp9:Spec fam:=⟨[f9,.v (.st 14) []],[QJ,QN],λa=>ga a.1 a.2.1⟩
def zV(s:List Vec)(f:(Js fam [.st 0]→Option Bool))(t:Int):Option (Int ⊕ (Int ⊕ Unit)):=
 bif decide (t<(s.length:Int))then
 (idx s t).bind λx=>
 (f (x,())).bind λr=>
 bif r then
  some (.inr (.inl t))
 else
  some (.inl (Jd (t+1)))
 else
 some (.inr (.inr ()))
def ze(s:List Vec)(f:(Js fam [.st 0]→Option Bool)):Option Int:=
 (loop (zV s f) 0).bind λq0=>
 match q0 with
 | .inl q=>
 some q
 | .inr _=>
 some (-1)
def afv:Spec fam:=⟨[Qq,.fn [.st 0] .bool],[ge],λa=>ze a.1 a.2.1⟩
def tX(s:List Vec)(f:(Js fam [.st 0]→Option Bool)):Option Bool:=
 (ze s f).bind λx=>
 some (decide (x≥0))
def alJ:Spec fam:=⟨[Qq,.fn [.st 0] .bool],[gt],λa=>tX a.1 a.2.1⟩
def j_(v:Vec):Option Bool:=
 bif decide (v.Mem<0)then
 some true
 else
 bif decide (v.Mem>1125899906842624)then
  some true
 else
  bif decide (v.I_<0)then
  some true
  else
  some (decide (v.I_>1125899906842624))
def alI:Spec fam:=⟨[t7],[gt],λa=>j_ a.1⟩
def pQ(x3:App)(t4:List Vec×Int):Option ((List Vec×Int) ⊕ List Vec):=
 bif decide (t4.2<(x3.Jy.length:Int))then
 (idx x3.Jy t4.2).bind λx4=>
 (app 16 t4.1 [x4.Ku]).bind λl7=>
 some (.inl (l7,Jd (t4.2+1)))
 else
 some (.inr t4.1)
def qc(k:Look)(t3:List Vec×Int):Option ((List Vec×Int) ⊕ List Vec):=
 bif decide (t3.2<(k.s.I9.length:Int))then
 (idx k.s.I9 t3.2).bind λx3=>
 (app 16 t3.1 [x3.Jb]).bind λl6=>
 (loop (pQ x3) (l6,0)).bind λl8=>
 some (.inl (l8,Jd (t3.2+1)))
 else
 some (.inr t3.1)
def qo(k:Look)(t2:List Vec×Int):Option ((List Vec×Int) ⊕ List Vec):=
 bif decide (t2.2<(k.s.Jq.length:Int))then
 (idx k.s.Jq t2.2).bind λx2=>
 (app 16 t2.1 [x2.Need]).bind λl4=>
 some (.inl (l4,Jd (t2.2+1)))
 else
 some (.inr t2.1)
def pU(k:Look)(t1:List Vec×Int):Option ((List Vec×Int) ⊕ List Vec):=
 bif decide (t1.2<(k.s.I6.length:Int))then
 (idx k.s.I6 t1.2).bind λx1=>
 (app 16 t1.1 [x1.Ku]).bind λl2=>
 some (.inl (l2,Jd (t1.2+1)))
 else
 some (.inr t1.1)
def pR(k:Look)(t:List Vec×Int):Option ((List Vec×Int) ⊕ List Vec):=
 bif decide (t.2<(k.s.Jh.length:Int))then
 (idx k.s.Jh t.2).bind λx=>
 (app 16 t.1 [x.Cap]).bind λl=>
 some (.inl (l,Jd (t.2+1)))
 else
 some (.inr t.1)
def mC(k:Look):Option Bool:=
 (loop (pR k) ([],0)).bind λl1=>
 (loop (pU k) (l1,0)).bind λl3=>
 (loop (qo k) (l3,0)).bind λl5=>
 (loop (qc k) (l5,0)).bind λl9=>
 (tX l9 (λa'=>j_ a'.1)).bind λx5=>
 some (! x5)
def amk:Spec fam:=⟨[Qj],[gt],λa=>mC a.1⟩
def uq(n:Int)(Li:(Js fam [.int .i64]→Option Int))(i:Int):Option (Int ⊕ (Bool ⊕ Unit)):=
 bif decide (i<n)then
 (Li (Jd (i - 1),())).bind λr=>
 (Li (i,())).bind λr1=>
 bif decide (r≥r1)then
  some (.inr (.inl false))
 else
  some (.inl (Jd (i+1)))
 else
 some (.inr (.inr ()))
def eY(n:Int)(most:Int)(Li:(Js fam [.int .i64]→Option Int)):Option Bool:=
 (loop (uq n Li) 1).bind λq0=>
 match q0 with
 | .inl q=>
 some q
 | .inr _=>
 some (decide (n≤most))
def h63:Hint:=(JQ (.s (JQ ((JJ [(7,ge)] [6,7] [(1,[(6,gt)]),(2,[])] .z))) .z))
def alH:Spec fam:=⟨[ge,ge,.fn [.int .i64] (.int .i64)],[gt],λa=>eY a.1 a.2.1 a.2.2.1⟩
def jS(i:Int)(p:Gp):Option Int:=
 (idx p.Jh i).bind λx=>
 some x.Id
def alG:Spec fam:=⟨[ge,.rp (.st 10)],[ge],λa=>jS a.1 a.2.1⟩
def jK(i:Int)(p:Gp):Option Int:=
 (idx p.I9 i).bind λx=>
 some x.Id
def alF:Spec fam:=⟨[ge,.rp (.st 10)],[ge],λa=>jK a.1 a.2.1⟩
def jP(i:Int)(p:Gp):Option Int:=
 (idx p.I6 i).bind λx=>
 some x.Id
def alE:Spec fam:=⟨[ge,.rp (.st 10)],[ge],λa=>jP a.1 a.2.1⟩
def jQ(i:Int)(p:Gp):Option Int:=
 (idx p.Jr i).bind λx=>
 some x.Node
def alD:Spec fam:=⟨[ge,.rp (.st 10)],[ge],λa=>jQ a.1 a.2.1⟩
def jI(i:Int)(p:Gp):Option Int:=
 (idx p.Jq i).bind λx=>
 some x.Id
def alC:Spec fam:=⟨[ge,.rp (.st 10)],[ge],λa=>jI a.1 a.2.1⟩
def kV(k:Look):Option Bool:=
 (eY (k.s.Jh.length:Int) 12 (λa'=>jS a'.1 k.s)).bind λx=>
 bif x then
 (eY (k.s.I9.length:Int) 16 (λa'=>jK a'.1 k.s)).bind λx1=>
 bif x1 then
  (eY (k.s.I6.length:Int) 200 (λa'=>jP a'.1 k.s)).bind λx2=>
  bif x2 then
  (eY (k.s.Jr.length:Int) 12 (λa'=>jQ a'.1 k.s)).bind λx3=>
  bif x3 then
   (eY (k.s.Jq.length:Int) 12 (λa'=>jI a'.1 k.s)).bind λx4=>
   some x4
  else
   some false
  else
  some false
 else
  some false
 else
 some false
def amj:Spec fam:=⟨[Qj],[gt],λa=>kV a.1⟩
def rI(l:List Cont)(holds:(Js fam [.st 7]→Option Bool)):Option Bool:=(ko l (λx=>(holds x).bind λr=>some (!r))).bind λr=>some (!r)
def ami:Spec fam:=⟨[Qf,.fn [.st 7] .bool],[gt],λa=>rI a.1 a.2.1⟩
def mV(k:Look)(c:Cont):Option Bool:=
 (di k.s c.App).bind λx=>
 (ff k.s c.Node).bind λx1=>
 bif x.2 then
 (ci x.1).bind λx2=>
 bif x2 then
  bif x1.2 then
  bif x1.1.Up then
   bif x1.1.Ji == c.Ji then
   bif decide (c.Mf≥0)then
    some (decide (c.Mf≤(imax k.s.Now 1)))
   else
    some false
   else
   some false
  else
   some false
  else
  some false
 else
  some false
 else
 some false
def amh:Spec fam:=⟨[Qj,QI],[gt],λa=>mV a.1 a.2.1⟩
def rq(s:List Node)(f:(Js fam [.st 4]→Option Bool)):Option Bool:=
 (ju s f).bind λx=>
 some (decide (x≥0))
def alx:Spec fam:=⟨[Qi,.fn [.st 4] .bool],[gt],λa=>rq a.1 a.2.1⟩
def rE(l:List Node)(holds:(Js fam [.st 4]→Option Bool)):Option Bool:=(rq l (λx=>(holds x).bind λr=>some (!r))).bind λr=>some (!r)
def amg:Spec fam:=⟨[Qi,.fn [.st 4] .bool],[gt],λa=>rE a.1 a.2.1⟩
def qA(k:Look)(n:Node)(t:Vec×Int):Option ((Vec×Int) ⊕ (Bool ⊕ Vec)):=
 bif decide (t.2<(k.s.I6.length:Int))then
 (
  (idx k.s.I6 t.2).bind λx=>
  bif x.Node != n.Id then
  some (.inl (t.1))
  else
  (cy t.1 x.Ku).bind λx1=>
  bif x1.2 != 0 then
   some (.inr false)
  else
   some (.inl (x1.1)):Option (Vec ⊕ Bool)).bind λq0=>
 match q0 with
 | .inl sum=>
  some (.inl (sum,Jd (t.2+1)))
 | .inr q=>
  some (.inr (.inl q))
 else
 some (.inr (.inr (t.1)))
def mY(k:Look)(n:Node):Option Bool:=
 (loop (qA k n) ((⟨0,0⟩:Vec),0)).bind λq0=>
 match q0 with
 | .inl q1=>
 some q1
 | .inr ZN=>
 (eh ZN n.Cap).bind λx2=>
 some x2
def amf:Spec fam:=⟨[Qj,Qk],[gt],λa=>mY a.1 a.2.1⟩
def tM(s:List App)(f:(Js fam [.st 6]→Option Bool)):Option Bool:=
 (jg s f).bind λx=>
 some (decide (x≥0))
def alr:Spec fam:=⟨[Qa,.fn [.st 6] .bool],[gt],λa=>tM a.1 a.2.1⟩
def tG(l:List App)(holds:(Js fam [.st 6]→Option Bool)):Option Bool:=(tM l (λx=>(holds x).bind λr=>some (!r))).bind λr=>some (!r)
def ame:Spec fam:=⟨[Qa,.fn [.st 6] .bool],[gt],λa=>tG a.1 a.2.1⟩
def rf(k:Look)(a:App)(t:Int×Int×Int):Option ((Int×Int×Int) ⊕ ((Int×Int))):=
 bif decide (t.2.2<(k.s.I6.length:Int))then
 (
  (idx k.s.I6 t.2.2).bind λx=>
  (
  bif x.App == a.Id then
   some (Jd (t.2.1+1))
  else
   some t.2.1).bind λall=>
  (
  bif x.App == a.Id then
   some x.Jb
  else
   some false).bind λq=>
  bif q then
  some (Jd (t.1+1),all)
  else
  some (t.1,all)).bind λq1=>
 some (.inl (q1.1,q1.2,Jd (t.2.2+1)))
 else
 some (.inr (t.1,t.2.1))
def oy(k:Look)(a:App):Option Bool:=
 (loop (rf k a) (0,0,0)).bind λq2=>
 (
 bif a.Gp == 1 then
  bif decide (q2.2>0)then
  some (.inr false)
  else
  some (.inl ())
 else
  bif a.Gp == 2 then
  bif q2.1 != 1 then
   some (.inr false)
  else
   some (.inl ())
  else
  some (.inr true):Option (Unit ⊕ Bool)).bind λq0=>
 match q0 with
 | .inl _=>
 (jL k.s.Jc a.Ja).bind λx1=>
 some x1
 | .inr q3=>
 some q3
def amd:Spec fam:=⟨[Qj,QP],[gt],λa=>oy a.1 a.2.1⟩
def rS(l:List Slot)(holds:(Js fam [.st 8]→Option Bool)):Option Bool:=(kw l (λx=>(holds x).bind λr=>some (!r))).bind λr=>some (!r)
def amc:Spec fam:=⟨[Qg,.fn [.st 8] .bool],[gt],λa=>rS a.1 a.2.1⟩
def mX(k:Look)(x:Slot):Option Bool:=
 (ff k.s x.Node).bind λx1=>
 bif x1.2 then
 some x1.1.Up
 else
 some false
def amb:Spec fam:=⟨[Qj,Qr],[gt],λa=>mX a.1 a.2.1⟩
def ra(s:Gp):Option Bool:=
 (jX s.Jc).bind λx=>
 bif x == 0 then
 (mC (⟨⟨⟨s.Jc.Je,s.Jc.I8⟩,s.Jh,s.I9,s.I6,s.Jr,s.Jq,s.Now,s.Jz,s.Seq⟩⟩:Look)).bind λx1=>
 bif x1 then
  (kV (⟨⟨⟨s.Jc.Je,s.Jc.I8⟩,s.Jh,s.I9,s.I6,s.Jr,s.Jq,s.Now,s.Jz,s.Seq⟩⟩:Look)).bind λx2=>
  bif x2 then
  (rI s.I6 (λa'=>mV (⟨⟨⟨s.Jc.Je,s.Jc.I8⟩,s.Jh,s.I9,s.I6,s.Jr,s.Jq,s.Now,s.Jz,s.Seq⟩⟩:Look) a'.1)).bind λx3=>
  bif x3 then
   (rE s.Jh (λa'=>mY (⟨⟨⟨s.Jc.Je,s.Jc.I8⟩,s.Jh,s.I9,s.I6,s.Jr,s.Jq,s.Now,s.Jz,s.Seq⟩⟩:Look) a'.1)).bind λx4=>
   bif x4 then
   (tG s.I9 (λa'=>oy (⟨⟨⟨s.Jc.Je,s.Jc.I8⟩,s.Jh,s.I9,s.I6,s.Jr,s.Jq,s.Now,s.Jz,s.Seq⟩⟩:Look) a'.1)).bind λx5=>
   bif x5 then
    (rS s.Jr (λa'=>mX (⟨⟨⟨s.Jc.Je,s.Jc.I8⟩,s.Jh,s.I9,s.I6,s.Jr,s.Jq,s.Now,s.Jz,s.Seq⟩⟩:Look) a'.1)).bind λx6=>
    some x6
   else
    some false
   else
   some false
  else
   some false
  else
  some false
 else
  some false
 else
 some false
def amv:Spec fam:=⟨[f9],[gt],λa=>ra a.1⟩
def qC(t:Gp×Int):Option ((Gp×Int) ⊕ (Bool ⊕ Gp)):=
 bif decide (t.2<([(⟨2,0,0,0,[],⟨1,0,0,⟨1,1⟩,0,0,false⟩,⟨0,0,[],0,0,⟨0,0⟩,[],0,0,[],[],[],[]⟩,[],[],⟨0,0,0,0,⟨0,0⟩⟩⟩:Input),(⟨4,0,0,0,[],⟨0,0,0,⟨0,0⟩,0,0,false⟩,⟨2,0,([114,111,111,116]:List UInt8),0,0,⟨1,1⟩,[],0,0,[],[],[],[]⟩,[],[],⟨0,0,0,0,⟨0,0⟩⟩⟩:Input),(⟨3,1,1,0,[],⟨0,0,0,⟨0,0⟩,0,0,false⟩,⟨0,0,[],0,0,⟨0,0⟩,[],0,0,[],[],[],[]⟩,[],[],⟨0,0,0,0,⟨0,0⟩⟩⟩:Input)].length:Int))then
 (Kk t.2 [(⟨2,0,0,0,[],⟨1,0,0,⟨1,1⟩,0,0,false⟩,⟨0,0,[],0,0,⟨0,0⟩,[],0,0,[],[],[],[]⟩,[],[],⟨0,0,0,0,⟨0,0⟩⟩⟩:Input),(⟨4,0,0,0,[],⟨0,0,0,⟨0,0⟩,0,0,false⟩,⟨2,0,([114,111,111,116]:List UInt8),0,0,⟨1,1⟩,[],0,0,[],[],[],[]⟩,[],[],⟨0,0,0,0,⟨0,0⟩⟩⟩:Input),(⟨3,1,1,0,[],⟨0,0,0,⟨0,0⟩,0,0,false⟩,⟨0,0,[],0,0,⟨0,0⟩,[],0,0,[],[],[],[]⟩,[],[],⟨0,0,0,0,⟨0,0⟩⟩⟩:Input)].length).bind λi=>
 ([(⟨2,0,0,0,[],⟨1,0,0,⟨1,1⟩,0,0,false⟩,⟨0,0,[],0,0,⟨0,0⟩,[],0,0,[],[],[],[]⟩,[],[],⟨0,0,0,0,⟨0,0⟩⟩⟩:Input),(⟨4,0,0,0,[],⟨0,0,0,⟨0,0⟩,0,0,false⟩,⟨2,0,([114,111,111,116]:List UInt8),0,0,⟨1,1⟩,[],0,0,[],[],[],[]⟩,[],[],⟨0,0,0,0,⟨0,0⟩⟩⟩:Input),(⟨3,1,1,0,[],⟨0,0,0,⟨0,0⟩,0,0,false⟩,⟨0,0,[],0,0,⟨0,0⟩,[],0,0,[],[],[],[]⟩,[],[],⟨0,0,0,0,⟨0,0⟩⟩⟩:Input)][i]?).bind λx1=>
 (ga t.1 x1).bind λx2=>
 bif x2.2.Err != 0 then
  some (.inr (.inl false))
 else
  some (.inl (x2.1,Jd (t.2+1)))
 else
 some (.inr (.inr (t.1)))
def iU:Option Bool:=
 (lS).bind λx=>
 (loop qC (x,0)).bind λq0=>
 match q0 with
 | .inl q=>
 some q
 | .inr s=>
 bif(s.I6.length:Int) == 1 then
  (Kk 0 s.I6.length).bind λi1=>
  (s.I6[i1]?).bind λx3=>
  bif x3.Jb then
  (ra s).bind λx4=>
  some x4
  else
  some false
 else
  some false
def h5:Hint:=(JQ (.s .z (JQ (.s .z (.s (JQ ((JJ [(1,.box (.st 10) [0,2,4,5,6]),(4,ge)] [0,1,4,5,6] [(1,[(0,gt)]),(2,[(1,.box (.st 10) [0,2,4,5,6])])] .z))) .z)))))
noncomputable def sp5:Spec fam:=⟨[],[gt],λ_=>iU⟩
def eU(x:Script):Option Bool:=
 bif decide ((x.Ns.length:Int)≤30)then
 some (decide ((x.Vr.length:Int)≤80))
 else
 some false
def h6:Hint:=.z
def sp6:Spec fam:=⟨[.v (.st 12) []],[gt],λa=>eU a.1⟩
def am(at_:Int)(n:Int):Option Int:=
 (nz n).bind λ_=>
 (
 bif decide ((Int.tmod at_ n)<0)then
  let k:=Jd ((Int.tmod at_ n)+n)
  some k
 else
  some (Int.tmod at_ n)).bind λk1=>
 some k1
def amu:Spec fam:=⟨[ge,ge],[ge],λa=>am a.1 a.2.1⟩
def pN(Kn:List UInt8)(k1:Int):Option (Int ⊕ Int):=
 (
 bif decide (k1≥0)then
  (idx Kn k1).bind λch=>
  some ((ch.toNat:Int) != 46)
 else
  some false).bind λq=>
 bif q then
 some (.inl (Jd (k1 - 1)))
 else
 some (.inr k1)
def fu(Kn:List UInt8):Option (List UInt8):=
 let k:=Jd ((Kn.length:Int) - 1)
 (loop (pN Kn) k).bind λk2=>
 bif decide (k2<0)then
 some ([]:List UInt8)
 else
 (slc Kn 0 k2).bind λs=>
 some s
def aln:Spec fam:=⟨[f8],[f8],λa=>fu a.1⟩
def dP(c:Jc)(Kn:List UInt8)(t:List (List UInt8)×Int):Option ((List (List UInt8)×Int) ⊕ List (List UInt8)):=
 bif decide (t.2<(c.I8.length:Int))then
 (
  (
  bif ! (Kn == ([]:List UInt8))then
   (idx c.I8 t.2).bind λx=>
   (fu x.Kh).bind λx1=>
   some (x1 == Kn)
  else
   some false).bind λq=>
  bif q then
  (idx c.I8 t.2).bind λx2=>
  (app 16 t.1 [x2.Kh]).bind λl=>
  some l
  else
  some t.1).bind λl1=>
 some (.inl (l1,Jd (t.2+1)))
 else
 some (.inr t.1)
def dG(c:Jc)(Kn:List UInt8):Option (List (List UInt8)):=
 (loop (dP c Kn) ([],0)).bind λl2=>
 some l2
def h36:Hint:=(JQ (.s .z (.s (JQ ((JJ [(5,t6),(6,ge)] [5,6,26] [(2,[(5,t6)])] (JQ (.s (.j [5,26] [(0,[(5,t6)])] (.b JD)) .z))))) .z)))
def al8:Spec fam:=⟨[Q5,f8],[t6],λa=>dG a.1 a.2.1⟩
def gu(c:Jc)(Kn:List UInt8)(t:Ja×Int):Option ((Ja×Int) ⊕ ((Ja×Bool) ⊕ Ja)):=
 bif decide (t.2<(c.I8.length:Int))then
 (idx c.I8 t.2).bind λx=>
 bif x.Kh == Kn then
  (idx c.I8 t.2).bind λx1=>
  (app 16 [] x1.KZ).bind λl=>
  some (.inr (.inl ((⟨x1.Kh,l,x1.User⟩:Ja),true)))
 else
  some (.inl (t.1,Jd (t.2+1)))
 else
 some (.inr (.inr (t.1)))
def iW(c:Jc)(Kn:List UInt8):Option (Ja×Bool):=
 (loop (gu c Kn) ((⟨[],[],0⟩:Ja),0)).bind λq0=>
 match q0 with
 | .inl q=>
 some (q.1,q.2)
 | .inr q1=>
 some ((⟨[],[],0⟩:Ja),false)
def alo:Spec fam:=⟨[Q5,f8],[.v (.st 2) [1],gt],λa=>iW a.1 a.2.1⟩
def fW(c:Jc)(Kn:List UInt8):Option Bool:=
 (iW c Kn).bind λx=>
 bif x.2 then
 (dG c Kn).bind λx1=>
 some ((x1.length:Int) == 0)
 else
 some false
def ama:Spec fam:=⟨[Q5,f8],[gt],λa=>fW a.1 a.2.1⟩
def cW(c:Jc)(t:List (List UInt8)×Int):Option ((List (List UInt8)×Int) ⊕ List (List UInt8)):=
 bif decide (t.2<(c.I8.length:Int))then
 (
  (idx c.I8 t.2).bind λx=>
  (fW c x.Kh).bind λx1=>
  bif x1 then
  (idx c.I8 t.2).bind λx2=>
  (app 16 t.1 [x2.Kh]).bind λl=>
  some l
  else
  some t.1).bind λl1=>
 some (.inl (l1,Jd (t.2+1)))
 else
 some (.inr t.1)
def eI(c:Jc):Option (List (List UInt8)):=
 (loop (cW c) ([],0)).bind λl2=>
 some l2
def amt:Spec fam:=⟨[Q5],[t6],λa=>eI a.1⟩
def dK(n:Int):Option Vec:=
 (am n 5).bind λx=>
 (Kk x [(⟨1,1⟩:Vec),(⟨2,1⟩:Vec),(⟨4,4⟩:Vec),(⟨3,2⟩:Vec),(⟨1,3⟩:Vec)].length).bind λi=>
 ([(⟨1,1⟩:Vec),(⟨2,1⟩:Vec),(⟨4,4⟩:Vec),(⟨3,2⟩:Vec),(⟨1,3⟩:Vec)][i]?).bind λx1=>
 some x1
def h16:Hint:=.z
def ams:Spec fam:=⟨[ge],[t7],λa=>dK a.1⟩
def ca(a:Act)(s:Gp)(x1:App)(t:Input×Int):Option ((Input×Int) ⊕ Input):=
 bif decide (t.2<(s.I6.length:Int))then
 (
  (
  (idx s.I6 t.2).bind λNg=>
  bif Ng.App == x1.Id then
   (am (Jd (a.D+t.2)) 11).bind λOA=>
   some (OA == 10)
  else
   some false).bind λq=>
  bif q then
  (idx s.I6 t.2).bind λPw=>
  (app 8 t.1.Ids [Pw.Id]).bind λl=>
  some (⟨t.1.Kind,t.1.Id,t.1.J_,t.1.N,t.1.Text,⟨t.1.Node.Id,t.1.Node.Ji,t.1.Node.KL,⟨t.1.Node.Cap.Mem,t.1.Node.Cap.I_⟩,t.1.Node.KD,t.1.Node.J_,t.1.Node.Up⟩,⟨t.1.App.Id,t.1.App.Gp,t.1.App.Ja,t.1.App.User,t.1.App.J6,⟨t.1.App.Jb.Mem,t.1.App.Jb.I_⟩,t.1.App.Jy,t.1.App.KD,t.1.App.J_,t.1.App.Kj,t.1.App.KJ,t.1.App.Told,t.1.App.Lm⟩,t.1.Jy,l,⟨t.1.Jk.Id,t.1.Jk.Ji,t.1.Jk.From,t.1.Jk.Until,⟨t.1.Jk.Need.Mem,t.1.Jk.Need.I_⟩⟩⟩:Input)
  else
  some t.1).bind λN7=>
 some (.inl (N7,Jd (t.2+1)))
 else
 some (.inr t.1)
def cM(a:Act)(s:Gp):Option Input:=
 bif(s.I9.length:Int) == 0 then
 some (⟨5,0,0,0,[],⟨0,0,0,⟨0,0⟩,0,0,false⟩,⟨0,0,[],0,0,⟨0,0⟩,[],0,0,[],[],[],[]⟩,[],[],⟨0,0,0,0,⟨0,0⟩⟩⟩:Input)
 else
 (am a.A (s.I9.length:Int)).bind λx=>
 (idx s.I9 x).bind λx1=>
 (am a.B 8).bind λx2=>
 (
  bif decide ((Int.tmod a.C 3)>0)then
  (am a.B 5).bind λx3=>
  (am a.C (s.Jc.Je.length:Int)).bind λx4=>
  (dK a.D).bind λx5=>
  (am a.D 7).bind λx6=>
  (
   bif(Int.tmod a.D 4) == 1 then
   (am a.C 3).bind λx7=>
   some (⟨x3,x4,⟨x5.Mem,x5.I_⟩,x6,(-1),x7,0⟩:Ask)
   else
   some (⟨x3,x4,⟨x5.Mem,x5.I_⟩,x6,(-1),(-1),0⟩:Ask)).bind λk=>
  (
   bif(Int.tmod a.D 4) == 2 then
   (am a.C 3).bind λx8=>
   (am a.B 6).bind λx9=>
   some (⟨k.J6,k.Ji,⟨k.Ku.Mem,k.Ku.I_⟩,k.Ky,x9,x8,k.Nn⟩:Ask)
   else
   some k).bind λk1=>
  some (⟨5,x1.Id,Jd ((Jd (x1.J_+1)) - (Jd (Int.tdiv x2 6))),0,[],⟨0,0,0,⟨0,0⟩,0,0,false⟩,⟨0,0,[],0,0,⟨0,0⟩,[],0,0,[],[],[],[]⟩,[k1],[],⟨0,0,0,0,⟨0,0⟩⟩⟩:Input)
  else
  some (⟨5,x1.Id,Jd ((Jd (x1.J_+1)) - (Jd (Int.tdiv x2 6))),0,[],⟨0,0,0,⟨0,0⟩,0,0,false⟩,⟨0,0,[],0,0,⟨0,0⟩,[],0,0,[],[],[],[]⟩,[],[],⟨0,0,0,0,⟨0,0⟩⟩⟩:Input)).bind λx10=>
 (loop (ca a s x1) (x10,0)).bind λRP=>
 some RP
def amr:Spec fam:=⟨[.v (.st 11) [],f9],[Qp],λa=>cM a.1 a.2.1⟩
def b_(self:Int→Option (List UInt8))(n:Int):Option (List UInt8):=
 bif decide (n<0)then
 bif n == (-9223372036854775808)then
  some ([45,57,50,50,51,51,55,50,48,51,54,56,53,52,55,55,53,56,48,56]:List UInt8)
 else
  (self (Jd (0 - n))).bind λx=>
  (cat ([45]:List UInt8) x).bind λs=>
  some s
 else
 bif decide (n≥10)then
  (self (Jd (Int.tdiv n 10))).bind λx1=>
  (self (Int.tmod n 10)).bind λx2=>
  (cat x1 x2).bind λs1=>
  some s1
 else
  some (List.map toB [IntKind.u8.wrap (Jd (48+n))])
def bw:Nat→Int→Option (List UInt8)
 | 0=>λ_=>none
 | n+1=>b_ (bw n)
def cI(a0:Int):Option (List UInt8):=bw 64 a0
def h34:Hint:=.z
def al_:Spec fam:=⟨[ge],[f8],λa=>cI a.1⟩
def IN(n:Nat):Spec fam:=⟨[.v (.int .i64) []],[.v .str []],λa=>bw n a.1⟩
def dR(x1:Ja)(t2:List UInt8×Int):Option ((List UInt8×Int) ⊕ List UInt8):=
 bif decide (t2.2<(x1.KZ.length:Int))then
 (cat t2.1 ([32]:List UInt8)).bind λs7=>
 (idx x1.KZ t2.2).bind λx3=>
 (cI x3.LB).bind λx4=>
 (cat s7 x4).bind λs8=>
 (cat s8 ([47]:List UInt8)).bind λs9=>
 (idx x1.KZ t2.2).bind λx5=>
 (cI x5.Most).bind λx6=>
 (cat s9 x6).bind λs10=>
 some (.inl (s10,Jd (t2.2+1)))
 else
 some (.inr t2.1)
def dS(c:Jc)(t1:List UInt8×Int):Option ((List UInt8×Int) ⊕ List UInt8):=
 bif decide (t1.2<(c.I8.length:Int))then
 (idx c.I8 t1.2).bind λx1=>
 (cat t1.1 ([113,117,101,117,101,32]:List UInt8)).bind λs3=>
 (cat s3 x1.Kh).bind λs4=>
 (cat s4 ([32]:List UInt8)).bind λs5=>
 (cI x1.User).bind λx2=>
 (cat s5 x2).bind λs6=>
 (loop (dR x1) (s6,0)).bind λLQ=>
 (cat LQ ([10]:List UInt8)).bind λs11=>
 some (.inl (s11,Jd (t1.2+1)))
 else
 some (.inr t1.1)
def kK(c:Jc)(t:List UInt8×Int):Option ((List UInt8×Int) ⊕ List UInt8):=
 bif decide (t.2<(c.Je.length:Int))then
 (cat t.1 ([32]:List UInt8)).bind λs=>
 (idx c.Je t.2).bind λx=>
 (cat s x).bind λs1=>
 some (.inl (s1,Jd (t.2+1)))
 else
 some (.inr t.1)
def fO(c:Jc):Option (List UInt8):=
 (loop (kK c) (([108,97,98,101,108,115]:List UInt8),1)).bind λout=>
 (cat out ([10]:List UInt8)).bind λs2=>
 (loop (dS c) (s2,0)).bind λVf=>
 some Vf
def amq:Spec fam:=⟨[Q5],[f8],λa=>fO a.1⟩
def aU(at_:Int)(n:Int):Option Int:=
 (nz n).bind λ_=>
 (
 bif decide ((Int.tmod at_ n)<0)then
  let k:=Jd ((Int.tmod at_ n)+n)
  some k
 else
  some (Int.tmod at_ n)).bind λk1=>
 some k1
def al9:Spec fam:=⟨[ge,ge],[ge],λa=>aU a.1 a.2.1⟩
def bV(ns:List Int)(i:Int):Option Int:=
 bif(ns.length:Int) == 0 then
 some i
 else
 (nz (ns.length:Int)).bind λ_=>
 (idx ns (Int.tmod i (ns.length:Int))).bind λx=>
 some x
def al7:Spec fam:=⟨[QQ,ge],[ge],λa=>bV a.1 a.2.1⟩
def cq(kids:List (List UInt8))(t3:Jc×Int)(t4:Jc×Int×Int)(n:Int)(UK:Int)(t5:Jc×Int):Option ((Jc×Int) ⊕ Jc):=
 bif decide (t5.2<(t5.1.I8.length:Int))then
 (
  (Kk t5.2 t5.1.I8.length).bind λi3=>
  (t5.1.I8[i3]?).bind λx18=>
  (Kk t4.2.2 kids.length).bind λi4=>
  (kids[i4]?).bind λx19=>
  bif x18.Kh == x19 then
  (Kk t5.2 t5.1.I8.length).bind λi5=>
  (t5.1.I8[i5]?).bind λx20=>
  (t5.1.I8[i5]?).bind λx21=>
  (Kk t3.2 x21.KZ.length).bind λi6=>
  (t5.1.I8[i5]?).bind λx22=>
  (x22.KZ[i6]?).bind λy=>
  some (⟨t5.1.Je,List.set t5.1.I8 i5 (⟨x22.Kh,List.set x22.KZ i6 (⟨n,UK⟩:Cap),x22.User⟩:Ja)⟩:Jc)
  else
  some t5.1).bind λc1=>
 some (.inl (c1,Jd (t5.2+1)))
 else
 some (.inr t5.1)
def cx(ns:List Int)(t2:Jc×Int)(kids:List (List UInt8))(t3:Jc×Int)(t4:Jc×Int×Int):Option ((Jc×Int×Int) ⊕ Jc):=
 bif decide (t4.2.2<(kids.length:Int))then
 (
  bif decide (t4.2.2<(Jd ((kids.length:Int) - 1)))then
  (bV ns (Jd ((Jd (t2.2+t4.2.2))+t3.2))).bind λx8=>
  (aU x8 (Jd (t4.2.1+1))).bind λx9=>
  (bV ns (Jd ((Jd (t2.2*t4.2.2))+t3.2))).bind λx10=>
  (aU x10 4).bind λNg=>
  (Kk Ng [0,Jd (Int.tdiv t4.2.1 2),t4.2.1,x9].length).bind λi1=>
  ([0,Jd (Int.tdiv t4.2.1 2),t4.2.1,x9][i1]?).bind λOA=>
  some OA
  else
  some t4.2.1).bind λn=>
 (bV ns (Jd (t4.2.2+t3.2))).bind λPw=>
 (aU Pw (Jd ((Jd (10000 - n))+1))).bind λN7=>
 (bV ns (Jd (t2.2+(Jd (2*t4.2.2))))).bind λRP=>
 (aU RP 3).bind λUY=>
 (Kk UY [10000,n,Jd (n+N7)].length).bind λi2=>
 ([10000,n,Jd (n+N7)][i2]?).bind λUK=>
 (loop (cq kids t3 t4 n UK) (t4.1,0)).bind λc2=>
 some (.inl (c2,Jd (t4.2.1 - n),Jd (t4.2.2+1)))
 else
 some (.inr t4.1)
def dO(ns:List Int)(t2:Jc×Int)(kids:List (List UInt8))(t3:Jc×Int):Option ((Jc×Int) ⊕ Jc):=
 bif decide (t3.2<(t3.1.Je.length:Int))then
 (loop (cx ns t2 kids t3) (t3.1,10000,0)).bind λc3=>
 some (.inl (c3,Jd (t3.2+1)))
 else
 some (.inr t3.1)
def cF(ns:List Int)(x2:List (List UInt8))(t2:Jc×Int):Option ((Jc×Int) ⊕ Jc):=
 bif decide (t2.2<(x2.length:Int))then
 (idx x2 t2.2).bind λx7=>
 (dG t2.1 x7).bind λkids=>
 (loop (dO ns t2 kids) (t2.1,0)).bind λc4=>
 some (.inl (c4,Jd (t2.2+1)))
 else
 some (.inr t2.1)
def d6(t:Jc×Int)(t1:Ja×Int):Option ((Ja×Int) ⊕ Ja):=
 bif decide (t1.2<(t.1.Je.length:Int))then
 (app 16 t1.1.KZ [(⟨10000,10000⟩:Cap)]).bind λl=>
 some (.inl ((⟨t1.1.Kh,l,t1.1.User⟩:Ja),Jd (t1.2+1)))
 else
 some (.inr t1.1)
def cz(ns:List Int)(x2:List (List UInt8))(t:Jc×Int):Option ((Jc×Int) ⊕ Jc):=
 bif decide (t.2<(x2.length:Int))then
 (idx x2 t.2).bind λx3=>
 (
  (
  bif decide (t.2<(ns.length:Int))then
   (idx ns t.2).bind λx4=>
   some ((Int.tmod x4 3) == 0)
  else
   some false).bind λq=>
  bif q then
  (idx ns t.2).bind λx5=>
  (aU x5 20000).bind λx6=>
  some (⟨x3,[],Jd (1+x6)⟩:Ja)
  else
  some (⟨x3,[],1000000⟩:Ja)).bind λq1=>
 (loop (d6 t) (q1,0)).bind λq2=>
 (app 48 t.1.I8 [q2]).bind λl1=>
 some (.inl ((⟨t.1.Je,l1⟩:Jc),Jd (t.2+1)))
 else
 some (.inr t.1)
def fT(shape:Int)(ns:List Int):Option Jc:=
 (aU (Jd (Int.tdiv shape 5)) 2).bind λx=>
 (Ms 0 (Jd (1+x)) [([]:List UInt8),([103,112,117]:List UInt8)].length).bind λp=>
 (aU shape 5).bind λx1=>
 (Kk x1 [[([114,111,111,116]:List UInt8)],[([114,111,111,116]:List UInt8),([114,111,111,116,46,97]:List UInt8),([114,111,111,116,46,98]:List UInt8)],[([114,111,111,116]:List UInt8),([114,111,111,116,46,97]:List UInt8),([114,111,111,116,46,97,46,120]:List UInt8),([114,111,111,116,46,97,46,121]:List UInt8),([114,111,111,116,46,98]:List UInt8)],[([114,111,111,116]:List UInt8),([114,111,111,116,46,97]:List UInt8),([114,111,111,116,46,98]:List UInt8),([114,111,111,116,46,98,46,120]:List UInt8),([114,111,111,116,46,98,46,120,46,112]:List UInt8),([114,111,111,116,46,98,46,120,46,113]:List UInt8),([114,111,111,116,46,99]:List UInt8)],[([114,111,111,116]:List UInt8),([114,111,111,116,46,97]:List UInt8)]].length).bind λi=>
 ([[([114,111,111,116]:List UInt8)],[([114,111,111,116]:List UInt8),([114,111,111,116,46,97]:List UInt8),([114,111,111,116,46,98]:List UInt8)],[([114,111,111,116]:List UInt8),([114,111,111,116,46,97]:List UInt8),([114,111,111,116,46,97,46,120]:List UInt8),([114,111,111,116,46,97,46,121]:List UInt8),([114,111,111,116,46,98]:List UInt8)],[([114,111,111,116]:List UInt8),([114,111,111,116,46,97]:List UInt8),([114,111,111,116,46,98]:List UInt8),([114,111,111,116,46,98,46,120]:List UInt8),([114,111,111,116,46,98,46,120,46,112]:List UInt8),([114,111,111,116,46,98,46,120,46,113]:List UInt8),([114,111,111,116,46,99]:List UInt8)],[([114,111,111,116]:List UInt8),([114,111,111,116,46,97]:List UInt8)]][i]?).bind λx2=>
 (loop (cz ns x2) ((⟨sub [([]:List UInt8),([103,112,117]:List UInt8)] p.1 p.2,[]⟩:Jc),0)).bind λc=>
 (loop (cF ns x2) (c,0)).bind λc5=>
 some c5
def amo:Spec fam:=⟨[ge,QQ],[.v (.st 3) [1001]],λa=>fT a.1 a.2.1⟩
def co(a:Act)(s:Gp)(Li:Int)(t1:Input×Int):Option ((Input×Int) ⊕ Input):=
 bif decide (t1.2<(s.I6.length:Int))then
 (
  (
  (idx s.I6 t1.2).bind λNg=>
  bif Ng.Node == Li then
   (am (Jd (a.C+t1.2)) 9).bind λOA=>
   some (OA == 8)
  else
   some false).bind λq2=>
  bif q2 then
  (idx s.I6 t1.2).bind λPw=>
  (app 8 t1.1.Ids [Pw.Id]).bind λl=>
  some (⟨t1.1.Kind,t1.1.Id,t1.1.J_,t1.1.N,t1.1.Text,⟨t1.1.Node.Id,t1.1.Node.Ji,t1.1.Node.KL,⟨t1.1.Node.Cap.Mem,t1.1.Node.Cap.I_⟩,t1.1.Node.KD,t1.1.Node.J_,t1.1.Node.Up⟩,⟨t1.1.App.Id,t1.1.App.Gp,t1.1.App.Ja,t1.1.App.User,t1.1.App.J6,⟨t1.1.App.Jb.Mem,t1.1.App.Jb.I_⟩,t1.1.App.Jy,t1.1.App.KD,t1.1.App.J_,t1.1.App.Kj,t1.1.App.KJ,t1.1.App.Told,t1.1.App.Lm⟩,t1.1.Jy,l,⟨t1.1.Jk.Id,t1.1.Jk.Ji,t1.1.Jk.From,t1.1.Jk.Until,⟨t1.1.Jk.Need.Mem,t1.1.Jk.Need.I_⟩⟩⟩:Input)
  else
  some t1.1).bind λN7=>
 some (.inl (N7,Jd (t1.2+1)))
 else
 some (.inr t1.1)
def ck(a:Act)(s:Gp)(Li:Int)(t:Input×Int):Option ((Input×Int) ⊕ Input):=
 bif decide (t.2<(s.Jh.length:Int))then
 (
  (idx s.Jh t.2).bind λx6=>
  bif x6.Id == Li then
  (idx s.Jh t.2).bind λx7=>
  (am a.B 8).bind λx8=>
  some (⟨t.1.Kind,t.1.Id,Jd ((Jd (x7.J_+1)) - (Jd (Int.tdiv x8 6))),t.1.N,t.1.Text,⟨t.1.Node.Id,t.1.Node.Ji,t.1.Node.KL,⟨t.1.Node.Cap.Mem,t.1.Node.Cap.I_⟩,t.1.Node.KD,t.1.Node.J_,t.1.Node.Up⟩,⟨t.1.App.Id,t.1.App.Gp,t.1.App.Ja,t.1.App.User,t.1.App.J6,⟨t.1.App.Jb.Mem,t.1.App.Jb.I_⟩,t.1.App.Jy,t.1.App.KD,t.1.App.J_,t.1.App.Kj,t.1.App.KJ,t.1.App.Told,t.1.App.Lm⟩,t.1.Jy,t.1.Ids,⟨t.1.Jk.Id,t.1.Jk.Ji,t.1.Jk.From,t.1.Jk.Until,⟨t.1.Jk.Need.Mem,t.1.Jk.Need.I_⟩⟩⟩:Input)
  else
  some t.1).bind λx9=>
 some (.inl (x9,Jd (t.2+1)))
 else
 some (.inr t.1)
def cY(a:Act)(s:Gp):Option Input:=
 (am a.A 6).bind λLi=>
 (eI s.Jc).bind λleaves=>
 (am a.B 4).bind λx=>
 (
 (am a.Kind 16).bind λx1=>
 (
  bif x1 == 0 then
  some (x1 == 0)
  else
  some (x1 == 1)).bind λq=>
 bif q then
  (am a.B (s.Jc.Je.length:Int)).bind λx2=>
  (am a.C 3).bind λx3=>
  (am a.D 12).bind λx4=>
  (am a.D 8).bind λx5=>
  some (⟨2,Li,0,Jd (1+x),[],⟨Li,x2,x3,⟨Jd (4+x4),Jd (4+x5)⟩,0,0,false⟩,⟨0,0,[],0,0,⟨0,0⟩,[],0,0,[],[],[],[]⟩,[],[],⟨0,0,0,0,⟨0,0⟩⟩⟩:Input)
 else
  (
  bif x1 == 2 then
   some (x1 == 2)
  else
   bif x1 == 3 then
   some (x1 == 3)
   else
   bif x1 == 4 then
    some (x1 == 4)
   else
    some (x1 == 5)).bind λq1=>
  bif q1 then
  (loop (ck a s Li) ((⟨3,Li,0,Jd (1+x),[],⟨0,0,0,⟨0,0⟩,0,0,false⟩,⟨0,0,[],0,0,⟨0,0⟩,[],0,0,[],[],[],[]⟩,[],[],⟨0,0,0,0,⟨0,0⟩⟩⟩:Input),0)).bind λx10=>
  (loop (co a s Li) (x10,0)).bind λRP=>
  some RP
  else
  (
   bif x1 == 6 then
   some (x1 == 6)
   else
   some (x1 == 7)).bind λq3=>
  bif q3 then
   (am a.A 20).bind λUY=>
   (am a.B (leaves.length:Int)).bind λUK=>
   (Kk UK leaves.length).bind λi=>
   (leaves[i]?).bind λx18=>
   (am a.C 3).bind λx19=>
   (am a.D 3).bind λx20=>
   (dK (Jd (Int.tdiv a.D 3))).bind λx21=>
   some (⟨4,Li,0,Jd (1+x),[],⟨0,0,0,⟨0,0⟩,0,0,false⟩,⟨UY,0,x18,x19,x20,⟨x21.Mem,x21.I_⟩,[],0,0,[],[],[],[]⟩,[],[],⟨0,0,0,0,⟨0,0⟩⟩⟩:Input)
  else
   (
   bif x1 == 8 then
    some (x1 == 8)
   else
    bif x1 == 9 then
    some (x1 == 9)
    else
    some (x1 == 10)).bind λq4=>
   bif q4 then
   (cM a s).bind λx22=>
   some x22
   else
   bif x1 == 11 then
    (am a.B 2).bind λx23=>
    (Kk x23 [6,7].length).bind λi1=>
    ([6,7][i1]?).bind λx24=>
    (am a.A 20).bind λx25=>
    some (⟨x24,x25,0,Jd (1+x),[],⟨0,0,0,⟨0,0⟩,0,0,false⟩,⟨0,0,[],0,0,⟨0,0⟩,[],0,0,[],[],[],[]⟩,[],[],⟨0,0,0,0,⟨0,0⟩⟩⟩:Input)
   else
    (
    bif x1 == 12 then
     some (x1 == 12)
    else
     some (x1 == 13)).bind λq5=>
    bif q5 then
    (am a.A 5).bind λx26=>
    some (⟨8,Li,0,Jd (1+x26),[],⟨0,0,0,⟨0,0⟩,0,0,false⟩,⟨0,0,[],0,0,⟨0,0⟩,[],0,0,[],[],[],[]⟩,[],[],⟨0,0,0,0,⟨0,0⟩⟩⟩:Input)
    else
    bif x1 == 14 then
     (am a.D 3).bind λx27=>
     (Kk x27 [9,9,10].length).bind λi2=>
     ([9,9,10][i2]?).bind λx28=>
     (am a.B (s.Jc.Je.length:Int)).bind λx29=>
     (am a.C 5).bind λx30=>
     (dK a.D).bind λx31=>
     (am a.C 12).bind λx32=>
     some (⟨x28,Li,0,Jd (1+x32),[],⟨0,0,0,⟨0,0⟩,0,0,false⟩,⟨0,0,[],0,0,⟨0,0⟩,[],0,0,[],[],[],[]⟩,[],[],⟨Li,x29,Jd (s.Now+x30),Jd (s.Now+20),⟨x31.Mem,x31.I_⟩⟩⟩:Input)
    else
     bif x1 == 15 then
     (am a.A 3).bind λx33=>
     (Kk x33 [11,1,1].length).bind λi3=>
     ([11,1,1][i3]?).bind λx34=>
     (fT a.B [a.C,a.D]).bind λx35=>
     (fO x35).bind λx36=>
     some (⟨x34,Li,0,Jd (1+x),x36,⟨0,0,0,⟨0,0⟩,0,0,false⟩,⟨0,0,[],0,0,⟨0,0⟩,[],0,0,[],[],[],[]⟩,[],[],⟨0,0,0,0,⟨0,0⟩⟩⟩:Input)
     else
     some (⟨0,Li,0,Jd (1+x),[],⟨0,0,0,⟨0,0⟩,0,0,false⟩,⟨0,0,[],0,0,⟨0,0⟩,[],0,0,[],[],[],[]⟩,[],[],⟨0,0,0,0,⟨0,0⟩⟩⟩:Input)).bind λx37=>
 some x37
def h8:Hint:=(JQ (.s .z (JQ (.s .z (.s (.j [8,9,10,27,28,29,30,53,109,121,148,168] [(0,[(8,QX)])] (JQ (.b (.s (.j [] [(0,[(30,gt)])] .z) (.c .z (.s (.j [] [(0,[(53,gt)])] .z) (.c (JQ (.s (JQ ((JJ [(8,QX),(9,ge)] [8,9] [(3,[(8,QX)])] (JQ (.s (.j [8] [(0,[(8,QX)])] .z) .z))))) (JQ ((JJ [(8,QX),(10,ge)] [8,10,109] [(5,[(8,QX)])] (JQ (.s (.j [8,109] [(0,[(8,QX)])] (.b (.s (.j [] [(0,[(109,gt)])] .z) .z))) .z))))))) (.s (.j [] [(0,[(121,gt)])] .z) (.c .z (.s (.j [] [(0,[(148,gt)])] .z) (.c .z (JQ (.c .z (.s (.j [] [(0,[(168,gt)])] .z) .z)))))))))))))) .z)))))
def sp8:Spec fam:=⟨[.v (.st 11) [],f9],[Qp],λa=>cY a.1 a.2.1⟩
def gc(s:Gp)(Li:Int)(t:Cont×Int):Option ((Cont×Int) ⊕ ((Cont×Bool) ⊕ Cont)):=
 bif decide (t.2<(s.I6.length:Int))then
 (idx s.I6 t.2).bind λx=>
 bif x.Id == Li then
  (idx s.I6 t.2).bind λx1=>
  some (.inr (.inl (x1,true)))
 else
  some (.inl (t.1,Jd (t.2+1)))
 else
 some (.inr (.inr (t.1)))
def ft(s:Gp)(Li:Int):Option (Cont×Bool):=
 (loop (gc s Li) ((⟨0,0,0,⟨0,0⟩,0,0,false,0⟩:Cont),0)).bind λq0=>
 match q0 with
 | .inl q=>
 some (q.1,q.2)
 | .inr q1=>
 some ((⟨0,0,0,⟨0,0⟩,0,0,false,0⟩:Cont),false)
def h10:Hint:=(JQ (.s (JQ ((JJ [(4,QD),(6,ge)] [4,5,6] [(1,[(4,QD),(5,gt)]),(2,[(4,QD)])] .z))) .z))
def amy:Spec fam:=⟨[f9,ge],[QI,gt],λa=>ft a.1 a.2.1⟩
def gf(s:Gp)(Li:Int)(t:App×Int):Option ((App×Int) ⊕ ((App×Bool) ⊕ App)):=
 bif decide (t.2<(s.I9.length:Int))then
 (idx s.I9 t.2).bind λx=>
 bif x.Id == Li then
  (idx s.I9 t.2).bind λx1=>
  some (.inr (.inl (x1,true)))
 else
  some (.inl (t.1,Jd (t.2+1)))
 else
 some (.inr (.inr (t.1)))
def fk(s:Gp)(Li:Int):Option (App×Bool):=
 (loop (gf s Li) ((⟨0,0,[],0,0,⟨0,0⟩,[],0,0,[],[],[],[]⟩:App),0)).bind λq0=>
 match q0 with
 | .inl q=>
 some (q.1,q.2)
 | .inr q1=>
 some ((⟨0,0,[],0,0,⟨0,0⟩,[],0,0,[],[],[],[]⟩:App),false)
def h11:Hint:=(JQ (.s (JQ ((JJ [(4,QZ),(6,ge)] [4,5,6] [(1,[(4,.box (.st 6) []),(5,gt)]),(2,[(4,QZ)])] .z))) .z))
def amx:Spec fam:=⟨[f9,ge],[QP,gt],λa=>fk a.1 a.2.1⟩
def dZ(t:Gp)(Om:Int)(t2:Int×Int):Option ((Int×Int) ⊕ Int):=
 bif decide (t2.2<(t.I6.length:Int))then
 (
  (
  (idx t.I6 t2.2).bind λx5=>
  bif x5.App == Om then
   (idx t.I6 t2.2).bind λx6=>
   some x6.Jb
  else
   some false).bind λq1=>
  bif q1 then
  (idx t.I6 t2.2).bind λx7=>
  some x7.Id
  else
  some t2.1).bind λy=>
 some (.inl (y,Jd (t2.2+1)))
 else
 some (.inr t2.1)
def d9(s:Gp)(Om:Int)(t1:Int×Int):Option ((Int×Int) ⊕ Int):=
 bif decide (t1.2<(s.I6.length:Int))then
 (
  (
  (idx s.I6 t1.2).bind λx=>
  bif x.App == Om then
   (idx s.I6 t1.2).bind λx1=>
   some x1.Jb
  else
   some false).bind λq=>
  bif q then
  (idx s.I6 t1.2).bind λx2=>
  some x2.Id
  else
  some t1.1).bind λx3=>
 some (.inl (x3,Jd (t1.2+1)))
 else
 some (.inr t1.1)
def fU(s:Gp)(t:Gp)(Om:Int):Option Bool:=
 (loop (d9 s Om) (0,0)).bind λx4=>
 (loop (dZ t Om) (0,0)).bind λy1=>
 some (x4 != y1)
def h12:Hint:=(JQ (.s .z (.s (JQ ((JJ [(7,ge),(9,ge)] [7,9,33] [(2,[(7,ge)])] (JQ (.s (.j [7,33] [(0,[(7,ge)])] (.b JZ)) .z))))) (.s (JQ ((JJ [(8,ge),(10,ge)] [8,10,62] [(4,[(8,ge)])] (JQ (.s (.j [8,62] [(0,[(8,ge)])] (.b (.s (.j [] [(0,[(62,gt)])] .z) .z))) .z))))) .z))))
def amw:Spec fam:=⟨[f9,f9,ge],[gt],λa=>fU a.1 a.2.1 a.2.2.1⟩
def bL(x8:App×Bool)(t4:Int×Int):Option ((Int×Int) ⊕ Int):=
 bif decide (t4.2<(x8.1.Jy.length:Int))then
 (idx x8.1.Jy t4.2).bind λN7=>
 let aiS:=Jd (t4.1 - N7.Ky)
 some (.inl (aiS,Jd (t4.2+1)))
 else
 some (.inr t4.1)
def bM(x7:App)(t3:Int×Int):Option ((Int×Int) ⊕ Int):=
 bif decide (t3.2<(x7.Jy.length:Int))then
 (idx x7.Jy t3.2).bind λPw=>
 let less:=Jd (t3.1+Pw.Ky)
 some (.inl (less,Jd (t3.2+1)))
 else
 some (.inr t3.1)
def bN(t:Gp×Int)(t1:Gp×Int)(x7:App)(t2:Int×Int):Option ((Int×Int) ⊕ Int):=
 bif decide (t2.2<(t1.1.I6.length:Int))then
 (
  (idx t1.1.I6 t2.2).bind λx9=>
  (ft t.1 x9.Id).bind λx10=>
  (
  bif ! x10.2 then
   (idx t1.1.I6 t2.2).bind λNg=>
   bif Ng.App == x7.Id then
   (idx t1.1.I6 t2.2).bind λOA=>
   some (! OA.Jb)
   else
   some false
  else
   some false).bind λq3=>
  bif q3 then
  some (Jd (t2.1+1))
  else
  some t2.1).bind λmore=>
 some (.inl (more,Jd (t2.2+1)))
 else
 some (.inr t2.1)
def bH(t:Gp×Int)(x5:Input)(t1:Gp×Int):Option ((Gp×Int) ⊕ (Bool ⊕ Gp)):=
 (
 bif decide (t1.2<(t.1.I9.length:Int))then
  some (x5.Kind == 3)
 else
  some false).bind λq1=>
 bif q1 then
 (
  (idx t.1.I9 t1.2).bind λx7=>
  (fk t1.1 x7.Id).bind λx8=>
  (
  bif x7.Gp != 2 then
   some true
  else
   bif x8.1.Gp != 2 then
   some true
   else
   bif x8.1.J_ != x7.J_ then
    some true
   else
    some (x8.1.KD != x7.KD)).bind λq2=>
  bif q2 then
  some (.inl ())
  else
  (loop (bN t t1 x7) (0,0)).bind λaiQ=>
  (loop (bM x7) (0,0)).bind λaiT=>
  (loop (bL x8) (aiT,0)).bind λaiR=>
  (
   bif aiQ != aiR then
   (fU t.1 t1.1 x7.Id).bind λRP=>
   some (! RP)
   else
   some false).bind λq4=>
  bif q4 then
   some (.inr false)
  else
   some (.inl ()):Option (Unit ⊕ Bool)).bind λq0=>
 match q0 with
 | .inl _=>
  some (.inl (t1.1,Jd (t1.2+1)))
 | .inr q5=>
  some (.inr (.inl q5))
 else
 some (.inr (.inr (t1.1)))
def cC(x:Script)(t:Gp×Int):Option ((Gp×Int) ⊕ (Bool ⊕ Unit)):=
 (
 bif decide (t.2<(x.Vr.length:Int))then
  some (decide (t.2<50))
 else
  some false).bind λq=>
 bif q then
 (idx x.Vr t.2).bind λx4=>
 (cY x4 t.1).bind λx5=>
 (ga t.1 x5).bind λx6=>
 (loop (bH t x5) (x6.1,0)).bind λq0=>
 match q0 with
 | .inl q6=>
  some (.inr (.inl q6))
 | .inr t5=>
  some (.inl (t5,Jd (t.2+1)))
 else
 some (.inr (.inr ()))
def dA(x:Script):Option Bool:=
 (iU).bind λx1=>
 bif ! x1 then
 some false
 else
 (eU x).bind λx2=>
 bif ! x2 then
  some true
 else
  (lS).bind λx3=>
  (loop (cC x) (x3,0)).bind λq0=>
  match q0 with
  | .inl q7=>
  some q7
  | .inr _=>
  some true
def h4:Hint:=(JQ (.s .z (JQ (.s .z (.s (JQ ((JJ [(3,.box (.st 10) []),(4,ge)] [2,3,4,5,6,7,8,9,10,11,12,13,14,15,16,17,18,33,58,94,134,177] [(1,[(2,gt)]),(2,[])] (.s JZ (.s (.b (JQ (.s .z (.s (JQ ((JJ [(6,.box (.st 10) []),(8,ge)] [2,6,8,9,10,11,12,13,14,15,16,17,18,58,94,134,177] [(1,[(2,gt)]),(4,[(6,.box (.st 10) [])])] (.s (.s (.j [] [(0,[(58,gt)])] .z) .z) (.s (.j [2,9,10,11,12,13,14,15,16,17,18,94,134,177] [(0,[]),(1,[(2,gt)])] (.b (JQ (.s .z (.s (.s (.j [] [(0,[(94,gt)])] .z) .z) (JQ (.s (JQ ((JJ [(12,ge),(13,ge)] [12,13,14,15,134] [(6,[(12,ge)])] (JQ (.s (.j [12,14,15,134] [(0,[(12,ge)])] (.b (JQ (.s (.j [] [(0,[(134,gt)])] .z) .z)))) .z))))) (JQ (.s (JQ ((JJ [(16,ge),(17,ge)] [16,17] [(8,[(16,ge)])] .z))) (.s (JQ ((JJ [(16,ge),(18,ge)] [16,18] [(10,[(16,ge)])] .z))) (.s (.j [] [(0,[(177,gt)])] .z) .z))))))))))) .z))))) .z)))) .z))))) .z)))))
def sp4:Spec fam:=⟨[.v (.st 12) []],[gt],λa=>dA a.1⟩
end
end Go.Fx.D
