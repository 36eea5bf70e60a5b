/-
  The functions of the program that this law reaches, as functions over plain data (printed by a program). Conditions: none.
-/
import Derived.Test.YtdickabkndfjhaaGreatD0
namespace Go.Fx.D
open Go Go.Fx Go.Proofs
set_option linter.unusedVariables false
noncomputable section
def bS(ids:List Int)(t:JF×Int):Option ((JF×Int) ⊕ JF):=
 bif decide (t.2<(ids.length:Int))then
 (
  (idx ids t.2).bind λx=>
  (a7 t.1 x).bind λx1=>
  bif ! x1.2 then
  some t.1
  else
  (aG t.1 x1.1.LD).bind λx2=>
  bif x1.1.Lj then
   (jB x2.1).bind λx3=>
   (aO t.1 (⟨x2.1.Id,1,x2.1.Lm,x2.1.User,x2.1.LA,⟨x2.1.Lj.Mem,x2.1.Lj.Lu⟩,x3,t.1.Now,0,[],[],[],[]⟩:LD)).bind λx4=>
   (dB x4 x1.1.LD).bind λx5=>
   some x5.1
  else
   (dz t.1 x1.1.Id).bind λx6=>
   (cq x2.1.Mv x1.1.Id).bind λx7=>
   (
   bif ! x7.2 then
    (app 8 [] x2.1.Nr).bind λl=>
    (app 8 l [x1.1.Id]).bind λl1=>
    some (⟨x2.1.Id,x2.1.JF,x2.1.Lm,x2.1.User,x2.1.LA,⟨x2.1.Lj.Mem,x2.1.Lj.Lu⟩,x2.1.Mr,x2.1.NZ,x2.1.Nf,x7.1,l1,x2.1.Told,x2.1.N7⟩:LD)
   else
    some (⟨x2.1.Id,x2.1.JF,x2.1.Lm,x2.1.User,x2.1.LA,⟨x2.1.Lj.Mem,x2.1.Lj.Lu⟩,x2.1.Mr,x2.1.NZ,x2.1.Nf,x7.1,x2.1.Nr,x2.1.Told,x2.1.N7⟩:LD)).bind λa=>
   (aO x6 a).bind λx8=>
   some x8).bind λs1=>
 some (.inl (s1,Lx (t.2+1)))
 else
 some (.inr t.1)
def bn(s:JF)(ids:List Int):Option JF:=
 (loop (bS ids) (s,0)).bind λs2=>
 some s2
def air:Spec fam:=⟨[f0,t6],[f0],λa=>bn a.1 a.2.1⟩
def jv(s:JF)(node:Int)(t:List Int×Int):Option ((List Int×Int) ⊕ List Int):=
 bif decide (t.2<(s.Lc.length:Int))then
 (
  (idx s.Lc t.2).bind λx=>
  bif x.LB == node then
  (idx s.Lc t.2).bind λx1=>
  (app 8 t.1 [x1.Id]).bind λl=>
  some l
  else
  some t.1).bind λl1=>
 some (.inl (l1,Lx (t.2+1)))
 else
 some (.inr t.1)
def fp(s:JF)(node:Int):Option (List Int):=
 (loop (jv s node) ([],0)).bind λl2=>
 some l2
def aic:Spec fam:=⟨[f0,ge],[f8],λa=>fp a.1 a.2.1⟩
def kG(s:JF)(N_:Int)(aaA:Int):Option (JF×Int):=
 (bR s N_).bind λx=>
 bif ! x.2 then
 some (s,2)
 else
 bif ! x.1.Up then
  some (s,18)
 else
  bif decide (aaA<0)then
  some (s,15)
  else
  bif decide (aaA<x.1.Nf)then
   some (s,15)
  else
   bif decide ((Lx (aaA - x.1.Nf))>1)then
   some (s,1)
   else
   (dn s (⟨x.1.Id,x.1.Ll,x.1.Oj,⟨x.1.Cap.Mem,x.1.Cap.Lu⟩,s.Now,aaA,x.1.Up⟩:LB)).bind λx1=>
   some (x1,0)
def aib:Spec fam:=⟨[f0,ge,ge],[f0,ge],λa=>kG a.1 a.2.1 a.2.2.1⟩
def dC(s:JF)(node:Int)(t:Nv×Int):Option ((Nv×Int) ⊕ ((Nv×Bool) ⊕ Nv)):=
 bif decide (t.2<(s.LG.length:Int))then
 (idx s.LG t.2).bind λx=>
 bif x.LB == node then
  (idx s.LG t.2).bind λx1=>
  some (.inr (.inl (x1,true)))
 else
  some (.inl (t.1,Lx (t.2+1)))
 else
 some (.inr (.inr (t.1)))
def jS(s:JF)(node:Int):Option (Nv×Bool):=
 (loop (dC s node) ((⟨0,0,0⟩:Nv),0)).bind λq0=>
 match q0 with
 | .inl q=>
 some (q.1,q.2)
 | .inr q1=>
 some ((⟨0,0,0⟩:Nv),false)
def agY:Spec fam:=⟨[f0,ge],[Qe,gt],λa=>jS a.1 a.2.1⟩
def eY(s:JF)(node:Int)(t:List Nv×Int):Option ((List Nv×Int) ⊕ List Nv):=
 bif decide (t.2<(s.LG.length:Int))then
 (
  (idx s.LG t.2).bind λx=>
  bif x.LB != node then
  (idx s.LG t.2).bind λx1=>
  (app 24 t.1 [x1]).bind λl=>
  some l
  else
  some t.1).bind λl1=>
 some (.inl (l1,Lx (t.2+1)))
 else
 some (.inr t.1)
def cJ(s:JF)(node:Int):Option JF:=
 (loop (eY s node) ([],0)).bind λl2=>
 some (⟨⟨s.Lf.Lp,s.Lf.Lg⟩,s.Ls,s.Lr,s.Lc,l2,s.LU,s.Now,s.L9,s.Seq⟩:JF)
def ahZ:Spec fam:=⟨[f0,ge],[.v (.st 10) [5]],λa=>cJ a.1 a.2.1⟩
def aW(a:Vec)(b:Vec):Option Bool:=
 bif decide (a.Mem≤b.Mem)then
 some (decide (a.Lu≤b.Lu))
 else
 some false
def agU:Spec fam:=⟨[pp,pp],[gt],λa=>aW a.1 a.2.1⟩
def fd(l:List Ask)(prio:Int)(t:Ask×Int):Option ((Ask×Int) ⊕ ((Ask×Bool) ⊕ Ask)):=
 bif decide (t.2<(l.length:Int))then
 (idx l t.2).bind λx=>
 bif x.LA == prio then
  (idx l t.2).bind λx1=>
  some (.inr (.inl (x1,true)))
 else
  some (.inl (t.1,Lx (t.2+1)))
 else
 some (.inr (.inr (t.1)))
def lu(l:List Ask)(prio:Int):Option (Ask×Bool):=
 (loop (fd l prio) ((⟨0,0,⟨0,0⟩,0,0,0,0⟩:Ask),0)).bind λq0=>
 match q0 with
 | .inl q=>
 some (q.1,q.2)
 | .inr q1=>
 some ((⟨0,0,⟨0,0⟩,0,0,0,0⟩:Ask),false)
def agA:Spec fam:=⟨[QZ,ge],[QT,gt],λa=>lu a.1 a.2.1⟩
def br(a:Ask)(n:LB):Option Int:=
 (
 bif ! n.Up then
  some true
 else
  some (n.Ll != a.Ll)).bind λq=>
 bif q then
 some 4
 else
 (
  bif a.Oj == (-1)then
  some true
  else
  bif a.LB == n.Id then
   some true
  else
   bif a.LB == (-1)then
   some (a.Oj == n.Oj)
   else
   some false).bind λq1=>
 bif q1 then
  some 1
 else
  bif a.Oj == n.Oj then
  some 2
  else
  some 3
def agh:Spec fam:=⟨[QT,Q1],[ge],λa=>br a.1 a.2.1⟩
def ce(a:Ask)(n:LB):Option Bool:=
 (br a n).bind λx=>
 bif x == 1 then
 some true
 else
 bif x == 2 then
  some (decide (a.RX≥2))
 else
  bif x == 3 then
  some (decide (a.RX≥4))
  else
  some false
def agz:Spec fam:=⟨[QT,Q1],[gt],λa=>ce a.1 a.2.1⟩
def aD(a:Vec)(b:Vec):Option Vec:=
 some (⟨Lx (a.Mem+b.Mem),Lx (a.Lu+b.Lu)⟩:Vec)
def amG:Spec fam:=⟨[pp,pp],[pp],λa=>aD a.1 a.2.1⟩
def fO(t:List UInt8×List (List UInt8)):Option ((List UInt8×List (List UInt8)) ⊕ List (List UInt8)):=
 bif ! (t.1 == ([]:List UInt8))then
 (app 16 t.2 [t.1]).bind λl=>
 (dH t.1).bind λaiz=>
 some (.inl (aiz,l))
 else
 some (.inr t.2)
def gJ(Ld:List UInt8):Option (List (List UInt8)):=
 (loop fO (Ld,[])).bind λl1=>
 some l1
def ahp:Spec fam:=⟨[ne],[f9],λa=>gJ a.1⟩
def df(Ld:List UInt8)(up:List (List UInt8))(i:Int):Option (Int ⊕ (Bool ⊕ Unit)):=
 bif decide (i<(up.length:Int))then
 (MZ i up.length).bind λi1=>
 (up[i1]?).bind λx=>
 bif x == Ld then
  some (.inr (.inl true))
 else
  some (.inl (Lx (i+1)))
 else
 some (.inr (.inr ()))
def eZ(leaf:List UInt8)(Ld:List UInt8):Option Bool:=
 (gJ leaf).bind λup=>
 (loop (df Ld up) 0).bind λq0=>
 match q0 with
 | .inl q=>
 some q
 | .inr _=>
 some false
def aij:Spec fam:=⟨[ne,ne],[gt],λa=>eZ a.1 a.2.1⟩
def gI(s:JF)(Ld:List UInt8)(label:Int)(all:Bool)(user:Int)(t:Vec×Int):Option ((Vec×Int) ⊕ Vec):=
 bif decide (t.2<(s.Lc.length:Int))then
 (
  (idx s.Lc t.2).bind λx=>
  (aG s x.LD).bind λx1=>
  (
  bif x1.2 then
   (idx s.Lc t.2).bind λx2=>
   bif x2.Ll == label then
   (eZ x1.1.Lm Ld).bind λx3=>
   bif x3 then
    bif all then
    some true
    else
    some (x1.1.User == user)
   else
    some false
   else
   some false
  else
   some false).bind λq=>
  bif q then
  (idx s.Lc t.2).bind λx4=>
  (aD t.1 x4.LV).bind λx5=>
  some x5
  else
  some t.1).bind λv=>
 some (.inl (v,Lx (t.2+1)))
 else
 some (.inr t.1)
def fQ(s:JF)(Ld:List UInt8)(label:Int)(all:Bool)(user:Int):Option Vec:=
 (loop (gI s Ld label all user) ((⟨0,0⟩:Vec),0)).bind λv1=>
 some v1
def am8:Spec fam:=⟨[f0,ne,ge,gt,ge],[pp],λa=>fQ a.1 a.2.1 a.2.2.1 a.2.2.2.1 a.2.2.2.2.1⟩
def aP(s:JF)(Ld:List UInt8)(label:Int):Option Vec:=
 (fQ s Ld label true 0).bind λx=>
 some x
def anK:Spec fam:=⟨[f0,ne,ge],[pp],λa=>aP a.1 a.2.1 a.2.2.1⟩
def gG(s:JF)(label:Int)(t:Vec×Int):Option ((Vec×Int) ⊕ Vec):=
 bif decide (t.2<(s.Ls.length:Int))then
 (
  (
  (idx s.Ls t.2).bind λx=>
  bif x.Up then
   (idx s.Ls t.2).bind λx1=>
   some (x1.Ll == label)
  else
   some false).bind λq=>
  bif q then
  (idx s.Ls t.2).bind λx2=>
  (aD t.1 x2.Cap).bind λx3=>
  some x3
  else
  some t.1).bind λv=>
 some (.inl (v,Lx (t.2+1)))
 else
 some (.inr t.1)
def bV(s:JF)(label:Int):Option Vec:=
 (loop (gG s label) ((⟨0,0⟩:Vec),0)).bind λv1=>
 some v1
def anv:Spec fam:=⟨[f0,ge],[pp],λa=>bV a.1 a.2.1⟩
def kP(n:Int):Option Bool:=
 bif decide (n≥0)then
 some (decide (n≤1125899906842624))
 else
 some false
def agj:Spec fam:=⟨[ge],[gt],λa=>kP a.1⟩
def bZ(a:Vec):Option Bool:=
 (kP a.Mem).bind λx=>
 bif x then
 (kP a.Lu).bind λx1=>
 some x1
 else
 some false
def agH:Spec fam:=⟨[pp],[gt],λa=>bZ a.1⟩
def fR(n:Int)(bp:Int):Option Int:=
 some (Lx ((Lx ((Lx (Int.tdiv n 10000))*bp))+(Lx (Int.tdiv (Lx ((Int.tmod n 10000)*bp)) 10000))))
def agG:Spec fam:=⟨[ge,ge],[ge],λa=>fR a.1 a.2.1⟩
def fV(a:Vec)(bp:Int):Option (Vec×Int):=
 (
 (bZ a).bind λx=>
 bif ! x then
  some true
 else
  bif decide (bp<0)then
  some true
  else
  some (decide (bp>1000000))).bind λq=>
 bif q then
 some ((⟨0,0⟩:Vec),1)
 else
 (fR a.Mem bp).bind λx1=>
 (fR a.Lu bp).bind λx2=>
 (bZ (⟨x1,x2⟩:Vec)).bind λx3=>
 bif ! x3 then
  some ((⟨0,0⟩:Vec),11)
 else
  some ((⟨x1,x2⟩:Vec),0)
def ag5:Spec fam:=⟨[pp,ge],[pp,ge],λa=>fV a.1 a.2.1⟩
def iP(s:JF)(label:Int)(least:Bool)(up:List (List UInt8))(t:Vec×Int):Option ((Vec×Int) ⊕ Vec):=
 bif decide (t.2≥0)then
 (MZ t.2 up.length).bind λi1=>
 (up[i1]?).bind λx2=>
 (bP s.Lf x2).bind λx3=>
 (MZ label x3.1.MR.length).bind λi2=>
 (x3.1.MR[i2]?).bind λx4=>
 (
  bif least then
  (MZ label x3.1.MR.length).bind λi3=>
  (x3.1.MR[i3]?).bind λx5=>
  some x5.Oe
  else
  some x4.Most).bind λbp=>
 (fV t.1 bp).bind λx6=>
 some (.inl (x6.1,Lx (t.2 - 1)))
 else
 some (.inr t.1)
def gZ(s:JF)(Ld:List UInt8)(label:Int)(least:Bool):Option Vec:=
 (bP s.Lf Ld).bind λx=>
 (
 bif ! x.2 then
  some true
 else
  bif decide (label<0)then
  some true
  else
  some (decide (label≥(s.Lf.Lp.length:Int)))).bind λq=>
 bif q then
 some (⟨0,0⟩:Vec)
 else
 (bV s label).bind λx1=>
 (gJ Ld).bind λup=>
 let i:=Lx ((up.length:Int) - 2)
 (loop (iP s label least up) (x1,i)).bind λv=>
 some v
def ahI:Spec fam:=⟨[f0,ne,ge,gt],[pp],λa=>gZ a.1 a.2.1 a.2.2.1 a.2.2.2.1⟩
def bI(s:JF)(Ld:List UInt8)(label:Int):Option Vec:=
 (gZ s Ld label true).bind λx=>
 some x
def amF:Spec fam:=⟨[f0,ne,ge],[pp],λa=>bI a.1 a.2.1 a.2.2.1⟩
def ia(s:JF)(leaf:List UInt8)(a:Ask):Option Bool:=
 (aP s leaf a.Ll).bind λx=>
 (aD x a.LV).bind λx1=>
 (bI s leaf a.Ll).bind λx2=>
 (aW x1 x2).bind λx3=>
 some x3
def agy:Spec fam:=⟨[f0,ne,QT],[gt],λa=>ia a.1 a.2.1 a.2.2.1⟩
def fA(s:JF)(Ld:List UInt8)(label:Int)(user:Int):Option Vec:=
 (fQ s Ld label false user).bind λx=>
 some x
def agf:Spec fam:=⟨[f0,ne,ge,ge],[pp],λa=>fA a.1 a.2.1 a.2.2.1 a.2.2.2.1⟩
def kJ(s:JF)(Ld:List UInt8)(label:Int):Option Vec:=
 (bP s.Lf Ld).bind λx=>
 bif ! x.2 then
 some (⟨0,0⟩:Vec)
 else
 (bI s Ld label).bind λx1=>
 (fV x1 x.1.User).bind λx2=>
 some x2.1
def agd:Spec fam:=⟨[f0,ne,ge],[pp],λa=>kJ a.1 a.2.1 a.2.2.1⟩
def fY(s:JF)(leaf:List UInt8)(label:Int)(user:Int):Option Bool:=
 (fA s leaf label user).bind λx=>
 (kJ s leaf label).bind λx1=>
 (aW x x1).bind λx2=>
 some x2
def agx:Spec fam:=⟨[f0,ne,ge,ge],[gt],λa=>fY a.1 a.2.1 a.2.2.1 a.2.2.2.1⟩
def iG(s:JF)(N_:Int)(t:Vec×Int):Option ((Vec×Int) ⊕ Vec):=
 bif decide (t.2<(s.Lc.length:Int))then
 (
  (idx s.Lc t.2).bind λx=>
  bif x.LB == N_ then
  (idx s.Lc t.2).bind λx1=>
  (aD t.1 x1.LV).bind λx2=>
  some x2
  else
  some t.1).bind λv=>
 some (.inl (v,Lx (t.2+1)))
 else
 some (.inr t.1)
def kF(s:JF)(N_:Int):Option Vec:=
 (loop (iG s N_) ((⟨0,0⟩:Vec),0)).bind λv1=>
 some v1
def ail:Spec fam:=⟨[f0,ge],[pp],λa=>kF a.1 a.2.1⟩
def hG(a:Vec)(b:Vec):Option Vec:=
 some (⟨imax (Lx (a.Mem - b.Mem)) 0,imax (Lx (a.Lu - b.Lu)) 0⟩:Vec)
def agc:Spec fam:=⟨[pp,pp],[pp],λa=>hG a.1 a.2.1⟩
def h_(s:JF)(N_:Int):Option Vec:=
 (bR s N_).bind λx=>
 (
 bif ! x.2 then
  some true
 else
  some (! x.1.Up)).bind λq=>
 bif q then
 some (⟨0,0⟩:Vec)
 else
 (kF s N_).bind λx1=>
 (hG x.1.Cap x1).bind λx2=>
 some x2
def agw:Spec fam:=⟨[f0,ge],[pp],λa=>h_ a.1 a.2.1⟩
def hZ(s:JF)(Ld:List UInt8)(label:Int):Option Vec:=
 (gZ s Ld label false).bind λx=>
 some x
def ahK:Spec fam:=⟨[f0,ne,ge],[pp],λa=>hZ a.1 a.2.1 a.2.2.1⟩
def ig(s:JF)(label:Int)(t:Vec×Int):Option ((Vec×Int) ⊕ Vec):=
 bif decide (t.2<(s.LU.length:Int))then
 (
  (idx s.LU t.2).bind λx=>
  (
  bif x.Ll == label then
   bif decide (x.From≤s.Now)then
   some (decide (s.Now<x.Until))
   else
   some false
  else
   some false).bind λq=>
  bif q then
  (aD t.1 x.Need).bind λx1=>
  some x1
  else
  some t.1).bind λv=>
 some (.inl (v,Lx (t.2+1)))
 else
 some (.inr t.1)
def kw(s:JF)(label:Int):Option Vec:=
 (loop (ig s label) ((⟨0,0⟩:Vec),0)).bind λv1=>
 some v1
def agb:Spec fam:=⟨[f0,ge],[pp],λa=>kw a.1 a.2.1⟩
def dA(s:JF)(label:Int)(size:Vec)(up:List (List UInt8))(i:Int):Option (Int ⊕ (Bool ⊕ Unit)):=
 bif decide (i<(up.length:Int))then
 (MZ i up.length).bind λi1=>
 (up[i1]?).bind λx=>
 (aP s x label).bind λx1=>
 (aD x1 size).bind λx2=>
 (MZ i up.length).bind λi2=>
 (up[i2]?).bind λx3=>
 (hZ s x3 label).bind λx4=>
 (aW x2 x4).bind λx5=>
 bif ! x5 then
  some (.inr (.inl false))
 else
  (
  (MZ i up.length).bind λi3=>
  (up[i3]?).bind λx6=>
  bif x6 == ([114,111,111,116]:List UInt8)then
   (bV s label).bind λx7=>
   (kw s label).bind λx8=>
   (hG x7 x8).bind λx9=>
   (aW x2 x9).bind λx10=>
   some (! x10)
  else
   some false).bind λq=>
  bif q then
  some (.inr (.inl false))
  else
  some (.inl (Lx (i+1)))
 else
 some (.inr (.inr ()))
def fP(s:JF)(Ld:List UInt8)(label:Int)(size:Vec):Option Bool:=
 (gJ Ld).bind λup=>
 (loop (dA s label size up) 0).bind λq0=>
 match q0 with
 | .inl q1=>
 some q1
 | .inr _=>
 some true
def agv:Spec fam:=⟨[f0,ne,ge,pp],[gt],λa=>fP a.1 a.2.1 a.2.2.1 a.2.2.2.1⟩
def iQ(l:List Ask)(prio:Int)(t:List Ask×Bool×Int):Option ((List Ask×Bool×Int) ⊕ ((List Ask×Bool))):=
 bif decide (t.2.2<(l.length:Int))then
 (
  (idx l t.2.2).bind λx=>
  (
  bif x.LA == prio then
   bif decide ((Lx (x.Mw - 1))≤0)then
   some (.inr true)
   else
   some (.inl (true,(⟨x.LA,x.Ll,⟨x.LV.Mem,x.LV.Lu⟩,Lx (x.Mw - 1),x.LB,x.Oj,0⟩:Ask)))
  else
   some (.inl (t.2.1,x)):Option ((Bool×Ask) ⊕ Bool)).bind λq0=>
  match q0 with
  | .inl q=>
  (app 64 t.1 [q.2]).bind λl1=>
  some (l1,q.1)
  | .inr is=>
  some (t.1,is)).bind λq1=>
 some (.inl (q1.1,q1.2,Lx (t.2.2+1)))
 else
 some (.inr (t.1,t.2.1))
def kM(l:List Ask)(prio:Int):Option (List Ask×Bool):=
 (loop (iQ l prio) ([],false,0)).bind λq2=>
 some (q2.1,q2.2)
def aga:Spec fam:=⟨[QZ,ge],[ac,gt],λa=>kM a.1 a.2.1⟩
def ft(s:JF)(k:Int):Option (Int ⊕ Int):=
 (
 bif decide (k<(s.Lc.length:Int))then
  (idx s.Lc k).bind λx2=>
  some (decide (x2.Id<(Lx ((Rw .i64 s.L9 20)+(Lx (s.Seq+1))))))
 else
  some false).bind λq=>
 bif q then
 some (.inl (Lx (k+1)))
 else
 some (.inr k)
def e_(s:JF)(n:LB)(a:LD)(x:Ask):Option (JF×Lv):=
 (kM a.Mr x.LA).bind λx1=>
 (
 bif a.JF == 1 then
  some (⟨a.Id,2,a.Lm,a.User,a.LA,⟨a.Lj.Mem,a.Lj.Lu⟩,[],s.Now,0,a.Mv,a.Nr,a.Told,a.N7⟩:LD)
 else
  (app 8 [] a.Mv).bind λl=>
  (app 8 l [Lx ((Rw .i64 s.L9 20)+(Lx (s.Seq+1)))]).bind λl1=>
  some (⟨a.Id,a.JF,a.Lm,a.User,a.LA,⟨a.Lj.Mem,a.Lj.Lu⟩,x1.1,a.NZ,a.Nf,l1,a.Nr,a.Told,a.N7⟩:LD)).bind λa1=>
 (loop (ft s) 0).bind λk1=>
 (slc s.Lc 0 k1).bind λl2=>
 (app 72 [] l2).bind λl3=>
 (app 72 l3 [(⟨Lx ((Rw .i64 s.L9 20)+(Lx (s.Seq+1))),a.Id,n.Id,⟨x.LV.Mem,x.LV.Lu⟩,x.LA,n.Ll,a.JF == 1,0⟩:Lv)]).bind λl4=>
 (slc s.Lc k1 (s.Lc.length:Int)).bind λl5=>
 (app 72 l4 l5).bind λl6=>
 (aO (⟨⟨s.Lf.Lp,s.Lf.Lg⟩,s.Ls,s.Lr,l6,s.LG,s.LU,s.Now,s.L9,Lx (s.Seq+1)⟩:JF) a1).bind λx3=>
 some (x3,(⟨Lx ((Rw .i64 s.L9 20)+(Lx (s.Seq+1))),a.Id,n.Id,⟨x.LV.Mem,x.LV.Lu⟩,x.LA,n.Ll,a.JF == 1,0⟩:Lv))
def agu:Spec fam:=⟨[f0,Q1,QF,QT],[.v (.st 10) [3],QK],λa=>e_ a.1 a.2.1 a.2.2.1 a.2.2.2.1⟩
def ka(s:JF)(n:LB)(x:Nv):Option (JF×Int×Lv×Bool):=
 (aG s x.LD).bind λx1=>
 (lu x1.1.Mr x.LA).bind λx2=>
 (
 bif ! x1.2 then
  some true
 else
  (aY x1.1).bind λx3=>
  bif ! x3 then
  some true
  else
  bif ! x2.2 then
   some true
  else
   (ce x2.1 n).bind λx4=>
   bif ! x4 then
   some true
   else
   (aW x2.1.LV n.Cap).bind λx5=>
   bif ! x5 then
    some true
   else
    (ia s x1.1.Lm x2.1).bind λx6=>
    bif ! x6 then
    some true
    else
    (fY s x1.1.Lm n.Ll x1.1.User).bind λx7=>
    some (! x7)).bind λq=>
 bif q then
 (cJ s n.Id).bind λx8=>
 some (x8,0,(⟨0,0,0,⟨0,0⟩,0,0,false,0⟩:Lv),false)
 else
 (
  (h_ s n.Id).bind λx9=>
  (aW x2.1.LV x9).bind λx10=>
  bif ! x10 then
  some true
  else
  (fP s x1.1.Lm n.Ll x2.1.LV).bind λPK=>
  some (! PK)).bind λq1=>
 bif q1 then
  some (s,3,(⟨0,0,0,⟨0,0⟩,0,0,false,0⟩:Lv),true)
 else
  (cJ s n.Id).bind λUc=>
  (e_ Uc n x1.1 x2.1).bind λUy=>
  some (Uy.1,1,Uy.2,true)
def agX:Spec fam:=⟨[f0,Q1,Qe],[f0,ge,QK,gt],λa=>ka a.1 a.2.1 a.2.2.1⟩
def mO(a:Int)(b:Int):Option (Int×Int):=
 let mid:=Lx ((Lx ((Pg .i64 a 25)*(RJ .i64 b 33554431)))+(Lx ((RJ .i64 a 33554431)*(Pg .i64 b 25))))
 let low:=Lx ((Lx ((RJ .i64 a 33554431)*(RJ .i64 b 33554431)))+(Rw .i64 (RJ .i64 mid 33554431) 25))
 some (Lx ((Lx ((Lx ((Pg .i64 a 25)*(Pg .i64 b 25)))+(Pg .i64 mid 25)))+(Pg .i64 low 50)),RJ .i64 low 1125899906842623)
def afR:Spec fam:=⟨[ge,ge],[ge,ge],λa=>mO a.1 a.2.1⟩
def f_(x:TT)(y:TT):Option Int:=
 (
 bif x.A == 0 then
  some (⟨x.A,1⟩:TT)
 else
  some x).bind λx1=>
 (
 bif y.A == 0 then
  some (⟨y.A,1⟩:TT)
 else
  some y).bind λy1=>
 (
 bif x1.P == 0 then
  some true
 else
  some (y1.P == 0)).bind λq=>
 bif q then
 (
  bif x1.P == 0 then
  some (y1.P == 0)
  else
  some false).bind λq1=>
 bif q1 then
  some 0
 else
  bif x1.P == 0 then
  some 1
  else
  some (-1)
 else
 (mO x1.A y1.P).bind λx2=>
 (mO y1.A x1.P).bind λx3=>
 (
  bif decide (x2.1<x3.1)then
  some true
  else
  bif x2.1 == x3.1 then
   some (decide (x2.2<x3.2))
  else
   some false).bind λq2=>
 bif q2 then
  some (-1)
 else
  (
  bif x2.1 == x3.1 then
   some (x2.2 == x3.2)
  else
   some false).bind λq3=>
  bif q3 then
  some 0
  else
  some 1
def afT:Spec fam:=⟨[.v (.st 14) [],.v (.st 14) []],[ge],λa=>f_ a.1 a.2.1⟩
def hU(a:Vec)(p:Vec):Option TT:=
 (f_ (⟨a.Mem,p.Mem⟩:TT) (⟨a.Lu,p.Lu⟩:TT)).bind λx=>
 bif decide (x<0)then
 some (⟨a.Lu,p.Lu⟩:TT)
 else
 some (⟨a.Mem,p.Mem⟩:TT)
def afS:Spec fam:=⟨[pp,pp],[.v (.st 14) []],λa=>hU a.1 a.2.1⟩
def dq(a:Vec)(p:Vec)(b:Vec)(q:Vec):Option Int:=
 (
 (bZ a).bind λx=>
 bif ! x then
  some true
 else
  (bZ p).bind λx1=>
  bif ! x1 then
  some true
  else
  (bZ b).bind λx2=>
  bif ! x2 then
   some true
  else
   (bZ q).bind λx3=>
   some (! x3)).bind λq1=>
 bif q1 then
 some 0
 else
 (hU a p).bind λx4=>
 (hU b q).bind λx5=>
 (f_ x4 x5).bind λx6=>
 some x6
def afU:Spec fam:=⟨[pp,pp,pp,pp],[ge],λa=>dq a.1 a.2.1 a.2.2.1 a.2.2.2.1⟩
def jr(s:JF)(a:List UInt8)(b:List UInt8)(label:Int):Option Bool:=
 (aP s a label).bind λx=>
 (bI s a label).bind λx1=>
 (aP s b label).bind λx2=>
 (bI s b label).bind λx3=>
 (dq x x1 x2 x3).bind λo=>
 bif decide (o<0)then
 some true
 else
 bif o == 0 then
  some (Op.bytesLess a b)
 else
  some false
def afV:Spec fam:=⟨[f0,ne,ne,ge],[gt],λa=>jr a.1 a.2.1 a.2.2.1 a.2.2.2.1⟩
def gS(s:JF)(label:Int)(l:List (List UInt8))(t:List (List UInt8)×Int)(k:Int):Option (Int ⊕ Int):=
 (
 bif decide (k<(t.1.length:Int))then
  (MZ t.2 l.length).bind λi=>
  (l[i]?).bind λx=>
  (MZ k t.1.length).bind λi1=>
  (t.1[i1]?).bind λx1=>
  (jr s x x1 label).bind λx2=>
  some (! x2)
 else
  some false).bind λq=>
 bif q then
 some (.inl (Lx (k+1)))
 else
 some (.inr k)
def go(s:JF)(label:Int)(l:List (List UInt8))(t:List (List UInt8)×Int):Option ((List (List UInt8)×Int) ⊕ List (List UInt8)):=
 bif decide (t.2<(l.length:Int))then
 (loop (gS s label l t) 0).bind λk1=>
 (OQ 0 k1 t.1.length).bind λp=>
 (app 16 [] (sub t.1 p.1 p.2)).bind λl1=>
 (MZ t.2 l.length).bind λi2=>
 (l[i2]?).bind λx3=>
 (app 16 l1 [x3]).bind λl2=>
 (OQ k1 (t.1.length:Int) t.1.length).bind λp1=>
 (app 16 l2 (sub t.1 p1.1 p1.2)).bind λl3=>
 some (.inl (l3,Lx (t.2+1)))
 else
 some (.inr t.1)
def kb(s:JF)(Ld:List UInt8)(label:Int):Option (List (List UInt8)):=
 (cb s.Lf Ld).bind λl=>
 (loop (go s label l) ([],0)).bind λout=>
 some out
def afZ:Spec fam:=⟨[f0,ne,ge],[f9],λa=>kb a.1 a.2.1 a.2.2.1⟩
def dP(s:JF)(label:Int)(self:JF→(List UInt8)→Int→Option (List (List UInt8)))(l:List (List UInt8))(t:List (List UInt8)×Int):Option ((List (List UInt8)×Int) ⊕ List (List UInt8)):=
 bif decide (t.2<(l.length:Int))then
 (MZ t.2 l.length).bind λi=>
 (l[i]?).bind λx=>
 (self s x label).bind λx1=>
 (app 16 t.1 x1).bind λl1=>
 some (.inl (l1,Lx (t.2+1)))
 else
 some (.inr t.1)
def dc(self:JF→(List UInt8)→Int→Option (List (List UInt8)))(s:JF)(Ld:List UInt8)(label:Int):Option (List (List UInt8)):=
 (kb s Ld label).bind λl=>
 bif(l.length:Int) == 0 then
 some [Ld]
 else
 (loop (dP s label self l) ([],0)).bind λout=>
 some out
def bN:Nat→JF→(List UInt8)→Int→Option (List (List UInt8))
 | 0=>λ_ _ _=>none
 | n+1=>dc (bN n)
def ls(a0:JF)(a1:List UInt8)(a2:Int):Option (List (List UInt8)):=bN 64 a0 a1 a2
def apr:Hint:=(Qf (.s .z (Qf (.s .z (.s (Qf ((Qg [(8,f9),(9,ge)] [8,9] [(2,[(8,f9)])] .z))) .z)))))
def af_:Spec fam:=⟨[f0,ne,ge],[f9],λa=>ls a.1 a.2.1 a.2.2.1⟩
def Jf(n:Nat):Spec fam:=⟨[.v (.st 10) [],.v .str [],.v (.int .i64) []],[.v (.slice (.str)) [0]],λa=>bN n a.1 a.2.1 a.2.2.1⟩
def ii(s:JF)(label:Int):Option (List (List UInt8)):=
 (ls s ([114,111,111,116]:List UInt8) label).bind λx=>
 some x
def agt:Spec fam:=⟨[f0,ge],[f9],λa=>ii a.1 a.2.1⟩
def dw(PI:List LD)(t1:List Int×Int):Option ((List Int×Int) ⊕ List Int):=
 bif decide (t1.2<(PI.length:Int))then
 (MZ t1.2 PI.length).bind λi1=>
 (PI[i1]?).bind λx3=>
 (app 8 t1.1 [x3.Id]).bind λl3=>
 some (.inl (l3,Lx (t1.2+1)))
 else
 some (.inr t1.1)
def gL(t:List LD×Int)(x:LD)(k:Int):Option (Int ⊕ Int):=
 (
 bif decide (k<(t.1.length:Int))then
  (MZ k t.1.length).bind λi=>
  (t.1[i]?).bind λx2=>
  some (decide (x2.LA≥x.LA))
 else
  some false).bind λq1=>
 bif q1 then
 some (.inl (Lx (k+1)))
 else
 some (.inr k)
def gq(s:JF)(queue:List UInt8)(t:List LD×Int):Option ((List LD×Int) ⊕ List LD):=
 bif decide (t.2<(s.Lr.length:Int))then
 (
  (idx s.Lr t.2).bind λx=>
  (
  (aY x).bind λx1=>
  bif ! x1 then
   some true
  else
   some (! (x.Lm == queue))).bind λq=>
  bif q then
  some t.1
  else
  (loop (gL t x) 0).bind λk1=>
  (OQ 0 k1 t.1.length).bind λp=>
  (app 200 [] (sub t.1 p.1 p.2)).bind λl=>
  (app 200 l [x]).bind λl1=>
  (OQ k1 (t.1.length:Int) t.1.length).bind λp1=>
  (app 200 l1 (sub t.1 p1.1 p1.2)).bind λl2=>
  some l2).bind λout=>
 some (.inl (out,Lx (t.2+1)))
 else
 some (.inr t.1)
def kn(s:JF)(queue:List UInt8):Option (List Int):=
 (loop (gq s queue) ([],0)).bind λPI=>
 (loop (dw PI) ([],0)).bind λl4=>
 some l4
def ags:Spec fam:=⟨[f0,ne],[f8],λa=>kn a.1 a.2.1⟩
def iT(prio:Int)(t:List Ask×Int):Option ((List Ask×Int) ⊕ List Ask):=
 bif decide (t.2<(t.1.length:Int))then
 (
  (MZ t.2 t.1.length).bind λi=>
  (t.1[i]?).bind λx=>
  bif x.LA == prio then
  (MZ t.2 t.1.length).bind λi1=>
  (t.1[i1]?).bind λx1=>
  (MZ t.2 t.1.length).bind λi2=>
  (t.1[i2]?).bind λx2=>
  some (List.set t.1 i2 (⟨x2.LA,x2.Ll,⟨x2.LV.Mem,x2.LV.Lu⟩,x2.Mw,x2.LB,x2.Oj,Mj (Lx (x1.RX+1)) 100⟩:Ask))
  else
  some t.1).bind λout=>
 some (.inl (out,Lx (t.2+1)))
 else
 some (.inr t.1)
def kD(l:List Ask)(prio:Int):Option (List Ask):=
 (app 64 [] l).bind λl1=>
 (loop (iT prio) (l1,0)).bind λPI=>
 some PI
def af9:Spec fam:=⟨[QZ,ge],[ac],λa=>kD a.1 a.2.1⟩
def di(s:JF)(SE:Int)(prio:Int)(i:Int):Option (Int ⊕ (Bool ⊕ Unit)):=
 bif decide (i<(s.LG.length:Int))then
 (
  (idx s.LG i).bind λx=>
  bif x.LD == SE then
  (idx s.LG i).bind λx1=>
  some (x1.LA == prio)
  else
  some false).bind λq=>
 bif q then
  some (.inr (.inl true))
 else
  some (.inl (Lx (i+1)))
 else
 some (.inr (.inr ()))
def jw(s:JF)(SE:Int)(prio:Int):Option Bool:=
 (loop (di s SE prio) 0).bind λq0=>
 match q0 with
 | .inl q1=>
 some q1
 | .inr _=>
 some false
def af8:Spec fam:=⟨[f0,ge,ge],[gt],λa=>jw a.1 a.2.1 a.2.2.1⟩
def gF(s:JF)(x:Nv)(k:Int):Option (Int ⊕ Int):=
 (
 bif decide (k<(s.LG.length:Int))then
  (idx s.LG k).bind λx1=>
  some (decide (x1.LB<x.LB))
 else
  some false).bind λq=>
 bif q then
 some (.inl (Lx (k+1)))
 else
 some (.inr k)
def km(s:JF)(x:Nv):Option JF:=
 (loop (gF s x) 0).bind λk1=>
 (slc s.LG 0 k1).bind λl=>
 (app 24 [] l).bind λl1=>
 (app 24 l1 [x]).bind λl2=>
 (slc s.LG k1 (s.LG.length:Int)).bind λl3=>
 (app 24 l2 l3).bind λl4=>
 some (⟨⟨s.Lf.Lp,s.Lf.Lg⟩,s.Ls,s.Lr,s.Lc,l4,s.LU,s.Now,s.L9,s.Seq⟩:JF)
def af7:Spec fam:=⟨[f0,Qe],[.v (.st 10) [5]],λa=>km a.1 a.2.1⟩
def kC(s:JF)(n:LB)(a:LD)(x:Ask)(first:Bool):Option (JF×Int×Lv):=
 (ia s a.Lm x).bind λis=>
 (
 (br x n).bind λx1=>
 bif x1 == 4 then
  some true
 else
  (aW x.LV n.Cap).bind λx2=>
  bif ! x2 then
  some true
  else
  bif first then
   some (! is)
  else
   some false).bind λq=>
 bif q then
 some (s,0,(⟨0,0,0,⟨0,0⟩,0,0,false,0⟩:Lv))
 else
 (ce x n).bind λx3=>
 bif ! x3 then
  (
  bif first == is then
   (kD a.Mr x.LA).bind λx4=>
   (aO s (⟨a.Id,a.JF,a.Lm,a.User,a.LA,⟨a.Lj.Mem,a.Lj.Lu⟩,x4,a.NZ,a.Nf,a.Mv,a.Nr,a.Told,a.N7⟩:LD)).bind λx5=>
   some x5
  else
   some s).bind λs1=>
  some (s1,0,(⟨0,0,0,⟨0,0⟩,0,0,false,0⟩:Lv))
 else
  (fP s a.Lm n.Ll x.LV).bind λx6=>
  bif ! x6 then
  some (s,0,(⟨0,0,0,⟨0,0⟩,0,0,false,0⟩:Lv))
  else
  (h_ s n.Id).bind λx7=>
  (aW x.LV x7).bind λx8=>
  bif x8 then
   (e_ s n a x).bind λx9=>
   some (x9.1,1,x9.2)
  else
   (
   bif first then
    (jw s a.Id x.LA).bind λx10=>
    some (! x10)
   else
    some false).bind λq1=>
   bif q1 then
   (km s (⟨n.Id,a.Id,x.LA⟩:Nv)).bind λPK=>
   some (PK,2,(⟨0,0,0,⟨0,0⟩,0,0,false,0⟩:Lv))
   else
   some (s,0,(⟨0,0,0,⟨0,0⟩,0,0,false,0⟩:Lv))
def agr:Spec fam:=⟨[f0,Q1,QF,QT,gt],[f0,ge,QK],λa=>kC a.1 a.2.1 a.2.2.1 a.2.2.2.1 a.2.2.2.2.1⟩
def dg(n:LB)(first:Bool)(ids:List Int)(t1:JF×JF×Lv×Int)(x2:LD×Bool)(t2:JF×JF×Lv×Int):Option ((JF×JF×Lv×Int) ⊕ ((JF×Int×Lv) ⊕ (JF×JF×Lv))):=
 bif decide (t2.2.2.2<(x2.1.Mr.length:Int))then
 (MZ t1.2.2.2 ids.length).bind λi3=>
 (ids[i3]?).bind λx5=>
 (aG t2.1 x5).bind λx6=>
 (idx x2.1.Mr t2.2.2.2).bind λx7=>
 (kC t2.1 n x6.1 x7 first).bind λx8=>
 bif x8.2.1 != 0 then
  some (.inr (.inl (x8.1,x8.2.1,x8.2.2)))
 else
  some (.inl (x8.1,t2.2.1,t2.2.2.1,Lx (t2.2.2.2+1)))
 else
 some (.inr (.inr (t2.1,t2.2.1,t2.2.2.1)))
def de(n:LB)(first:Bool)(leaves:List (List UInt8))(t:JF×JF×Lv×Int)(ids:List Int)(t1:JF×JF×Lv×Int):Option ((JF×JF×Lv×Int) ⊕ ((JF×Int×Lv) ⊕ (JF×JF×Lv))):=
 bif decide (t1.2.2.2<(ids.length:Int))then
 (
  (MZ t1.2.2.2 ids.length).bind λi1=>
  (ids[i1]?).bind λx1=>
  (aG t1.1 x1).bind λx2=>
  (MZ t.2.2.2 leaves.length).bind λi2=>
  (leaves[i2]?).bind λx3=>
  (fY t1.1 x3 n.Ll x2.1.User).bind λx4=>
  bif ! x4 then
  some (.inl (t1.1,t1.2.1,t1.2.2.1))
  else
  (loop (dg n first ids t1 x2) (t1.1,t1.2.1,t1.2.2.1,0)).bind λq0=>
  match q0 with
  | .inl q=>
   some (.inr (q.1,q.2.1,q.2.2))
  | .inr q1=>
   some (.inl (q1.1,q1.2.1,q1.2.2)):Option ((JF×JF×Lv) ⊕ (JF×Int×Lv))).bind λq0=>
 match q0 with
 | .inl q2=>
  some (.inl (q2.1,q2.2.1,q2.2.2,Lx (t1.2.2.2+1)))
 | .inr q3=>
  some (.inr (.inl (q3.1,q3.2.1,q3.2.2)))
 else
 some (.inr (.inr (t1.1,t1.2.1,t1.2.2.1)))
def fx(n:LB)(first:Bool)(leaves:List (List UInt8))(t:JF×JF×Lv×Int):Option ((JF×JF×Lv×Int) ⊕ ((JF×Int×Lv) ⊕ (JF×JF×Lv))):=
 bif decide (t.2.2.2<(leaves.length:Int))then
 (MZ t.2.2.2 leaves.length).bind λi=>
 (leaves[i]?).bind λx=>
 (kn t.1 x).bind λids=>
 (loop (de n first leaves t ids) (t.1,t.2.1,t.2.2.1,0)).bind λq0=>
 match q0 with
 | .inl q4=>
  some (.inr (.inl (q4.1,q4.2.1,q4.2.2)))
 | .inr q5=>
  some (.inl (q5.1,q5.2.1,q5.2.2,Lx (t.2.2.2+1)))
 else
 some (.inr (.inr (t.1,t.2.1,t.2.2.1)))
def ff(s:JF)(n:LB)(first:Bool):Option (JF×Int×Lv):=
 (ii s n.Ll).bind λleaves=>
 (loop (fx n first leaves) (s,(⟨⟨[],[]⟩,[],[],[],[],[],0,0,0⟩:JF),(⟨0,0,0,⟨0,0⟩,0,0,false,0⟩:Lv),0)).bind λq0=>
 match q0 with
 | .inl q6=>
 some (q6.1,q6.2.1,q6.2.2)
 | .inr q7=>
 some (q7.1,0,(⟨0,0,0,⟨0,0⟩,0,0,false,0⟩:Lv))
def agW:Spec fam:=⟨[f0,Q1,gt],[f0,ge,QK],λa=>ff a.1 a.2.1 a.2.2.1⟩
def kA(s:JF)(node:Int):Option (JF×Int×Lv):=
 (bR s node).bind λx=>
 (
 bif ! x.2 then
  some true
 else
  bif ! x.1.Up then
  some true
  else
  bif decide ((s.Lc.length:Int)≥200)then
   some true
  else
   some (decide (s.Seq≥1048575))).bind λq=>
 bif q then
 some (s,0,(⟨0,0,0,⟨0,0⟩,0,0,false,0⟩:Lv))
 else
 (jS s node).bind λx1=>
 (
  bif x1.2 then
  (ka s x.1 x1.1).bind λx2=>
  bif x2.2.2.2 then
   some (.inr (x2.1,x2.2.1,x2.2.2.1))
  else
   some (.inl (x2.1,(⟨⟨[],[]⟩,[],[],[],[],[],0,0,0⟩:JF),(⟨0,0,0,⟨0,0⟩,0,0,false,0⟩:Lv)))
  else
  some (.inl (s,(⟨⟨[],[]⟩,[],[],[],[],[],0,0,0⟩:JF),(⟨0,0,0,⟨0,0⟩,0,0,false,0⟩:Lv))):Option ((JF×JF×Lv) ⊕ (JF×Int×Lv))).bind λq0=>
 match q0 with
 | .inl q1=>
  (ff q1.1 x.1 true).bind λx3=>
  bif x3.2.1 != 0 then
  some (x3.1,x3.2.1,x3.2.2)
  else
  (ff x3.1 x.1 false).bind λx4=>
  some (x4.1,x4.2.1,x4.2.2)
 | .inr q2=>
  some (q2.1,q2.2.1,q2.2.2)
def ahl:Spec fam:=⟨[f0,ge],[f0,ge,QK],λa=>kA a.1 a.2.1⟩
def gj(node:Int)(t:JF×List Lv×Int):Option ((JF×List Lv×Int) ⊕ ((JF×List Lv))):=
 bif decide (t.2.2<3)then
 (kA t.1 node).bind λx=>
 bif x.2.1 != 1 then
  some (.inr (x.1,t.2.1))
 else
  (app 72 t.2.1 [x.2.2]).bind λl=>
  some (.inl (x.1,l,Lx (t.2.2+1)))
 else
 some (.inr (t.1,t.2.1))
def jY(s:JF)(node:Int):Option (JF×List Lv):=
 (loop (gj node) (s,[],0)).bind λq=>
 some (q.1,q.2)
def aia:Spec fam:=⟨[f0,ge],[f0,QQ],λa=>jY a.1 a.2.1⟩
def gz(x:Input)(x3:JF×Int)(t:List Int×Int):Option ((List Int×Int) ⊕ List Int):=
 bif decide (t.2<(x.Ids.length:Int))then
 (
  (idx x.Ids t.2).bind λx5=>
  (a7 x3.1 x5).bind λx6=>
  (
  bif x6.2 then
   some (x6.1.LB == x.Id)
  else
   some false).bind λq1=>
  bif q1 then
  (app 8 t.1 [x6.1.Id]).bind λl=>
  some l
  else
  some t.1).bind λids=>
 some (.inl (ids,Lx (t.2+1)))
 else
 some (.inr t.1)
def j7(s:JF)(x:Input):Option (JF×Output):=
 (bR s x.Id).bind λx1=>
 (
 bif x1.2 then
  bif x1.1.Up then
  some (x1.1.Nf == x.Nf)
  else
  some false
 else
  some false).bind λq=>
 bif q then
 (fp s x.Id).bind λx2=>
 some (s,(⟨0,[],x2,[],0⟩:Output))
 else
 (kG s x.Id x.Nf).bind λx3=>
 bif x3.2 != 0 then
  (aI s x3.2).bind λx4=>
  some (x4.1,x4.2)
 else
  (loop (gz x x3) ([],0)).bind λaoG=>
  (bn x3.1 aoG).bind λx7=>
  (jY x7 x.Id).bind λx8=>
  (fp x8.1 x.Id).bind λx9=>
  some (x8.1,(⟨0,[],x9,[],0⟩:Output))
def am5:Spec fam:=⟨[f0,.v (.st 15) []],[f0,QS],λa=>j7 a.1 a.2.1⟩
def fW(n:Int):Option Bool:=
 bif decide (n≥1)then
 some (decide (n≤1073741824))
 else
 some false
def ah_:Spec fam:=⟨[ge],[gt],λa=>fW a.1⟩
def eS(s:JF)(t:List LD×Bool×Int):Option ((List LD×Bool×Int) ⊕ List LD):=
 bif decide (t.2.2<(s.Lr.length:Int))then
 (
  (
  bif ! t.2.1 then
   (idx s.Lr t.2.2).bind λx=>
   (aY x).bind λx1=>
   some (! x1)
  else
   some false).bind λq=>
  bif q then
  some (t.1,true)
  else
  (idx s.Lr t.2.2).bind λx2=>
  (app 200 t.1 [x2]).bind λl=>
  some (l,t.2.1)).bind λq1=>
 some (.inl (q1.1,q1.2,Lx (t.2.2+1)))
 else
 some (.inr t.1)
def ij(s:JF):Option JF:=
 (loop (eS s) ([],false,0)).bind λl1=>
 some (⟨⟨s.Lf.Lp,s.Lf.Lg⟩,s.Ls,l1,s.Lc,s.LG,s.LU,s.Now,s.L9,s.Seq⟩:JF)
def ah9:Spec fam:=⟨[f0],[.v (.st 10) [3]],λa=>ij a.1⟩
def cQ(s:JF)(t:Int×Int):Option ((Int×Int) ⊕ Int):=
 bif decide (t.2<(s.Lr.length:Int))then
 (
  (idx s.Lr t.2).bind λx3=>
  (aY x3).bind λx4=>
  bif x4 then
  some (Lx (t.1+1))
  else
  some t.1).bind λlive=>
 some (.inl (live,Lx (t.2+1)))
 else
 some (.inr t.1)
def iS(s:JF)(a:LD):Option (JF×Int):=
 (
 bif decide (a.Id<0)then
  some true
 else
  bif decide (a.Id>9999)then
  some true
  else
  bif decide (a.User<0)then
   some true
  else
   bif decide (a.User>99)then
   some true
   else
   bif decide (a.LA<0)then
    some true
   else
    bif decide (a.LA>9)then
    some true
    else
    (fW a.Lj.Mem).bind λx=>
    bif ! x then
     some true
    else
     (fW a.Lj.Lu).bind λx1=>
     some (! x1)).bind λq=>
 bif q then
 some (s,1)
 else
 (aG s a.Id).bind λx2=>
 bif x2.2 then
  some (s,7)
 else
  (loop (cQ s) (0,0)).bind λakt=>
  bif decide (akt≥16)then
  some (s,4)
  else
  (eH s.Lf a.Lm).bind λx5=>
  bif ! x5 then
   some (s,19)
  else
   (
   bif decide ((s.Lr.length:Int)≥16)then
    (ij s).bind λx6=>
    some x6
   else
    some s).bind λs1=>
   (jB a).bind λx7=>
   (aO s1 (⟨a.Id,1,a.Lm,a.User,a.LA,⟨a.Lj.Mem,a.Lj.Lu⟩,x7,s1.Now,0,[],[],[],[]⟩:LD)).bind λx8=>
   some (x8,0)
def am4:Spec fam:=⟨[f0,QF],[f0,ge],λa=>iS a.1 a.2.1⟩
def fw(s:JF)(ids:List Int)(t:List Lv×Int):Option ((List Lv×Int) ⊕ List Lv):=
 bif decide (t.2<(ids.length:Int))then
 (
  (idx ids t.2).bind λx=>
  (a7 s x).bind λx1=>
  bif x1.2 then
  (app 72 t.1 [x1.1]).bind λl=>
  some l
  else
  some t.1).bind λl1=>
 some (.inl (l1,Lx (t.2+1)))
 else
 some (.inr t.1)
def fe(s:JF)(ids:List Int):Option (List Lv):=
 (loop (fw s ids) ([],0)).bind λl2=>
 some l2
def ah6:Spec fam:=⟨[f0,t6],[QQ],λa=>fe a.1 a.2.1⟩
def dX(s:JF)(SE:Int)(t:List Int×Int):Option ((List Int×Int) ⊕ List Int):=
 bif decide (t.2<(s.Lc.length:Int))then
 (
  (
  (idx s.Lc t.2).bind λx=>
  bif x.LD == SE then
   (idx s.Lc t.2).bind λx1=>
   some (x1.ME != 0)
  else
   some false).bind λq=>
  bif q then
  (idx s.Lc t.2).bind λx2=>
  (app 8 t.1 [x2.Id]).bind λl=>
  some l
  else
  some t.1).bind λl1=>
 some (.inl (l1,Lx (t.2+1)))
 else
 some (.inr t.1)
def du(s:JF)(SE:Int):Option (List Int):=
 (loop (dX s SE) ([],0)).bind λl2=>
 some l2
def ah5:Spec fam:=⟨[f0,ge],[f8],λa=>du a.1 a.2.1⟩
def ky(n:Int):Option Bool:=
 bif decide (n≥1)then
 some (decide (n≤1073741824))
 else
 some false
def agV:Spec fam:=⟨[ge],[gt],λa=>ky a.1⟩
def j9(a:Ask)(labels:Int):Option Int:=
 (
 bif decide (a.LA<0)then
  some true
 else
  bif decide (a.LA>9)then
  some true
  else
  bif decide (a.Ll<0)then
   some true
  else
   bif decide (a.Ll≥labels)then
   some true
   else
   (ky a.LV.Mem).bind λx=>
   bif ! x then
    some true
   else
    (ky a.LV.Lu).bind λx1=>
    bif ! x1 then
    some true
    else
    bif decide (a.LB<(-1))then
     some true
    else
     bif decide (a.LB>999)then
     some true
     else
     bif decide (a.Oj<(-1))then
      some true
     else
      bif decide (a.Oj>99)then
      some true
      else
      bif decide (a.LB≥0)then
       some (decide (a.Oj<0))
      else
       some false).bind λq=>
 bif q then
 some 1
 else
 (
  bif decide (a.Mw<0)then
  some true
  else
  some (decide (a.Mw>50))).bind λq1=>
 bif q1 then
  some 4
 else
  some 0
def ahk:Spec fam:=⟨[QT,ge],[ge],λa=>j9 a.1 a.2.1⟩
def jx(l:List Ask)(a:Ask)(t:List Ask×Bool×Int):Option ((List Ask×Bool×Int) ⊕ ((List Ask×Bool))):=
 bif decide (t.2.2<(l.length:Int))then
 (
  (
  (
   bif ! t.2.1 then
   (idx l t.2.2).bind λx=>
   some (decide (x.LA>a.LA))
   else
   some false).bind λq=>
  bif q then
   (app 64 t.1 [(⟨a.LA,a.Ll,⟨a.LV.Mem,a.LV.Lu⟩,a.Mw,a.LB,a.Oj,0⟩:Ask)]).bind λl1=>
   some (l1,true)
  else
   some (t.1,t.2.1)).bind λq1=>
  (idx l t.2.2).bind λx1=>
  bif x1.LA != a.LA then
  (idx l t.2.2).bind λx2=>
  (app 64 q1.1 [x2]).bind λl2=>
  some (l2,q1.2)
  else
  some (q1.1,q1.2)).bind λq2=>
 some (.inl (q2.1,q2.2,Lx (t.2.2+1)))
 else
 some (.inr (t.1,t.2.1))
def lk(l:List Ask)(a:Ask):Option (List Ask×Int):=
 (loop (jx l a) ([],a.Mw == 0,0)).bind λq3=>
 (
 bif ! q3.2 then
  (app 64 q3.1 [(⟨a.LA,a.Ll,⟨a.LV.Mem,a.LV.Lu⟩,a.Mw,a.LB,a.Oj,0⟩:Ask)]).bind λl3=>
  some l3
 else
  some q3.1).bind λout=>
 bif decide ((out.length:Int)>8)then
 some ([],4)
 else
 some (out,0)
def ahj:Spec fam:=⟨[QZ,QT],[ac,ge],λa=>lk a.1 a.2.1⟩
def fK(s:JF)(more:List Ask)(t:List Ask×Int):Option ((List Ask×Int) ⊕ ((List Ask×Int) ⊕ List Ask)):=
 bif decide (t.2<(more.length:Int))then
 (idx more t.2).bind λx=>
 (j9 x (s.Lf.Lp.length:Int)).bind λe=>
 bif e != 0 then
  some (.inr (.inl ([],e)))
 else
  (idx more t.2).bind λx1=>
  (lk t.1 x1).bind λx2=>
  bif x2.2 != 0 then
  some (.inr (.inl ([],x2.2)))
  else
  some (.inl (x2.1,Lx (t.2+1)))
 else
 some (.inr (.inr (t.1)))
def jq(s:JF)(l:List Ask)(more:List Ask):Option (List Ask×Int):=
 (loop (fK s more) (l,0)).bind λq0=>
 match q0 with
 | .inl q=>
 some (q.1,q.2)
 | .inr l1=>
 some (l1,0)
def ah4:Spec fam:=⟨[f0,QZ,QZ],[QZ,ge],λa=>jq a.1 a.2.1 a.2.2.1⟩
def eQ(x:Input)(t:JF×LD×Int):Option ((JF×LD×Int) ⊕ ((JF×LD))):=
 bif decide (t.2.2<(x.Ids.length:Int))then
 (
  (idx x.Ids t.2.2).bind λx10=>
  (a7 t.1 x10).bind λPK=>
  (
  bif PK.2 then
   bif PK.1.LD == t.2.1.Id then
   some (! PK.1.Lj)
   else
   some false
  else
   some false).bind λq=>
  bif q then
  (dz t.1 PK.1.Id).bind λUc=>
  (cq t.2.1.Mv PK.1.Id).bind λUy=>
  some (Uc,(⟨t.2.1.Id,t.2.1.JF,t.2.1.Lm,t.2.1.User,t.2.1.LA,⟨t.2.1.Lj.Mem,t.2.1.Lj.Lu⟩,t.2.1.Mr,t.2.1.NZ,t.2.1.Nf,Uy.1,t.2.1.Nr,t.2.1.Told,t.2.1.N7⟩:LD))
  else
  some (t.1,t.2.1)).bind λq1=>
 some (.inl (q1.1,q1.2,Lx (t.2.2+1)))
 else
 some (.inr (t.1,t.2.1))
def iw(s:JF)(x:Input):Option (JF×Output):=
 (aG s x.Id).bind λx1=>
 bif ! x1.2 then
 (aI s 2).bind λx2=>
 some (x2.1,x2.2)
 else
 bif x1.1.JF != 2 then
  (aI s 14).bind λx3=>
  some (x3.1,x3.2)
 else
  bif decide (x.Nf<x1.1.Nf)then
  (aI s 15).bind λx4=>
  some (x4.1,x4.2)
  else
  bif x.Nf == x1.1.Nf then
   (fe s x1.1.Told).bind λx5=>
   (du s x1.1.Id).bind λx6=>
   (app 8 [] x1.1.N7).bind λl=>
   some (s,(⟨0,x5,x6,l,0⟩:Output))
  else
   bif decide ((Lx (x.Nf - 1))>x1.1.Nf)then
   (aI s 1).bind λx7=>
   some (x7.1,x7.2)
   else
   (jq s x1.1.Mr x.Mr).bind λx8=>
   bif x8.2 != 0 then
    (aI s x8.2).bind λx9=>
    some (x9.1,x9.2)
   else
    (loop (eQ x) (s,x1.1,0)).bind λq2=>
    (fe q2.1 q2.2.Mv).bind λWm=>
    (du q2.1 q2.2.Id).bind λXr=>
    (app 8 [] q2.2.Nr).bind λl1=>
    (aO q2.1 (⟨q2.2.Id,q2.2.JF,q2.2.Lm,q2.2.User,q2.2.LA,⟨q2.2.Lj.Mem,q2.2.Lj.Lu⟩,x8.1,q2.1.Now,x.Nf,[],[],q2.2.Mv,q2.2.Nr⟩:LD)).bind λx16=>
    some (x16,(⟨0,Wm,Xr,l1,0⟩:Output))
def am3:Spec fam:=⟨[f0,.v (.st 15) []],[f0,QS],λa=>iw a.1 a.2.1⟩
def kL(s:JF)(N_:Int)(state:Int):Option (JF×List Int):=
 (aG s N_).bind λx=>
 (
 bif ! x.2 then
  some true
 else
  (aY x.1).bind λx1=>
  some (! x1)).bind λq=>
 bif q then
 some (s,[])
 else
 (aO s (⟨x.1.Id,state,x.1.Lm,x.1.User,x.1.LA,⟨x.1.Lj.Mem,x.1.Lj.Lu⟩,[],x.1.NZ,x.1.Nf,[],[],[],[]⟩:LD)).bind λx2=>
 (dB x2 N_).bind λx3=>
 some (x3.1,x3.2)
def ah1:Spec fam:=⟨[f0,ge,ge],[f0,f8],λa=>kL a.1 a.2.1 a.2.2.1⟩
def ic(s:JF)(N_:Int)(state:Int):Option (JF×Output):=
 (aG s N_).bind λx=>
 bif ! x.2 then
 (aI s 2).bind λx1=>
 some (x1.1,x1.2)
 else
 (aY x.1).bind λx2=>
 bif ! x2 then
  (aI s 14).bind λx3=>
  some (x3.1,x3.2)
 else
  (kL s N_ state).bind λx4=>
  some (x4.1,(⟨0,[],[],x4.2,0⟩:Output))
def am2:Spec fam:=⟨[f0,ge,ge],[f0,QS],λa=>ic a.1 a.2.1 a.2.2.1⟩
def eW(l:List Ask)(label:Int)(t:Vec×Int):Option ((Vec×Int) ⊕ Vec):=
 bif decide (t.2<(l.length:Int))then
 (
  (idx l t.2).bind λx=>
  bif x.Ll == label then
  (idx l t.2).bind λx1=>
  (idx l t.2).bind λx2=>
  (idx l t.2).bind λx3=>
  (idx l t.2).bind λx4=>
  (aD t.1 (⟨Lx (x1.LV.Mem*x2.Mw),Lx (x3.LV.Lu*x4.Mw)⟩:Vec)).bind λx5=>
  some x5
  else
  some t.1).bind λv=>
 some (.inl (v,Lx (t.2+1)))
 else
 some (.inr t.1)
def iR(l:List Ask)(label:Int):Option Vec:=
 (loop (eW l label) ((⟨0,0⟩:Vec),0)).bind λv1=>
 some v1
def ahH:Spec fam:=⟨[QZ,ge],[pp],λa=>iR a.1 a.2.1⟩
def d6(s:JF)(Ld:List UInt8)(label:Int)(t:Vec×Int):Option ((Vec×Int) ⊕ Vec):=
 bif decide (t.2<(s.Lr.length:Int))then
 (
  (
  (idx s.Lr t.2).bind λx=>
  (aY x).bind λx1=>
  bif x1 then
   (idx s.Lr t.2).bind λx2=>
   (eZ x2.Lm Ld).bind λx3=>
   some x3
  else
   some false).bind λq=>
  bif q then
  (idx s.Lr t.2).bind λx4=>
  (iR x4.Mr label).bind λx5=>
  (aD t.1 x5).bind λx6=>
  some x6
  else
  some t.1).bind λv=>
 some (.inl (v,Lx (t.2+1)))
 else
 some (.inr t.1)
def dJ(s:JF)(Ld:List UInt8)(label:Int):Option Vec:=
 (loop (d6 s Ld label) ((⟨0,0⟩:Vec),0)).bind λv1=>
 some v1
def amE:Spec fam:=⟨[f0,ne,ge],[pp],λa=>dJ a.1 a.2.1 a.2.2.1⟩
def bG(n:Int):Option Int:=
 (
 bif decide (n<0)then
  some true
 else
  some (decide (n>1125899906842624))).bind λq=>
 bif q then
 some 0
 else
 some n
def ag6:Spec fam:=⟨[ge],[ge],λa=>bG a.1⟩
def bL(want:List Int)(most:List Int)(n:Int)(t1:Int×List Int×Int):Option ((Int×List Int×Int) ⊕ List Int):=
 bif decide (t1.2.2<n)then
 (idx want t1.2.2).bind λx7=>
 (bG x7).bind λx8=>
 (idx most t1.2.2).bind λx9=>
 (bG x9).bind λx10=>
 (MZ t1.2.2 t1.2.1.length).bind λi=>
 (t1.2.1[i]?).bind λPK=>
 let Uc:=Mj (imax (Lx ((Mj x8 x10) - PK)) 0) t1.1
 (MZ t1.2.2 t1.2.1.length).bind λi1=>
 (t1.2.1[i1]?).bind λUy=>
 (MZ t1.2.2 t1.2.1.length).bind λi2=>
 (t1.2.1[i2]?).bind λWm=>
 some (.inl (Lx (t1.1 - Uc),List.set t1.2.1 i2 (Lx (Uy+Uc)),Lx (t1.2.2+1)))
 else
 some (.inr t1.2.1)
def bK(least:List Int)(want:List Int)(most:List Int)(n:Int)(t:Int×List Int×Int):Option ((Int×List Int×Int) ⊕ ((Int×List Int))):=
 bif decide (t.2.2<n)then
 (idx least t.2.2).bind λx=>
 (bG x).bind λx1=>
 (idx want t.2.2).bind λx2=>
 (bG x2).bind λx3=>
 (idx most t.2.2).bind λx4=>
 (bG x4).bind λx5=>
 let x6:=Mj (Mj (Mj x1 x3) x5) t.1
 (app 8 t.2.1 [x6]).bind λl=>
 some (.inl (Lx (t.1 - x6),l,Lx (t.2.2+1)))
 else
 some (.inr (t.1,t.2.1))
def cZ(total:Int)(least:List Int)(want:List Int)(most:List Int):Option (List Int):=
 let n:=Mj (Mj (least.length:Int) (want.length:Int)) (most.length:Int)
 (bG total).bind λleft=>
 (loop (bK least want most n) (left,[],0)).bind λq=>
 (loop (bL want most n) (q.1,q.2,0)).bind λout=>
 some out
def ahJ:Spec fam:=⟨[ge,t6,t6,t6],[f8],λa=>cZ a.1 a.2.1 a.2.2.1 a.2.2.2.1⟩
def be(s:JF)(label:Int)(self:JF→(List UInt8)→Int→Int→Option (List MC))(kids:List (List UInt8))(x8:List Int)(t1:List MC×Int):Option ((List MC×Int) ⊕ List MC):=
 bif decide (t1.2<(kids.length:Int))then
 (MZ t1.2 kids.length).bind λi4=>
 (kids[i4]?).bind λx9=>
 (MZ t1.2 x8.length).bind λi5=>
 (x8[i5]?).bind λx10=>
 (self s x9 label x10).bind λPK=>
 (app 24 t1.1 PK).bind λl3=>
 some (.inl (l3,Lx (t1.2+1)))
 else
 some (.inr t1.1)
def bA(s:JF)(label:Int)(kids:List (List UInt8))(t:List Int×List Int×List Int×Int):Option ((List Int×List Int×List Int×Int) ⊕ ((List Int×List Int×List Int))):=
 bif decide (t.2.2.2<(kids.length:Int))then
 (MZ t.2.2.2 kids.length).bind λi=>
 (kids[i]?).bind λx=>
 (bI s x label).bind λx1=>
 (app 8 t.1 [x1.Mem]).bind λl=>
 (MZ t.2.2.2 kids.length).bind λi1=>
 (kids[i1]?).bind λx2=>
 (hZ s x2 label).bind λx3=>
 (app 8 t.2.2.1 [x3.Mem]).bind λl1=>
 (MZ t.2.2.2 kids.length).bind λi2=>
 (kids[i2]?).bind λx4=>
 (aP s x4 label).bind λx5=>
 (MZ t.2.2.2 kids.length).bind λi3=>
 (kids[i3]?).bind λx6=>
 (dJ s x6 label).bind λx7=>
 (app 8 t.2.1 [Lx (x5.Mem+x7.Mem)]).bind λl2=>
 some (.inl (l,l2,l1,Lx (t.2.2.2+1)))
 else
 some (.inr (t.1,t.2.1,t.2.2.1))
def bi(self:JF→(List UInt8)→Int→Int→Option (List MC))(s:JF)(Ld:List UInt8)(label:Int)(mem:Int):Option (List MC):=
 (cb s.Lf Ld).bind λkids=>
 bif(kids.length:Int) == 0 then
 some [(⟨Ld,mem⟩:MC)]
 else
 (loop (bA s label kids) ([],[],[],0)).bind λq=>
 (cZ mem q.1 q.2.1 q.2.2).bind λx8=>
 (loop (be s label self kids x8) ([],0)).bind λout=>
 some out
def aV:Nat→JF→(List UInt8)→Int→Int→Option (List MC)
 | 0=>λ_ _ _ _=>none
 | n+1=>bi (aV n)
def j_(a0:JF)(a1:List UInt8)(a2:Int)(a3:Int):Option (List MC):=aV 64 a0 a1 a2 a3
def h83:Hint:=(Qf (.s .z (Qf (.s .z (.s (Qf ((Qg [(10,f8),(11,f8),(12,f8),(13,ge)] [10,11,12,13] [(2,[(10,f8),(11,f8),(12,f8)])] .z))) (Qf (.s .z (.s (Qf ((Qg [(15,QC),(16,ge)] [15,16] [(4,[(15,QC)])] .z))) .z))))))))
def amH:Spec fam:=⟨[f0,ne,ge,ge],[QC],λa=>j_ a.1 a.2.1 a.2.2.1 a.2.2.2.1⟩
def KQ(n:Nat):Spec fam:=⟨[.v (.st 10) [],.v .str [],.v (.int .i64) [],.v (.int .i64) []],[.v (.slice (.st 16)) [0]],λa=>aV n a.1 a.2.1 a.2.2.1 a.2.2.2.1⟩
def bz(l:List MC)(t:List MC×Int)(k:Int):Option (Int ⊕ Int):=
 (
 bif decide (k<(t.1.length:Int))then
  (MZ k t.1.length).bind λi=>
  (t.1[i]?).bind λx1=>
  (MZ t.2 l.length).bind λi1=>
  (l[i1]?).bind λx2=>
  some (Op.bytesLess x1.LC x2.LC)
 else
  some false).bind λq=>
 bif q then
 some (.inl (Lx (k+1)))
 else
 some (.inr k)
def bf(l:List MC)(t:List MC×Int):Option ((List MC×Int) ⊕ List MC):=
 bif decide (t.2<(l.length:Int))then
 (loop (bz l t) 0).bind λk1=>
 (OQ 0 k1 t.1.length).bind λp=>
 (app 24 [] (sub t.1 p.1 p.2)).bind λl1=>
 (MZ t.2 l.length).bind λi2=>
 (l[i2]?).bind λx3=>
 (app 24 l1 [x3]).bind λl2=>
 (OQ k1 (t.1.length:Int) t.1.length).bind λp1=>
 (app 24 l2 (sub t.1 p1.1 p1.2)).bind λl3=>
 some (.inl (l3,Lx (t.2+1)))
 else
 some (.inr t.1)
def bY(s:JF)(label:Int):Option (List MC):=
 (bV s label).bind λx=>
 (j_ s ([114,111,111,116]:List UInt8) label x.Mem).bind λl=>
 (loop (bf l) ([],0)).bind λout=>
 some out
def anw:Spec fam:=⟨[f0,ge],[QC],λa=>bY a.1 a.2.1⟩
def fF(s:JF)(Ld:List UInt8)(label:Int)(x:Vec)(x1:Vec)(x2:LD)(k:Int):Option (Int ⊕ (Int ⊕ Unit)):=
 (
 bif decide (k<(x2.Mr.length:Int))then
  (aY x2).bind λx3=>
  bif x3 then
  some (x2.Lm == Ld)
  else
  some false
 else
  some false).bind λq=>
 bif q then
 (
  (idx x2.Mr k).bind λx4=>
  bif x4.Ll == label then
  (idx x2.Mr k).bind λx5=>
  some (decide ((Lx (x5.LV.Mem+x.Mem))≤x1.Mem))
  else
  some false).bind λq1=>
 bif q1 then
  (dJ s Ld label).bind λx6=>
  some (.inr (.inl (Mj x6.Mem (Lx (x1.Mem - x.Mem)))))
 else
  some (.inl (Lx (k+1)))
 else
 some (.inr (.inr ()))
def fu(s:JF)(Ld:List UInt8)(label:Int)(x:Vec)(x1:Vec)(i:Int):Option (Int ⊕ (Int ⊕ Unit)):=
 bif decide (i<(s.Lr.length:Int))then
 (idx s.Lr i).bind λx2=>
 (loop (fF s Ld label x x1 x2) 0).bind λq0=>
 match q0 with
 | .inl q2=>
  some (.inr (.inl q2))
 | .inr _=>
  some (.inl (Lx (i+1)))
 else
 some (.inr (.inr ()))
def jy(s:JF)(Ld:List UInt8)(label:Int):Option Int:=
 (aP s Ld label).bind λx=>
 (bI s Ld label).bind λx1=>
 (loop (fu s Ld label x x1) 0).bind λq0=>
 match q0 with
 | .inl q3=>
 some q3
 | .inr _=>
 some 0
def anu:Spec fam:=⟨[f0,ne,ge],[ge],λa=>jy a.1 a.2.1 a.2.2.1⟩
def cB(s:JF)(c:Lv):Option (List UInt8):=
 (aG s c.LD).bind λx=>
 some x.1.Lm
def amD:Spec fam:=⟨[f0,QK],[ne],λa=>cB a.1 a.2.1⟩
def fa(l:List Int)(n:Int)(i:Int):Option (Int ⊕ (Bool ⊕ Unit)):=
 bif decide (i<(l.length:Int))then
 (idx l i).bind λx=>
 bif x == n then
  some (.inr (.inl true))
 else
  some (.inl (Lx (i+1)))
 else
 some (.inr (.inr ()))
def fm(l:List Int)(n:Int):Option Bool:=
 (loop (fa l n) 0).bind λq0=>
 match q0 with
 | .inl q=>
 some q
 | .inr _=>
 some false
def amC:Spec fam:=⟨[t6,ge],[gt],λa=>fm a.1 a.2.1⟩
def eP(s:JF)(Ld:List UInt8)(label:Int)(l:List Int)(t:Int×Int):Option ((Int×Int) ⊕ Int):=
 bif decide (t.2<(s.Lc.length:Int))then
 (
  (idx s.Lc t.2).bind λx=>
  (
  bif x.Ll == label then
   bif Ld == ([]:List UInt8)then
   bif x.ME != 0 then
    some true
   else
    (fm l x.Id).bind λx1=>
    some x1
   else
   (cB s x).bind λx2=>
   bif x2 == Ld then
    bif x.ME != 0 then
    some true
    else
    (fm l x.Id).bind λx3=>
    some x3
   else
    some false
  else
   some false).bind λq=>
  bif q then
  let n:=Lx (t.1+x.LV.Mem)
  some n
  else
  some t.1).bind λn1=>
 some (.inl (n1,Lx (t.2+1)))
 else
 some (.inr t.1)
def ez(s:JF)(Ld:List UInt8)(label:Int)(l:List Int):Option Int:=
 (loop (eP s Ld label l) (0,0)).bind λn2=>
 some n2
def ant:Spec fam:=⟨[f0,ne,ge,t6],[ge],λa=>ez a.1 a.2.1 a.2.2.1 a.2.2.2.1⟩
def eO(s:JF)(Ld:List UInt8)(label:Int)(l:List Int)(t:Lv×Bool×Int):Option ((Lv×Bool×Int) ⊕ ((Lv×Bool))):=
 bif decide (t.2.2<(s.Lc.length:Int))then
 (
  (idx s.Lc t.2.2).bind λx=>
  (
  bif x.Ll != label then
   some true
  else
   (cB s x).bind λx1=>
   bif ! (x1 == Ld)then
   some true
   else
   bif x.ME != 0 then
    some true
   else
    (fm l x.Id).bind λx2=>
    some x2).bind λq=>
  bif q then
  some (t.1,t.2.1)
  else
  (
   bif ! t.2.1 then
   some true
   else
   bif t.1.Lj then
    bif ! x.Lj then
    some true
    else
    bif t.1.Lj == x.Lj then
     some (decide (x.Id>t.1.Id))
    else
     some false
   else
    bif t.1.Lj == x.Lj then
    some (decide (x.Id>t.1.Id))
    else
    some false).bind λq1=>
  bif q1 then
   some (x,true)
  else
   some (t.1,t.2.1)).bind λq2=>
 some (.inl (q2.1,q2.2,Lx (t.2.2+1)))
 else
 some (.inr (t.1,t.2.1))
def iM(s:JF)(Ld:List UInt8)(label:Int)(l:List Int):Option (Lv×Bool):=
 (loop (eO s Ld label l) ((⟨0,0,0,⟨0,0⟩,0,0,false,0⟩:Lv),false,0)).bind λq3=>
 some (q3.1,q3.2)
def anr:Spec fam:=⟨[f0,ne,ge,t6],[QK,gt],λa=>iM a.1 a.2.1 a.2.2.1 a.2.2.2.1⟩
def gi(s:JF)(label:Int)(shares:List MC)(l:List Int)(t1:Int×Lv×Int):Option ((Int×Lv×Int) ⊕ ((Int×Lv))):=
 bif decide (t1.2.2<(shares.length:Int))then
 (
  (MZ t1.2.2 shares.length).bind λi1=>
  (shares[i1]?).bind λx5=>
  (aP s x5.LC label).bind λx6=>
  (MZ t1.2.2 shares.length).bind λi2=>
  (shares[i2]?).bind λx7=>
  (ez s x5.LC label l).bind λx8=>
  let over:=Lx ((Lx (x6.Mem - x7.Mem)) - x8)
  (iM s x5.LC label l).bind λx9=>
  (
  bif x9.2 then
   some (decide (over>t1.1))
  else
   some false).bind λq=>
  bif q then
  some (over,x9.1)
  else
  some (t1.1,t1.2.1)).bind λq1=>
 some (.inl (q1.1,q1.2,Lx (t1.2.2+1)))
 else
 some (.inr (t1.1,t1.2.1))
def nH(s:JF)(label:Int)(shares:List MC)(Zh:Int)(l:List Int):Option (List Int ⊕ (List Int ⊕ List Int)):=
 (ez s ([]:List UInt8) label l).bind λx4=>
 bif decide (x4<Zh)then
 (loop (gi s label shares l) (0,(⟨0,0,0,⟨0,0⟩,0,0,false,0⟩:Lv),0)).bind λq2=>
 bif q2.1 == 0 then
  some (.inr (.inl l))
 else
  (app 8 l [q2.2.Id]).bind λl1=>
  some (.inl l1)
 else
 some (.inr (.inr l))
def gd(s:JF)(label:Int)(shares:List MC)(t:Int×Int):Option ((Int×Int) ⊕ Int):=
 bif decide (t.2<(shares.length:Int))then
 (MZ t.2 shares.length).bind λi=>
 (shares[i]?).bind λx2=>
 (jy s x2.LC label).bind λx3=>
 some (.inl (Lx (t.1+x3),Lx (t.2+1)))
 else
 some (.inr t.1)
def jW(s:JF)(label:Int):Option (List Int):=
 (bY s label).bind λshares=>
 (bV s label).bind λx=>
 (aP s ([114,111,111,116]:List UInt8) label).bind λx1=>
 let need:=Lx (0 - (imax (Lx (x.Mem - x1.Mem)) 0))
 (loop (gd s label shares) (need,0)).bind λZh=>
 (loop (nH s label shares Zh) []).bind λq0=>
 match q0 with
 | .inl q3=>
 some q3
 | .inr l2=>
 some l2
def h11:Hint:=(Qf (.s .z (Qf (.s (Qf ((Qg [(6,ge),(7,ge)] [6,7] [(2,[(6,ge)])] .z))) (Qf (.s ((Qg [(8,f8)] [4,8,9,10,11,12,13,14,94] [(1,[(4,f8)]),(4,[(8,f8)])] (Qf (.b (Qf (.s (Qf ((Qg [(9,ge),(10,QY),(11,ge)] [9,10,11,12,13,14,94] [(6,[(9,ge),(10,QY)])] (Qf (.s (.j [9,10,12,13,14,94] [(0,[(9,ge),(10,QY)])] (.b (Qf (.s .z (Qf (.s (.j [] [(0,[(94,gt)])] .z) .z)))))) .z))))) .z)))))) .z))))))
def anQ:Spec fam:=⟨[f0,ge],[f8],λa=>jW a.1 a.2.1⟩
def bE(Ld:List UInt8)(l:List MC)(i:Int):Option (Int ⊕ (Int ⊕ Unit)):=
 bif decide (i<(l.length:Int))then
 (MZ i l.length).bind λi1=>
 (l[i1]?).bind λx=>
 bif x.LC == Ld then
  (MZ i l.length).bind λi2=>
  (l[i2]?).bind λx1=>
  some (.inr (.inl (x1.Mem)))
 else
  some (.inl (Lx (i+1)))
 else
 some (.inr (.inr ()))
def cU(s:JF)(label:Int)(Ld:List UInt8):Option Int:=
 (bY s label).bind λl=>
 (loop (bE Ld l) 0).bind λq0=>
 match q0 with
 | .inl q=>
 some q
 | .inr _=>
 some 0
def anJ:Spec fam:=⟨[f0,ge,ne],[ge],λa=>cU a.1 a.2.1 a.2.2.1⟩
def bT(N_:Int)(t:Int)(t1:List Lv×Int):Option ((List Lv×Int) ⊕ List Lv):=
 bif decide (t1.2<(t1.1.length:Int))then
 (
  (MZ t1.2 t1.1.length).bind λi=>
  (t1.1[i]?).bind λx=>
  bif x.Id == N_ then
  (MZ t1.2 t1.1.length).bind λi1=>
  (t1.1[i1]?).bind λx1=>
  some (List.set t1.1 i1 (⟨x1.Id,x1.LD,x1.LB,⟨x1.LV.Mem,x1.LV.Lu⟩,x1.LA,x1.Ll,x1.Lj,t⟩:Lv))
  else
  some t1.1).bind λl1=>
 some (.inl (l1,Lx (t1.2+1)))
 else
 some (.inr t1.1)
def cw(s:JF)(N_:Int)(t:Int):Option JF:=
 (app 72 [] s.Lc).bind λl=>
 (loop (bT N_ t) (l,0)).bind λl2=>
 some (⟨⟨s.Lf.Lp,s.Lf.Lg⟩,s.Ls,s.Lr,l2,s.LG,s.LU,s.Now,s.L9,s.Seq⟩:JF)
def anh:Spec fam:=⟨[f0,ge,ge],[.v (.st 10) [4]],λa=>cw a.1 a.2.1 a.2.2.1⟩
def bg(s:JF)(c:Lv)(t:Int×Int):Option ((Int×Int) ⊕ Int):=
 (
 bif decide (t.2<(s.Lc.length:Int))then
  some c.Lj
 else
  some false).bind λq=>
 bif q then
 (
  (
  (idx s.Lc t.2).bind λx=>
  bif x.LD == c.LD then
   (idx s.Lc t.2).bind λx1=>
   bif x1.Id != c.Id then
   (idx s.Lc t.2).bind λx2=>
   some (x2.Ll == c.Ll)
   else
   some false
  else
   some false).bind λq1=>
  bif q1 then
  (idx s.Lc t.2).bind λx3=>
  let n:=Lx (t.1+x3.LV.Mem)
  some n
  else
  some t.1).bind λn1=>
 some (.inl (n1,Lx (t.2+1)))
 else
 some (.inr t.1)
def cK(s:JF)(c:Lv):Option Int:=
 (loop (bg s c) (0,0)).bind λn2=>
 some n2
def ais:Spec fam:=⟨[f0,QK],[ge],λa=>cK a.1 a.2.1⟩
def a9(label:Int)(l2:List Lv)(t1:JF×Int):Option ((JF×Int) ⊕ JF):=
 bif decide (t1.2<(l2.length:Int))then
 (
  (MZ t1.2 l2.length).bind λi1=>
  (l2[i1]?).bind λx1=>
  (a7 t1.1 x1.Id).bind λx2=>
  bif ! x2.2 then
  some t1.1
  else
  (cB t1.1 x2.1).bind λx3=>
  (aP t1.1 x3 label).bind λx4=>
  (cK t1.1 x2.1).bind λx5=>
  (cB t1.1 x2.1).bind λx6=>
  (cU t1.1 label x6).bind λx7=>
  bif decide ((Lx (x4.Mem - x5))>x7)then
   (bn t1.1 [x2.1.Id]).bind λx8=>
   some x8
  else
   (cw t1.1 x2.1.Id 0).bind λx9=>
   some x9).bind λs1=>
 some (.inl (s1,Lx (t1.2+1)))
 else
 some (.inr t1.1)
def cp(s:JF)(label:Int)(t:List Lv×Int):Option ((List Lv×Int) ⊕ List Lv):=
 bif decide (t.2≥0)then
 (
  (idx s.Lc t.2).bind λx=>
  (
  bif x.Ll == label then
   bif x.ME != 0 then
   some (decide ((Lx (x.ME+3))≤s.Now))
   else
   some false
  else
   some false).bind λq=>
  bif q then
  (app 72 t.1 [x]).bind λl=>
  some l
  else
  some t.1).bind λl1=>
 some (.inl (l1,Lx (t.2 - 1)))
 else
 some (.inr t.1)
def cC(s:JF)(label:Int):Option JF:=
 let i:=Lx ((s.Lc.length:Int) - 1)
 (loop (cp s label) ([],i)).bind λl2=>
 (loop (a9 label l2) (s,0)).bind λs2=>
 some s2
def ani:Spec fam:=⟨[f0,ge],[f0],λa=>cC a.1 a.2.1⟩
def gu(was:JF)(now:JF)(t:List Int×Int):Option ((List Int×Int) ⊕ List Int):=
 bif decide (t.2<(was.Lc.length:Int))then
 (
  (idx was.Lc t.2).bind λx=>
  (a7 now x.Id).bind λx1=>
  bif ! x1.2 then
  (idx was.Lc t.2).bind λx2=>
  (app 8 t.1 [x2.Id]).bind λl=>
  some l
  else
  some t.1).bind λl1=>
 some (.inl (l1,Lx (t.2+1)))
 else
 some (.inr t.1)
def fN(was:JF)(now:JF):Option (List Int):=
 (loop (gu was now) ([],0)).bind λl2=>
 some l2
def h45:Hint:=Qn
def ang:Spec fam:=⟨[f0,f0],[f8],λa=>fN a.1 a.2.1⟩
def fH(l:List Int)(t1:JF×Int):Option ((JF×Int) ⊕ JF):=
 bif decide (t1.2<(l.length:Int))then
 (MZ t1.2 l.length).bind λi=>
 (l[i]?).bind λx1=>
 (cw t1.1 x1 (imax t1.1.Now 1)).bind λx2=>
 some (.inl (x2,Lx (t1.2+1)))
 else
 some (.inr t1.1)
def mS(t:JF×Int):Option ((JF×Int) ⊕ JF):=
 bif decide (t.2<(t.1.Lf.Lp.length:Int))then
 (cC t.1 t.2).bind λx=>
 (jW x t.2).bind λl=>
 (loop (fH l) (x,0)).bind λs1=>
 some (.inl (s1,Lx (t.2+1)))
 else
 some (.inr t.1)
def jC(s:JF):Option (JF×List Int):=
 (loop mS (s,0)).bind λs2=>
 (fN s s2).bind λx3=>
 some (s2,x3)
def anO:Spec fam:=⟨[f0],[f0,f8],λa=>jC a.1⟩
def fJ(s:JF)(t:List Int×Int):Option ((List Int×Int) ⊕ List Int):=
 bif decide (t.2<(s.Ls.length:Int))then
 (
  (
  (idx s.Ls t.2).bind λx=>
  bif x.Up then
   (idx s.Ls t.2).bind λx1=>
   some (decide ((Lx (s.Now - x1.NZ))≥10))
  else
   some false).bind λq=>
  bif q then
  (idx s.Ls t.2).bind λx2=>
  (app 8 t.1 [x2.Id]).bind λl=>
  some l
  else
  some t.1).bind λl1=>
 some (.inl (l1,Lx (t.2+1)))
 else
 some (.inr t.1)
def js(s:JF):Option (List Int):=
 (loop (fJ s) ([],0)).bind λl2=>
 some l2
def ah0:Spec fam:=⟨[f0],[f8],λa=>js a.1⟩
def kz(s:JF)(N_:Int):Option JF:=
 (bR s N_).bind λx=>
 bif ! x.2 then
 some s
 else
 (dn s (⟨x.1.Id,x.1.Ll,x.1.Oj,⟨x.1.Cap.Mem,x.1.Cap.Lu⟩,x.1.NZ,x.1.Nf,false⟩:LB)).bind λx1=>
 some x1
def ahY:Spec fam:=⟨[f0,ge],[f0],λa=>kz a.1 a.2.1⟩
def eU(s:JF)(t:List Int×Int):Option ((List Int×Int) ⊕ List Int):=
 bif decide (t.2<(s.Lr.length:Int))then
 (
  (
  (idx s.Lr t.2).bind λx=>
  bif x.JF == 2 then
   (idx s.Lr t.2).bind λx1=>
   some (decide ((Lx (s.Now - x1.NZ))≥15))
  else
   some false).bind λq=>
  bif q then
  (idx s.Lr t.2).bind λx2=>
  (app 8 t.1 [x2.Id]).bind λl=>
  some l
  else
  some t.1).bind λl1=>
 some (.inl (l1,Lx (t.2+1)))
 else
 some (.inr t.1)
def iE(s:JF):Option (List Int):=
 (loop (eU s) ([],0)).bind λl2=>
 some l2
def ahX:Spec fam:=⟨[f0],[f8],λa=>iE a.1⟩
def gO(s:JF)(SE:Int)(i:Int):Option (Int ⊕ (Int ⊕ Unit)):=
 bif decide (i<(s.Lc.length:Int))then
 (
  (idx s.Lc i).bind λx=>
  bif x.LD == SE then
  (idx s.Lc i).bind λx1=>
  some x1.Lj
  else
  some false).bind λq=>
 bif q then
  (idx s.Lc i).bind λx2=>
  some (.inr (.inl (x2.Id)))
 else
  some (.inl (Lx (i+1)))
 else
 some (.inr (.inr ()))
def kj(s:JF)(SE:Int):Option Int:=
 (loop (gO s SE) 0).bind λq0=>
 match q0 with
 | .inl q1=>
 some q1
 | .inr _=>
 some (-1)
def ahW:Spec fam:=⟨[f0,ge],[ge],λa=>kj a.1 a.2.1⟩
def gw(s2:JF)(t2:List MW×Int):Option ((List MW×Int) ⊕ List MW):=
 bif decide (t2.2<(s2.LU.length:Int))then
 (
  (idx s2.LU t2.2).bind λUc=>
  bif decide (Uc.Until>s2.Now)then
  (idx s2.LU t2.2).bind λUy=>
  (app 48 t2.1 [Uy]).bind λl2=>
  some l2
  else
  some t2.1).bind λps=>
 some (.inl (ps,Lx (t2.2+1)))
 else
 some (.inr t2.1)
def gf(l1:List Int)(t1:JF×Int):Option ((JF×Int) ⊕ JF):=
 bif decide (t1.2<(l1.length:Int))then
 (MZ t1.2 l1.length).bind λi3=>
 (l1[i3]?).bind λx9=>
 (kj t1.1 x9).bind λx10=>
 (bn t1.1 [x10]).bind λPK=>
 some (.inl (PK,Lx (t1.2+1)))
 else
 some (.inr t1.1)
def gC(l:List Int)(t:JF×Int):Option ((JF×Int) ⊕ JF):=
 bif decide (t.2<(l.length:Int))then
 (MZ t.2 l.length).bind λi=>
 (l[i]?).bind λx2=>
 (kz t.1 x2).bind λx3=>
 (MZ t.2 l.length).bind λi1=>
 (l[i1]?).bind λx4=>
 (cJ x3 x4).bind λx5=>
 (MZ t.2 l.length).bind λi2=>
 (l[i2]?).bind λx6=>
 (fp x5 x6).bind λx7=>
 (bn x5 x7).bind λx8=>
 some (.inl (x8,Lx (t.2+1)))
 else
 some (.inr t.1)
def jO(s:JF)(n:Int):Option (JF×Output):=
 (
 bif decide (n<1)then
  some true
 else
  some (decide (n>100))).bind λq=>
 bif q then
 (aI s 1).bind λx=>
 some (x.1,x.2)
 else
 bif decide ((Lx (s.Now+n))>1000000000)then
  (aI s 11).bind λx1=>
  some (x1.1,x1.2)
 else
  (js (⟨⟨s.Lf.Lp,s.Lf.Lg⟩,s.Ls,s.Lr,s.Lc,s.LG,s.LU,Lx (s.Now+n),s.L9,s.Seq⟩:JF)).bind λl=>
  (loop (gC l) ((⟨⟨s.Lf.Lp,s.Lf.Lg⟩,s.Ls,s.Lr,s.Lc,s.LG,s.LU,Lx (s.Now+n),s.L9,s.Seq⟩:JF),0)).bind λs1=>
  (iE s1).bind λl1=>
  (loop (gf l1) (s1,0)).bind λs2=>
  (loop (gw s2) ([],0)).bind λps1=>
  (jC (⟨⟨s2.Lf.Lp,s2.Lf.Lg⟩,s2.Ls,s2.Lr,s2.Lc,s2.LG,ps1,s2.Now,s2.L9,s2.Seq⟩:JF)).bind λWm=>
  (fN s Wm.1).bind λXr=>
  some (Wm.1,(⟨0,[],[],Xr,0⟩:Output))
def h63:Hint:=(Qf (.s XR (Qf (.s .z (Qf (.s .z (.s (Qf ((Qg [(2,t7),(8,ge)] [2,8] [(2,[(2,t7)])] .z))) (Qf (.s (Qf ((Qg [(2,t7),(9,ge)] [2,9] [(4,[(2,t7)])] .z))) (Qf (.s (Qf ((Qg [(10,QL),(11,ge)] [10,11] [(6,[(10,QL)])] (Qf (.s (.j [10] [(0,[(10,QL)])] .z) .z))))) .z)))))))))))
def am1:Spec fam:=⟨[f0,ge],[f0,QS],λa=>jO a.1 a.2.1⟩
def kc(n:Int):Option Bool:=
 bif decide (n≥0)then
 some (decide (n≤1073741824))
 else
 some false
def ahi:Spec fam:=⟨[ge],[gt],λa=>kc a.1⟩
def jA(l:List MW)(label:Int)(t:Int)(t1:Vec×Int):Option ((Vec×Int) ⊕ Vec):=
 bif decide (t1.2<(l.length:Int))then
 (
  (
  (idx l t1.2).bind λx=>
  bif x.Ll == label then
   (idx l t1.2).bind λx1=>
   bif decide (x1.From≤t)then
   (idx l t1.2).bind λx2=>
   some (decide (t<x2.Until))
   else
   some false
  else
   some false).bind λq=>
  bif q then
  (idx l t1.2).bind λx3=>
  (aD t1.1 x3.Need).bind λx4=>
  some x4
  else
  some t1.1).bind λv=>
 some (.inl (v,Lx (t1.2+1)))
 else
 some (.inr t1.1)
def jn(l:List MW)(label:Int)(t:Int):Option Vec:=
 (loop (jA l label t) ((⟨0,0⟩:Vec),0)).bind λv1=>
 some v1
def agT:Spec fam:=⟨[Q5,ge,ge],[pp],λa=>jn a.1 a.2.1 a.2.2.1⟩
def gp(l:List MW)(total:Vec)(p:MW)(t:Int)(long:Int)(i:Int):Option (Int ⊕ (Bool ⊕ Unit)):=
 bif decide (i<(l.length:Int))then
 (idx l i).bind λx3=>
 (
  bif decide (x3.From>t)then
  bif decide ((Lx (x3.From - t))<long)then
   (jn l p.Ll x3.From).bind λx4=>
   (aD x4 p.Need).bind λx5=>
   (aW x5 total).bind λx6=>
   some (! x6)
  else
   some false
  else
  some false).bind λq=>
 bif q then
  some (.inr (.inl false))
 else
  some (.inl (Lx (i+1)))
 else
 some (.inr (.inr ()))
def fZ(l:List MW)(total:Vec)(p:MW)(t:Int)(long:Int):Option Bool:=
 (jn l p.Ll t).bind λx=>
 (aD x p.Need).bind λx1=>
 (aW x1 total).bind λx2=>
 bif ! x2 then
 some false
 else
 (loop (gp l total p t long) 0).bind λq0=>
 match q0 with
 | .inl q1=>
  some q1
 | .inr _=>
  some true
def ahh:Spec fam:=⟨[Q5,pp,.v (.st 9) [],ge,ge],[gt],λa=>fZ a.1 a.2.1 a.2.2.1 a.2.2.2.1 a.2.2.2.2.1⟩
def m6(l:List MW)(total:Vec)(p:MW)(long:Int)(t:Int×Int):Option ((Int×Int) ⊕ Int):=
 bif decide (t.2<(l.length:Int))then
 (
  (
  bif decide (t.2≥0)then
   (idx l t.2).bind λx2=>
   some x2.Until
  else
   some p.From).bind λt1=>
  (
  bif decide (t1≥p.From)then
   bif decide (t1≤1000000)then
   bif decide ((Lx (t1+long))≤p.Until)then
    bif decide (t.1<0)then
    (fZ l total p t1 long).bind λx3=>
    some x3
    else
    bif decide (t1<t.1)then
     (fZ l total p t1 long).bind λx4=>
     some x4
    else
     some false
   else
    some false
   else
   some false
  else
   some false).bind λq1=>
  bif q1 then
  some t1
  else
  some t.1).bind λbest=>
 some (.inl (best,Lx (t.2+1)))
 else
 some (.inr t.1)
def jt(l:List MW)(total:Vec)(p:MW)(long:Int):Option (Int×Int):=
 (
 bif decide (long<1)then
  some true
 else
  bif decide (long>1000)then
  some true
  else
  bif decide (p.From<0)then
   some true
  else
   bif decide (p.From>1000000)then
   some true
   else
   bif decide (p.Until<0)then
    some true
   else
    bif decide (p.Until>1000000)then
    some true
    else
    (kc p.Need.Mem).bind λx=>
    bif ! x then
     some true
    else
     (kc p.Need.Lu).bind λx1=>
     some (! x1)).bind λq=>
 bif q then
 some (0,1)
 else
 (loop (m6 l total p long) ((-1),(-1))).bind λUY=>
 bif decide (UY<0)then
  some (0,16)
 else
  some (UY,0)
def ahV:Spec fam:=⟨[Q5,pp,.v (.st 9) [],ge],[ge,ge],λa=>jt a.1 a.2.1 a.2.2.1 a.2.2.2.1⟩
def iK(s:JF)(p:MW)(t:JF×Int×Int):Option ((JF×Int×Int) ⊕ ((JF×Int×Int) ⊕ (JF×Int))):=
 bif decide (t.2.2<(s.LU.length:Int))then
 (
  (idx s.LU t.2.2).bind λx=>
  bif x.Id == p.Id then
  some (.inr (s,0,7))
  else
  (idx s.LU t.2.2).bind λx1=>
  bif decide (x1.Id<p.Id)then
   some (.inl (t.1,Lx (t.2.2+1)))
  else
   some (.inl (t.1,t.2.1)):Option ((JF×Int) ⊕ (JF×Int×Int))).bind λq0=>
 match q0 with
 | .inl q1=>
  some (.inl (q1.1,q1.2,Lx (t.2.2+1)))
 | .inr q2=>
  some (.inr (.inl (q2.1,q2.2.1,q2.2.2)))
 else
 some (.inr (.inr (t.1,t.2.1)))
def kO(s:JF)(p:MW)(long:Int):Option (JF×Int×Int):=
 (
 bif decide (p.Id<0)then
  some true
 else
  bif decide (p.Id>999)then
  some true
  else
  bif decide (p.Ll<0)then
   some true
  else
   bif decide (p.Ll≥(s.Lf.Lp.length:Int))then
   some true
   else
   some ((p.Need.Mem == 0)&&(p.Need.Lu == 0))).bind λq=>
 bif q then
 some (s,0,1)
 else
 (loop (iK s p) ((⟨⟨[],[]⟩,[],[],[],[],[],0,0,0⟩:JF),0,0)).bind λq0=>
 match q0 with
 | .inl q3=>
  some (q3.1,q3.2.1,q3.2.2)
 | .inr q4=>
  bif decide ((s.LU.length:Int)≥12)then
  some (s,0,4)
  else
  bif decide (p.From<s.Now)then
   some (s,0,15)
  else
   (bV s p.Ll).bind λx2=>
   (jt s.LU x2 p long).bind λx3=>
   bif x3.2 != 0 then
   some (s,0,x3.2)
   else
   (slc s.LU 0 q4.2).bind λl=>
   (app 48 [] l).bind λl1=>
   (app 48 l1 [(⟨p.Id,p.Ll,x3.1,Lx (x3.1+long),⟨p.Need.Mem,p.Need.Lu⟩⟩:MW)]).bind λl2=>
   (slc s.LU q4.2 (s.LU.length:Int)).bind λl3=>
   (app 48 l2 l3).bind λl4=>
   some ((⟨⟨s.Lf.Lp,s.Lf.Lg⟩,s.Ls,s.Lr,s.Lc,s.LG,l4,s.Now,s.L9,s.Seq⟩:JF),x3.1,0)
def am0:Spec fam:=⟨[f0,.v (.st 9) [],ge],[f0,ge,ge],λa=>kO a.1 a.2.1 a.2.2.1⟩
def gM(s:JF)(N_:Int)(t:List MW×Int):Option ((List MW×Int) ⊕ List MW):=
 bif decide (t.2<(s.LU.length:Int))then
 (
  (idx s.LU t.2).bind λx=>
  bif x.Id != N_ then
  (idx s.LU t.2).bind λx1=>
  (app 48 t.1 [x1]).bind λl=>
  some l
  else
  some t.1).bind λl1=>
 some (.inl (l1,Lx (t.2+1)))
 else
 some (.inr t.1)
def ko(s:JF)(N_:Int):Option (JF×Int):=
 (loop (gM s N_) ([],0)).bind λl2=>
 bif(l2.length:Int) == (s.LU.length:Int)then
 some (s,2)
 else
 some ((⟨⟨s.Lf.Lp,s.Lf.Lg⟩,s.Ls,s.Lr,s.Lc,s.LG,l2,s.Now,s.L9,s.Seq⟩:JF),0)
def amZ:Spec fam:=⟨[f0,ge],[f0,ge],λa=>ko a.1 a.2.1⟩
def fU(s:JF)(x:Input):Option (JF×Output):=
 bif x.Kind == 1 then
 (iv s x.Text).bind λx1=>
 some (x1.1,x1.2)
 else
 bif x.Kind == 2 then
  (gy s x.LB).bind λx2=>
  some (x2.1,(⟨x2.2,[],[],[],0⟩:Output))
 else
  bif x.Kind == 3 then
  (j7 s x).bind λx3=>
  some (x3.1,x3.2)
  else
  bif x.Kind == 4 then
   (iS s x.LD).bind λx4=>
   some (x4.1,(⟨x4.2,[],[],[],0⟩:Output))
  else
   bif x.Kind == 5 then
   (iw s x).bind λx5=>
   some (x5.1,x5.2)
   else
   bif x.Kind == 6 then
    (ic s x.Id 3).bind λx6=>
    some (x6.1,x6.2)
   else
    bif x.Kind == 7 then
    (ic s x.Id 4).bind λx7=>
    some (x7.1,x7.2)
    else
    bif x.Kind == 8 then
     (jO s x.N).bind λx8=>
     some (x8.1,x8.2)
    else
     bif x.Kind == 9 then
     (kO s x.MW x.N).bind λx9=>
     some (x9.1,(⟨x9.2.2,[],[],[],x9.2.1⟩:Output))
     else
     bif x.Kind == 10 then
      (ko s x.Id).bind λx10=>
      some (x10.1,(⟨x10.2,[],[],[],0⟩:Output))
     else
      bif x.Kind == 11 then
      bif decide (s.L9≥1048576)then
       (aI s 11).bind λPK=>
       some (PK.1,PK.2)
      else
       some ((⟨⟨s.Lf.Lp,s.Lf.Lg⟩,s.Ls,s.Lr,s.Lc,s.LG,s.LU,s.Now,Lx (s.L9+1),0⟩:JF),(⟨0,[],[],[],0⟩:Output))
      else
      (aI s 3).bind λUc=>
      some (Uc.1,Uc.2)
def anF:Spec fam:=⟨[f0,.v (.st 15) []],[f0,QS],λa=>fU a.1 a.2.1⟩
def dh(self:Int→Option (List UInt8))(n:Int):Option (List UInt8):=
 bif decide (n<0)then
 bif n == (-9223372036854775808)then
  some ([45,57,50,50,51,51,55,50,48,51,54,56,53,52,55,55,53,56,48,56]:List UInt8)
 else
  (self (Lx (0 - n))).bind λx=>
  (cat ([45]:List UInt8) x).bind λs=>
  some s
 else
 bif decide (n≥10)then
  (self (Lx (Int.tdiv n 10))).bind λx1=>
  (self (Int.tmod n 10)).bind λx2=>
  (cat x1 x2).bind λs1=>
  some s1
 else
  some (List.map toB [IntKind.u8.wrap (Lx (48+n))])
def b8:Nat→Int→Option (List UInt8)
 | 0=>λ_=>none
 | n+1=>dh (b8 n)
def cH(a0:Int):Option (List UInt8):=b8 64 a0
def h67:Hint:=.z
def amX:Spec fam:=⟨[ge],[ne],λa=>cH a.1⟩
def Kv(n:Nat):Spec fam:=⟨[.v (.int .i64) []],[.v .str []],λa=>b8 n a.1⟩
def iC(x1:Lm)(t2:List UInt8×Int):Option ((List UInt8×Int) ⊕ List UInt8):=
 bif decide (t2.2<(x1.MR.length:Int))then
 (cat t2.1 ([32]:List UInt8)).bind λs7=>
 (idx x1.MR t2.2).bind λx3=>
 (cH x3.Oe).bind λx4=>
 (cat s7 x4).bind λs8=>
 (cat s8 ([47]:List UInt8)).bind λs9=>
 (idx x1.MR t2.2).bind λx5=>
 (cH x5.Most).bind λx6=>
 (cat s9 x6).bind λs10=>
 some (.inl (s10,Lx (t2.2+1)))
 else
 some (.inr t2.1)
def iI(c:Lf)(t1:List UInt8×Int):Option ((List UInt8×Int) ⊕ List UInt8):=
 bif decide (t1.2<(c.Lg.length:Int))then
 (idx c.Lg t1.2).bind λx1=>
 (cat t1.1 ([113,117,101,117,101,32]:List UInt8)).bind λs3=>
 (cat s3 x1.LC).bind λs4=>
 (cat s4 ([32]:List UInt8)).bind λs5=>
 (cH x1.User).bind λx2=>
 (cat s5 x2).bind λs6=>
 (loop (iC x1) (s6,0)).bind λPI=>
 (cat PI ([10]:List UInt8)).bind λs11=>
 some (.inl (s11,Lx (t1.2+1)))
 else
 some (.inr t1.1)
def nZ(c:Lf)(t:List UInt8×Int):Option ((List UInt8×Int) ⊕ List UInt8):=
 bif decide (t.2<(c.Lp.length:Int))then
 (cat t.1 ([32]:List UInt8)).bind λs=>
 (idx c.Lp t.2).bind λx=>
 (cat s x).bind λs1=>
 some (.inl (s1,Lx (t.2+1)))
 else
 some (.inr t.1)
def gX(c:Lf):Option (List UInt8):=
 (loop (nZ c) (([108,97,98,101,108,115]:List UInt8),1)).bind λout=>
 (cat out ([10]:List UInt8)).bind λs2=>
 (loop (iI c) (s2,0)).bind λanV=>
 some anV
def anE:Spec fam:=⟨[QI],[ne],λa=>gX a.1⟩
def bc(at_:Int)(n:Int):Option Int:=
 (nz n).bind λ_=>
 (
 bif decide ((Int.tmod at_ n)<0)then
  let k:=Lx ((Int.tmod at_ n)+n)
  some k
 else
  some (Int.tmod at_ n)).bind λk1=>
 some k1
def amW:Spec fam:=⟨[ge,ge],[ge],λa=>bc a.1 a.2.1⟩
def cT(ns:List Int)(i:Int):Option Int:=
 bif(ns.length:Int) == 0 then
 some i
 else
 (nz (ns.length:Int)).bind λ_=>
 (idx ns (Int.tmod i (ns.length:Int))).bind λx=>
 some x
def amU:Spec fam:=⟨[t6,ge],[ge],λa=>cT a.1 a.2.1⟩
def eh(kids:List (List UInt8))(t3:Lf×Int)(t4:Lf×Int×Int)(n:Int)(Yh:Int)(t5:Lf×Int):Option ((Lf×Int) ⊕ Lf):=
 bif decide (t5.2<(t5.1.Lg.length:Int))then
 (
  (MZ t5.2 t5.1.Lg.length).bind λi3=>
  (t5.1.Lg[i3]?).bind λx18=>
  (MZ t4.2.2 kids.length).bind λi4=>
  (kids[i4]?).bind λx19=>
  bif x18.LC == x19 then
  (MZ t5.2 t5.1.Lg.length).bind λi5=>
  (t5.1.Lg[i5]?).bind λx20=>
  (t5.1.Lg[i5]?).bind λx21=>
  (MZ t3.2 x21.MR.length).bind λi6=>
  (t5.1.Lg[i5]?).bind λx22=>
  (x22.MR[i6]?).bind λy=>
  some (⟨t5.1.Lp,List.set t5.1.Lg i5 (⟨x22.LC,List.set x22.MR i6 (⟨n,Yh⟩:Cap),x22.User⟩:Lm)⟩:Lf)
  else
  some t5.1).bind λc1=>
 some (.inl (c1,Lx (t5.2+1)))
 else
 some (.inr t5.1)
def d4(ns:List Int)(t2:Lf×Int)(kids:List (List UInt8))(t3:Lf×Int)(t4:Lf×Int×Int):Option ((Lf×Int×Int) ⊕ Lf):=
 bif decide (t4.2.2<(kids.length:Int))then
 (
  bif decide (t4.2.2<(Lx ((kids.length:Int) - 1)))then
  (cT ns (Lx ((Lx (t2.2+t4.2.2))+t3.2))).bind λx8=>
  (bc x8 (Lx (t4.2.1+1))).bind λx9=>
  (cT ns (Lx ((Lx (t2.2*t4.2.2))+t3.2))).bind λx10=>
  (bc x10 4).bind λPK=>
  (MZ PK [0,Lx (Int.tdiv t4.2.1 2),t4.2.1,x9].length).bind λi1=>
  ([0,Lx (Int.tdiv t4.2.1 2),t4.2.1,x9][i1]?).bind λUc=>
  some Uc
  else
  some t4.2.1).bind λn=>
 (cT ns (Lx (t4.2.2+t3.2))).bind λUy=>
 (bc Uy (Lx ((Lx (10000 - n))+1))).bind λWm=>
 (cT ns (Lx (t2.2+(Lx (2*t4.2.2))))).bind λXr=>
 (bc Xr 3).bind λx16=>
 (MZ x16 [10000,n,Lx (n+Wm)].length).bind λi2=>
 ([10000,n,Lx (n+Wm)][i2]?).bind λYh=>
 (loop (eh kids t3 t4 n Yh) (t4.1,0)).bind λc2=>
 some (.inl (c2,Lx (t4.2.1 - n),Lx (t4.2.2+1)))
 else
 some (.inr t4.1)
def iy(ns:List Int)(t2:Lf×Int)(kids:List (List UInt8))(t3:Lf×Int):Option ((Lf×Int) ⊕ Lf):=
 bif decide (t3.2<(t3.1.Lp.length:Int))then
 (loop (d4 ns t2 kids t3) (t3.1,10000,0)).bind λc3=>
 some (.inl (c3,Lx (t3.2+1)))
 else
 some (.inr t3.1)
def dZ(ns:List Int)(x2:List (List UInt8))(t2:Lf×Int):Option ((Lf×Int) ⊕ Lf):=
 bif decide (t2.2<(x2.length:Int))then
 (idx x2 t2.2).bind λx7=>
 (cb t2.1 x7).bind λkids=>
 (loop (iy ns t2 kids) (t2.1,0)).bind λc4=>
 some (.inl (c4,Lx (t2.2+1)))
 else
 some (.inr t2.1)
def iO(t:Lf×Int)(t1:Lm×Int):Option ((Lm×Int) ⊕ Lm):=
 bif decide (t1.2<(t.1.Lp.length:Int))then
 (app 16 t1.1.MR [(⟨10000,10000⟩:Cap)]).bind λl=>
 some (.inl ((⟨t1.1.LC,l,t1.1.User⟩:Lm),Lx (t1.2+1)))
 else
 some (.inr t1.1)
def dS(ns:List Int)(x2:List (List UInt8))(t:Lf×Int):Option ((Lf×Int) ⊕ Lf):=
 bif decide (t.2<(x2.length:Int))then
 (idx x2 t.2).bind λx3=>
 (
  (
  bif decide (t.2<(ns.length:Int))then
   (idx ns t.2).bind λx4=>
   some ((Int.tmod x4 3) == 0)
  else
   some false).bind λq=>
  bif q then
  (idx ns t.2).bind λx5=>
  (bc x5 20000).bind λx6=>
  some (⟨x3,[],Lx (1+x6)⟩:Lm)
  else
  some (⟨x3,[],1000000⟩:Lm)).bind λq1=>
 (loop (iO t) (q1,0)).bind λq2=>
 (app 48 t.1.Lg [q2]).bind λl1=>
 some (.inl ((⟨t.1.Lp,l1⟩:Lf),Lx (t.2+1)))
 else
 some (.inr t.1)
def g9(shape:Int)(ns:List Int):Option Lf:=
 (bc (Lx (Int.tdiv shape 5)) 2).bind λx=>
 (OQ 0 (Lx (1+x)) [([]:List UInt8),([103,112,117]:List UInt8)].length).bind λp=>
 (bc shape 5).bind λx1=>
 (MZ x1 [[([114,111,111,116]:List UInt8)],[([114,111,111,116]:List UInt8),([114,111,111,116,46,97]:List UInt8),([114,111,111,116,46,98]:List UInt8)],[([114,111,111,116]:List UInt8),([114,111,111,116,46,97]:List UInt8),([114,111,111,116,46,97,46,120]:List UInt8),([114,111,111,116,46,97,46,121]:List UInt8),([114,111,111,116,46,98]:List UInt8)],[([114,111,111,116]:List UInt8),([114,111,111,116,46,97]:List UInt8),([114,111,111,116,46,98]:List UInt8),([114,111,111,116,46,98,46,120]:List UInt8),([114,111,111,116,46,98,46,120,46,112]:List UInt8),([114,111,111,116,46,98,46,120,46,113]:List UInt8),([114,111,111,116,46,99]:List UInt8)],[([114,111,111,116]:List UInt8),([114,111,111,116,46,97]:List UInt8)]].length).bind λi=>
 ([[([114,111,111,116]:List UInt8)],[([114,111,111,116]:List UInt8),([114,111,111,116,46,97]:List UInt8),([114,111,111,116,46,98]:List UInt8)],[([114,111,111,116]:List UInt8),([114,111,111,116,46,97]:List UInt8),([114,111,111,116,46,97,46,120]:List UInt8),([114,111,111,116,46,97,46,121]:List UInt8),([114,111,111,116,46,98]:List UInt8)],[([114,111,111,116]:List UInt8),([114,111,111,116,46,97]:List UInt8),([114,111,111,116,46,98]:List UInt8),([114,111,111,116,46,98,46,120]:List UInt8),([114,111,111,116,46,98,46,120,46,112]:List UInt8),([114,111,111,116,46,98,46,120,46,113]:List UInt8),([114,111,111,116,46,99]:List UInt8)],[([114,111,111,116]:List UInt8),([114,111,111,116,46,97]:List UInt8)]][i]?).bind λx2=>
 (loop (dS ns x2) ((⟨sub [([]:List UInt8),([103,112,117]:List UInt8)] p.1 p.2,[]⟩:Lf),0)).bind λc=>
 (loop (dZ ns x2) (c,0)).bind λc5=>
 some c5
def anD:Spec fam:=⟨[ge,t6],[.v (.st 3) [1001]],λa=>g9 a.1 a.2.1⟩
def au(at_:Int)(n:Int):Option Int:=
 (nz n).bind λ_=>
 (
 bif decide ((Int.tmod at_ n)<0)then
  let k:=Lx ((Int.tmod at_ n)+n)
  some k
 else
  some (Int.tmod at_ n)).bind λk1=>
 some k1
def amT:Spec fam:=⟨[ge,ge],[ge],λa=>au a.1 a.2.1⟩
def fD(c:Lf)(t:List (List UInt8)×Int):Option ((List (List UInt8)×Int) ⊕ List (List UInt8)):=
 bif decide (t.2<(c.Lg.length:Int))then
 (
  (idx c.Lg t.2).bind λx=>
  (eH c x.LC).bind λx1=>
  bif x1 then
  (idx c.Lg t.2).bind λx2=>
  (app 16 t.1 [x2.LC]).bind λl=>
  some l
  else
  some t.1).bind λl1=>
 some (.inl (l1,Lx (t.2+1)))
 else
 some (.inr t.1)
def jp(c:Lf):Option (List (List UInt8)):=
 (loop (fD c) ([],0)).bind λl2=>
 some l2
def amS:Spec fam:=⟨[QI],[f9],λa=>jp a.1⟩
def eI(n:Int):Option Vec:=
 (au n 5).bind λx=>
 (MZ x [(⟨1,1⟩:Vec),(⟨2,1⟩:Vec),(⟨4,4⟩:Vec),(⟨3,2⟩:Vec),(⟨1,3⟩:Vec)].length).bind λi=>
 ([(⟨1,1⟩:Vec),(⟨2,1⟩:Vec),(⟨4,4⟩:Vec),(⟨3,2⟩:Vec),(⟨1,3⟩:Vec)][i]?).bind λx1=>
 some x1
def amR:Spec fam:=⟨[ge],[pp],λa=>eI a.1⟩
def dl(a:Act)(s:JF)(x1:LD)(t:Input×Int):Option ((Input×Int) ⊕ Input):=
 bif decide (t.2<(s.Lc.length:Int))then
 (
  (
  (idx s.Lc t.2).bind λPK=>
  bif PK.LD == x1.Id then
   (au (Lx (a.D+t.2)) 11).bind λUc=>
   some (Uc == 10)
  else
   some false).bind λq=>
  bif q then
  (idx s.Lc t.2).bind λUy=>
  (app 8 t.1.Ids [Uy.Id]).bind λl=>
  some (⟨t.1.Kind,t.1.Id,t.1.Nf,t.1.N,t.1.Text,⟨t.1.LB.Id,t.1.LB.Ll,t.1.LB.Oj,⟨t.1.LB.Cap.Mem,t.1.LB.Cap.Lu⟩,t.1.LB.NZ,t.1.LB.Nf,t.1.LB.Up⟩,⟨t.1.LD.Id,t.1.LD.JF,t.1.LD.Lm,t.1.LD.User,t.1.LD.LA,⟨t.1.LD.Lj.Mem,t.1.LD.Lj.Lu⟩,t.1.LD.Mr,t.1.LD.NZ,t.1.LD.Nf,t.1.LD.Mv,t.1.LD.Nr,t.1.LD.Told,t.1.LD.N7⟩,t.1.Mr,l,⟨t.1.MW.Id,t.1.MW.Ll,t.1.MW.From,t.1.MW.Until,⟨t.1.MW.Need.Mem,t.1.MW.Need.Lu⟩⟩⟩:Input)
  else
  some t.1).bind λWm=>
 some (.inl (Wm,Lx (t.2+1)))
 else
 some (.inr t.1)
def eX(a:Act)(s:JF):Option Input:=
 bif(s.Lr.length:Int) == 0 then
 some (⟨5,0,0,0,[],⟨0,0,0,⟨0,0⟩,0,0,false⟩,⟨0,0,[],0,0,⟨0,0⟩,[],0,0,[],[],[],[]⟩,[],[],⟨0,0,0,0,⟨0,0⟩⟩⟩:Input)
 else
 (au a.A (s.Lr.length:Int)).bind λx=>
 (idx s.Lr x).bind λx1=>
 (au a.B 8).bind λx2=>
 (
  bif decide ((Int.tmod a.C 3)>0)then
  (au a.B 5).bind λx3=>
  (au a.C (s.Lf.Lp.length:Int)).bind λx4=>
  (eI a.D).bind λx5=>
  (au a.D 7).bind λx6=>
  (
   bif(Int.tmod a.D 4) == 1 then
   (au a.C 3).bind λx7=>
   some (⟨x3,x4,⟨x5.Mem,x5.Lu⟩,x6,(-1),x7,0⟩:Ask)
   else
   some (⟨x3,x4,⟨x5.Mem,x5.Lu⟩,x6,(-1),(-1),0⟩:Ask)).bind λk=>
  (
   bif(Int.tmod a.D 4) == 2 then
   (au a.C 3).bind λx8=>
   (au a.B 6).bind λx9=>
   some (⟨k.LA,k.Ll,⟨k.LV.Mem,k.LV.Lu⟩,k.Mw,x9,x8,k.RX⟩:Ask)
   else
   some k).bind λk1=>
  some (⟨5,x1.Id,Lx ((Lx (x1.Nf+1)) - (Lx (Int.tdiv x2 6))),0,[],⟨0,0,0,⟨0,0⟩,0,0,false⟩,⟨0,0,[],0,0,⟨0,0⟩,[],0,0,[],[],[],[]⟩,[k1],[],⟨0,0,0,0,⟨0,0⟩⟩⟩:Input)
  else
  some (⟨5,x1.Id,Lx ((Lx (x1.Nf+1)) - (Lx (Int.tdiv x2 6))),0,[],⟨0,0,0,⟨0,0⟩,0,0,false⟩,⟨0,0,[],0,0,⟨0,0⟩,[],0,0,[],[],[],[]⟩,[],[],⟨0,0,0,0,⟨0,0⟩⟩⟩:Input)).bind λx10=>
 (loop (dl a s x1) (x10,0)).bind λXr=>
 some Xr
def amQ:Spec fam:=⟨[.v (.st 11) [],f0],[Q8],λa=>eX a.1 a.2.1⟩
def dN(a:Act)(s:JF)(N_:Int)(t1:Input×Int):Option ((Input×Int) ⊕ Input):=
 bif decide (t1.2<(s.Lc.length:Int))then
 (
  (
  (idx s.Lc t1.2).bind λPK=>
  bif PK.LB == N_ then
   (au (Lx (a.C+t1.2)) 9).bind λUc=>
   some (Uc == 8)
  else
   some false).bind λq2=>
  bif q2 then
  (idx s.Lc t1.2).bind λUy=>
  (app 8 t1.1.Ids [Uy.Id]).bind λl=>
  some (⟨t1.1.Kind,t1.1.Id,t1.1.Nf,t1.1.N,t1.1.Text,⟨t1.1.LB.Id,t1.1.LB.Ll,t1.1.LB.Oj,⟨t1.1.LB.Cap.Mem,t1.1.LB.Cap.Lu⟩,t1.1.LB.NZ,t1.1.LB.Nf,t1.1.LB.Up⟩,⟨t1.1.LD.Id,t1.1.LD.JF,t1.1.LD.Lm,t1.1.LD.User,t1.1.LD.LA,⟨t1.1.LD.Lj.Mem,t1.1.LD.Lj.Lu⟩,t1.1.LD.Mr,t1.1.LD.NZ,t1.1.LD.Nf,t1.1.LD.Mv,t1.1.LD.Nr,t1.1.LD.Told,t1.1.LD.N7⟩,t1.1.Mr,l,⟨t1.1.MW.Id,t1.1.MW.Ll,t1.1.MW.From,t1.1.MW.Until,⟨t1.1.MW.Need.Mem,t1.1.MW.Need.Lu⟩⟩⟩:Input)
  else
  some t1.1).bind λWm=>
 some (.inl (Wm,Lx (t1.2+1)))
 else
 some (.inr t1.1)
def dO(a:Act)(s:JF)(N_:Int)(t:Input×Int):Option ((Input×Int) ⊕ Input):=
 bif decide (t.2<(s.Ls.length:Int))then
 (
  (idx s.Ls t.2).bind λx6=>
  bif x6.Id == N_ then
  (idx s.Ls t.2).bind λx7=>
  (au a.B 8).bind λx8=>
  some (⟨t.1.Kind,t.1.Id,Lx ((Lx (x7.Nf+1)) - (Lx (Int.tdiv x8 6))),t.1.N,t.1.Text,⟨t.1.LB.Id,t.1.LB.Ll,t.1.LB.Oj,⟨t.1.LB.Cap.Mem,t.1.LB.Cap.Lu⟩,t.1.LB.NZ,t.1.LB.Nf,t.1.LB.Up⟩,⟨t.1.LD.Id,t.1.LD.JF,t.1.LD.Lm,t.1.LD.User,t.1.LD.LA,⟨t.1.LD.Lj.Mem,t.1.LD.Lj.Lu⟩,t.1.LD.Mr,t.1.LD.NZ,t.1.LD.Nf,t.1.LD.Mv,t.1.LD.Nr,t.1.LD.Told,t.1.LD.N7⟩,t.1.Mr,t.1.Ids,⟨t.1.MW.Id,t.1.MW.Ll,t.1.MW.From,t.1.MW.Until,⟨t.1.MW.Need.Mem,t.1.MW.Need.Lu⟩⟩⟩:Input)
  else
  some t.1).bind λx9=>
 some (.inl (x9,Lx (t.2+1)))
 else
 some (.inr t.1)
def fI(a:Act)(s:JF):Option Input:=
 (au a.A 6).bind λN_=>
 (jp s.Lf).bind λleaves=>
 (au a.B 4).bind λx=>
 (
 (au a.Kind 16).bind λx1=>
 (
  bif x1 == 0 then
  some (x1 == 0)
  else
  some (x1 == 1)).bind λq=>
 bif q then
  (au a.B (s.Lf.Lp.length:Int)).bind λx2=>
  (au a.C 3).bind λx3=>
  (au a.D 12).bind λx4=>
  (au a.D 8).bind λx5=>
  some (⟨2,N_,0,Lx (1+x),[],⟨N_,x2,x3,⟨Lx (4+x4),Lx (4+x5)⟩,0,0,false⟩,⟨0,0,[],0,0,⟨0,0⟩,[],0,0,[],[],[],[]⟩,[],[],⟨0,0,0,0,⟨0,0⟩⟩⟩:Input)
 else
  (
  bif x1 == 2 then
   some (x1 == 2)
  else
   bif x1 == 3 then
   some (x1 == 3)
   else
   bif x1 == 4 then
    some (x1 == 4)
   else
    some (x1 == 5)).bind λq1=>
  bif q1 then
  (loop (dO a s N_) ((⟨3,N_,0,Lx (1+x),[],⟨0,0,0,⟨0,0⟩,0,0,false⟩,⟨0,0,[],0,0,⟨0,0⟩,[],0,0,[],[],[],[]⟩,[],[],⟨0,0,0,0,⟨0,0⟩⟩⟩:Input),0)).bind λx10=>
  (loop (dN a s N_) (x10,0)).bind λXr=>
  some Xr
  else
  (
   bif x1 == 6 then
   some (x1 == 6)
   else
   some (x1 == 7)).bind λq3=>
  bif q3 then
   (au a.A 20).bind λx16=>
   (au a.B (leaves.length:Int)).bind λYh=>
   (MZ Yh leaves.length).bind λi=>
   (leaves[i]?).bind λx18=>
   (au a.C 3).bind λx19=>
   (au a.D 3).bind λx20=>
   (eI (Lx (Int.tdiv a.D 3))).bind λx21=>
   some (⟨4,N_,0,Lx (1+x),[],⟨0,0,0,⟨0,0⟩,0,0,false⟩,⟨x16,0,x18,x19,x20,⟨x21.Mem,x21.Lu⟩,[],0,0,[],[],[],[]⟩,[],[],⟨0,0,0,0,⟨0,0⟩⟩⟩:Input)
  else
   (
   bif x1 == 8 then
    some (x1 == 8)
   else
    bif x1 == 9 then
    some (x1 == 9)
    else
    some (x1 == 10)).bind λq4=>
   bif q4 then
   (eX a s).bind λx22=>
   some x22
   else
   bif x1 == 11 then
    (au a.B 2).bind λx23=>
    (MZ x23 [6,7].length).bind λi1=>
    ([6,7][i1]?).bind λx24=>
    (au a.A 20).bind λx25=>
    some (⟨x24,x25,0,Lx (1+x),[],⟨0,0,0,⟨0,0⟩,0,0,false⟩,⟨0,0,[],0,0,⟨0,0⟩,[],0,0,[],[],[],[]⟩,[],[],⟨0,0,0,0,⟨0,0⟩⟩⟩:Input)
   else
    (
    bif x1 == 12 then
     some (x1 == 12)
    else
     some (x1 == 13)).bind λq5=>
    bif q5 then
    (au a.A 5).bind λx26=>
    some (⟨8,N_,0,Lx (1+x26),[],⟨0,0,0,⟨0,0⟩,0,0,false⟩,⟨0,0,[],0,0,⟨0,0⟩,[],0,0,[],[],[],[]⟩,[],[],⟨0,0,0,0,⟨0,0⟩⟩⟩:Input)
    else
    bif x1 == 14 then
     (au a.D 3).bind λx27=>
     (MZ x27 [9,9,10].length).bind λi2=>
     ([9,9,10][i2]?).bind λx28=>
     (au a.B (s.Lf.Lp.length:Int)).bind λx29=>
     (au a.C 5).bind λx30=>
     (eI a.D).bind λx31=>
     (au a.C 12).bind λx32=>
     some (⟨x28,N_,0,Lx (1+x32),[],⟨0,0,0,⟨0,0⟩,0,0,false⟩,⟨0,0,[],0,0,⟨0,0⟩,[],0,0,[],[],[],[]⟩,[],[],⟨N_,x29,Lx (s.Now+x30),Lx (s.Now+20),⟨x31.Mem,x31.Lu⟩⟩⟩:Input)
    else
     bif x1 == 15 then
     (au a.A 3).bind λx33=>
     (MZ x33 [11,1,1].length).bind λi3=>
     ([11,1,1][i3]?).bind λx34=>
     (g9 a.B [a.C,a.D]).bind λx35=>
     (gX x35).bind λx36=>
     some (⟨x34,N_,0,Lx (1+x),x36,⟨0,0,0,⟨0,0⟩,0,0,false⟩,⟨0,0,[],0,0,⟨0,0⟩,[],0,0,[],[],[],[]⟩,[],[],⟨0,0,0,0,⟨0,0⟩⟩⟩:Input)
     else
     some (⟨0,N_,0,Lx (1+x),[],⟨0,0,0,⟨0,0⟩,0,0,false⟩,⟨0,0,[],0,0,⟨0,0⟩,[],0,0,[],[],[],[]⟩,[],[],⟨0,0,0,0,⟨0,0⟩⟩⟩:Input)).bind λx37=>
 some x37
def anC:Spec fam:=⟨[.v (.st 11) [],f0],[Q8],λa=>fI a.1 a.2.1⟩
def cO(x:Script)(t:JF×Int):Option ((JF×Int) ⊕ JF):=
 bif decide (t.2<(x.Ux.length:Int))then
 (idx x.Ux t.2).bind λx5=>
 (fI x5 t.1).bind λx6=>
 (fU t.1 x6).bind λx7=>
 some (.inl (x7.1,Lx (t.2+1)))
 else
 some (.inr t.1)
def cm(x:Script):Option JF:=
 (kH).bind λx1=>
 (g9 x.Shape x.Ns).bind λx2=>
 (gX x2).bind λx3=>
 (fU x1 (⟨1,0,0,0,x3,⟨0,0,0,⟨0,0⟩,0,0,false⟩,⟨0,0,[],0,0,⟨0,0⟩,[],0,0,[],[],[],[]⟩,[],[],⟨0,0,0,0,⟨0,0⟩⟩⟩:Input)).bind λx4=>
 (
 bif x4.2.Err == 0 then
  some x4.1
 else
  some x1).bind λs=>
 (loop (cO x) (s,0)).bind λs1=>
 some s1
def h8:Hint:=(Qf (.s .z (Qf (.s (.j [3] [(0,[(3,t7)])] .z) (.s (Qf ((Qg [(3,t7),(6,ge)] [3,6] [(2,[(3,t7)])] .z))) .z)))))
def sp8:Spec fam:=⟨[.v (.st 12) []],[f0],λa=>cm a.1⟩
def kf(s:JF)(t:JF)(SE:Int):Option Bool:=
 (aG s SE).bind λx=>
 (aG t SE).bind λx1=>
 bif x.1.JF == 2 then
 some (x1.1.JF == 1)
 else
 some false
def anI:Spec fam:=⟨[f0,f0,ge],[gt],λa=>kf a.1 a.2.1 a.2.2.1⟩
def fk(x4:JF)(x5:JF×List Int)(i:Int):Option (Int ⊕ (Bool ⊕ Unit)):=
 bif decide (i<(x5.2.length:Int))then
 (MZ i x5.2.length).bind λi1=>
 (x5.2[i1]?).bind λx6=>
 (a7 x4 x6).bind λx7=>
 (aG x4 x7.1.LD).bind λx8=>
 (MZ i x5.2.length).bind λi2=>
 (x5.2[i2]?).bind λx9=>
 (a7 x5.1 x9).bind λx10=>
 (
  bif ! x7.2 then
  some true
  else
  some x10.2).bind λq=>
 bif q then
  some (.inr (.inl false))
 else
  (
  (aP x4 x8.1.Lm x7.1.Ll).bind λPK=>
  (cU x4 x7.1.Ll x8.1.Lm).bind λUc=>
  bif decide (PK.Mem≤Uc)then
   (kf x4 x5.1 x7.1.LD).bind λUy=>
   some (! Uy)
  else
   some false).bind λq1=>
  bif q1 then
  some (.inr (.inl false))
  else
  some (.inl (Lx (i+1)))
 else
 some (.inr (.inr ()))
def dL(x:Script)(marks:List Int)(more:Int):Option Bool:=
 (jF).bind λx1=>
 bif ! x1 then
 some false
 else
 (cP x).bind λx2=>
 bif ! x2 then
  some true
 else
  (cm x).bind λx3=>
  (jE x3 marks more).bind λx4=>
  (lJ x4).bind λx5=>
  (loop (fk x4 x5) 0).bind λq0=>
  match q0 with
  | .inl q2=>
  some q2
  | .inr _=>
  some ((Lx ((x5.1.Lc.length:Int)+(x5.2.length:Int))) == (x4.Lc.length:Int))
def h4:Hint:=(Qf (.s .z (Qf (.s .z (Qf (.s (Qf ((Qg [(10,ge)] [6,10,11,12,13,67,89] [(1,[(6,gt)]),(2,[])] (Qf (.s (.b (Qf (.s .z (.s (Qf XS) XO)))) .z))))) .z))))))
def sp4:Spec fam:=⟨[.v (.st 12) [],t6,ge],[gt],λa=>dL a.1 a.2.1 a.2.2.1⟩
end
end Go.Fx.D
