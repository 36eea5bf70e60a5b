/-
  The functions of the program that this law reaches, as functions over plain data (printed by a program). Conditions: none.
-/
import Derived.Test.YtdickabkndfjhaaGreatD0
namespace Go.Fx.D
open Go Go.Fx Go.Proofs
set_option linter.unusedVariables false
noncomputable section
def fx(l:List Ask)(prio:Int)(t:Ask×Int):Option ((Ask×Int) ⊕ ((Ask×Bool) ⊕ Ask)):=
 bif decide (t.2<(l.length:Int))then
 (idx l t.2).bind λx=>
 bif x.LD == prio then
  (idx l t.2).bind λx1=>
  some (.inr (.inl (x1,true)))
 else
  some (.inl (t.1,LC (t.2+1)))
 else
 some (.inr (.inr (t.1)))
def l7(l:List Ask)(prio:Int):Option (Ask×Bool):=
 (loop (fx l prio) ((⟨0,0,⟨0,0⟩,0,0,0,0⟩:Ask),0)).bind λq0=>
 match q0 with
 | .inl q=>
 some (q.1,q.2)
 | .inr q1=>
 some ((⟨0,0,⟨0,0⟩,0,0,0,0⟩:Ask),false)
def agR:Spec fam:=⟨[QZ,ge],[QS,gt],λa=>l7 a.1 a.2.1⟩
def cE(a:Ask)(n:LG):Option Int:=
 (
 bif ! n.Up then
  some true
 else
  some (n.Ll != a.Ll)).bind λq=>
 bif q then
 some 4
 else
 (
  bif a.Om == (-1)then
  some true
  else
  bif a.LG == n.Id then
   some true
  else
   bif a.LG == (-1)then
   some (a.Om == n.Om)
   else
   some false).bind λq1=>
 bif q1 then
  some 1
 else
  bif a.Om == n.Om then
  some 2
  else
  some 3
def agz:Spec fam:=⟨[QS,Q0],[ge],λa=>cE a.1 a.2.1⟩
def df(a:Ask)(n:LG):Option Bool:=
 (cE a n).bind λx=>
 bif x == 1 then
 some true
 else
 bif x == 2 then
  some (decide (a.RY≥2))
 else
  bif x == 3 then
  some (decide (a.RY≥4))
  else
  some false
def agQ:Spec fam:=⟨[QS,Q0],[gt],λa=>df a.1 a.2.1⟩
def aD(a:Vec)(b:Vec):Option Vec:=
 some (⟨LC (a.Mem+b.Mem),LC (a.LA+b.LA)⟩:Vec)
def amN:Spec fam:=⟨[t6,t6],[t6],λa=>aD a.1 a.2.1⟩
def gm(t:List UInt8×List (List UInt8)):Option ((List UInt8×List (List UInt8)) ⊕ List (List UInt8)):=
 bif ! (t.1 == ([]:List UInt8))then
 (app 16 t.2 [t.1]).bind λl=>
 (dU t.1).bind λaiR=>
 some (.inl (aiR,l))
 else
 some (.inr t.2)
def ig(Lf:List UInt8):Option (List (List UInt8)):=
 (loop gm (Lf,[])).bind λl1=>
 some l1
def ahG:Spec fam:=⟨[ne],[f9],λa=>ig a.1⟩
def dz(Lf:List UInt8)(up:List (List UInt8))(i:Int):Option (Int ⊕ (Bool ⊕ Unit)):=
 bif decide (i<(up.length:Int))then
 (MZ i up.length).bind λi1=>
 (up[i1]?).bind λx=>
 bif x == Lf then
  some (.inr (.inl true))
 else
  some (.inl (LC (i+1)))
 else
 some (.inr (.inr ()))
def fA(leaf:List UInt8)(Lf:List UInt8):Option Bool:=
 (ig leaf).bind λup=>
 (loop (dz Lf up) 0).bind λq0=>
 match q0 with
 | .inl q=>
 some q
 | .inr _=>
 some false
def aiB:Spec fam:=⟨[ne,ne],[gt],λa=>fA a.1 a.2.1⟩
def ie(s:JG)(Lf:List UInt8)(label:Int)(all:Bool)(user:Int)(t:Vec×Int):Option ((Vec×Int) ⊕ Vec):=
 bif decide (t.2<(s.Kl.length:Int))then
 (
  (idx s.Kl t.2).bind λx=>
  (aK s x.LM).bind λx1=>
  (
  bif x1.2 then
   (idx s.Kl t.2).bind λx2=>
   bif x2.Ll == label then
   (fA x1.1.Ls Lf).bind λx3=>
   bif x3 then
    bif all then
    some true
    else
    some (x1.1.User == user)
   else
    some false
   else
   some false
  else
   some false).bind λq=>
  bif q then
  (idx s.Kl t.2).bind λx4=>
  (aD t.1 x4.LY).bind λx5=>
  some x5
  else
  some t.1).bind λv=>
 some (.inl (v,LC (t.2+1)))
 else
 some (.inr t.1)
def go(s:JG)(Lf:List UInt8)(label:Int)(all:Bool)(user:Int):Option Vec:=
 (loop (ie s Lf label all user) ((⟨0,0⟩:Vec),0)).bind λv1=>
 some v1
def ang:Spec fam:=⟨[f0,ne,ge,gt,ge],[t6],λa=>go a.1 a.2.1 a.2.2.1 a.2.2.2.1 a.2.2.2.2.1⟩
def aY(s:JG)(Lf:List UInt8)(label:Int):Option Vec:=
 (go s Lf label true 0).bind λx=>
 some x
def anU:Spec fam:=⟨[f0,ne,ge],[t6],λa=>aY a.1 a.2.1 a.2.2.1⟩
def gS(s:JG)(label:Int)(t:Vec×Int):Option ((Vec×Int) ⊕ Vec):=
 bif decide (t.2<(s.Lu.length:Int))then
 (
  (
  (idx s.Lu t.2).bind λx=>
  bif x.Up then
   (idx s.Lu t.2).bind λx1=>
   some (x1.Ll == label)
  else
   some false).bind λq=>
  bif q then
  (idx s.Lu t.2).bind λx2=>
  (aD t.1 x2.Cap).bind λx3=>
  some x3
  else
  some t.1).bind λv=>
 some (.inl (v,LC (t.2+1)))
 else
 some (.inr t.1)
def cb(s:JG)(label:Int):Option Vec:=
 (loop (gS s label) ((⟨0,0⟩:Vec),0)).bind λv1=>
 some v1
def anH:Spec fam:=⟨[f0,ge],[t6],λa=>cb a.1 a.2.1⟩
def kY(n:Int):Option Bool:=
 bif decide (n≥0)then
 some (decide (n≤1125899906842624))
 else
 some false
def agB:Spec fam:=⟨[ge],[gt],λa=>kY a.1⟩
def cm(a:Vec):Option Bool:=
 (kY a.Mem).bind λx=>
 bif x then
 (kY a.LA).bind λx1=>
 some x1
 else
 some false
def agY:Spec fam:=⟨[t6],[gt],λa=>cm a.1⟩
def gx(n:Int)(bp:Int):Option Int:=
 some (LC ((LC ((LC (Int.tdiv n 10000))*bp))+(LC (Int.tdiv (LC ((Int.tmod n 10000)*bp)) 10000))))
def agX:Spec fam:=⟨[ge,ge],[ge],λa=>gx a.1 a.2.1⟩
def gA(a:Vec)(bp:Int):Option (Vec×Int):=
 (
 (cm a).bind λx=>
 bif ! x then
  some true
 else
  bif decide (bp<0)then
  some true
  else
  some (decide (bp>1000000))).bind λq=>
 bif q then
 some ((⟨0,0⟩:Vec),1)
 else
 (gx a.Mem bp).bind λx1=>
 (gx a.LA bp).bind λx2=>
 (cm (⟨x1,x2⟩:Vec)).bind λx3=>
 bif ! x3 then
  some ((⟨0,0⟩:Vec),11)
 else
  some ((⟨x1,x2⟩:Vec),0)
def ahl:Spec fam:=⟨[t6,ge],[t6,ge],λa=>gA a.1 a.2.1⟩
def jl(s:JG)(label:Int)(least:Bool)(up:List (List UInt8))(t:Vec×Int):Option ((Vec×Int) ⊕ Vec):=
 bif decide (t.2≥0)then
 (MZ t.2 up.length).bind λi1=>
 (up[i1]?).bind λx2=>
 (bZ s.Lg x2).bind λx3=>
 (MZ label x3.1.MS.length).bind λi2=>
 (x3.1.MS[i2]?).bind λx4=>
 (
  bif least then
  (MZ label x3.1.MS.length).bind λi3=>
  (x3.1.MS[i3]?).bind λx5=>
  some x5.Oe
  else
  some x4.Most).bind λbp=>
 (gA t.1 bp).bind λx6=>
 some (.inl (x6.1,LC (t.2 - 1)))
 else
 some (.inr t.1)
def iE(s:JG)(Lf:List UInt8)(label:Int)(least:Bool):Option Vec:=
 (bZ s.Lg Lf).bind λx=>
 (
 bif ! x.2 then
  some true
 else
  bif decide (label<0)then
  some true
  else
  some (decide (label≥(s.Lg.Lm.length:Int)))).bind λq=>
 bif q then
 some (⟨0,0⟩:Vec)
 else
 (cb s label).bind λx1=>
 (ig Lf).bind λup=>
 let i:=LC ((up.length:Int) - 2)
 (loop (jl s label least up) (x1,i)).bind λv=>
 some v
def ahZ:Spec fam:=⟨[f0,ne,ge,gt],[t6],λa=>iE a.1 a.2.1 a.2.2.1 a.2.2.2.1⟩
def bO(s:JG)(Lf:List UInt8)(label:Int):Option Vec:=
 (iE s Lf label true).bind λx=>
 some x
def amM:Spec fam:=⟨[f0,ne,ge],[t6],λa=>bO a.1 a.2.1 a.2.2.1⟩
def iB(s:JG)(leaf:List UInt8)(a:Ask):Option Bool:=
 (aY s leaf a.Ll).bind λx=>
 (aD x a.LY).bind λx1=>
 (bO s leaf a.Ll).bind λx2=>
 (aW x1 x2).bind λx3=>
 some x3
def agP:Spec fam:=⟨[f0,ne,QS],[gt],λa=>iB a.1 a.2.1 a.2.2.1⟩
def fU(s:JG)(Lf:List UInt8)(label:Int)(user:Int):Option Vec:=
 (go s Lf label false user).bind λx=>
 some x
def agy:Spec fam:=⟨[f0,ne,ge,ge],[t6],λa=>fU a.1 a.2.1 a.2.2.1 a.2.2.2.1⟩
def ll(s:JG)(Lf:List UInt8)(label:Int):Option Vec:=
 (bZ s.Lg Lf).bind λx=>
 bif ! x.2 then
 some (⟨0,0⟩:Vec)
 else
 (bO s Lf label).bind λx1=>
 (gA x1 x.1.User).bind λx2=>
 some x2.1
def agx:Spec fam:=⟨[f0,ne,ge],[t6],λa=>ll a.1 a.2.1 a.2.2.1⟩
def gj(s:JG)(leaf:List UInt8)(label:Int)(user:Int):Option Bool:=
 (fU s leaf label user).bind λx=>
 (ll s leaf label).bind λx1=>
 (aW x x1).bind λx2=>
 some x2
def agO:Spec fam:=⟨[f0,ne,ge,ge],[gt],λa=>gj a.1 a.2.1 a.2.2.1 a.2.2.2.1⟩
def jg(s:JG)(N8:Int)(t:Vec×Int):Option ((Vec×Int) ⊕ Vec):=
 bif decide (t.2<(s.Kl.length:Int))then
 (
  (idx s.Kl t.2).bind λx=>
  bif x.LG == N8 then
  (idx s.Kl t.2).bind λx1=>
  (aD t.1 x1.LY).bind λx2=>
  some x2
  else
  some t.1).bind λv=>
 some (.inl (v,LC (t.2+1)))
 else
 some (.inr t.1)
def iI(s:JG)(N8:Int):Option Vec:=
 (loop (jg s N8) ((⟨0,0⟩:Vec),0)).bind λv1=>
 some v1
def aiD:Spec fam:=⟨[f0,ge],[t6],λa=>iI a.1 a.2.1⟩
def iv(a:Vec)(b:Vec):Option Vec:=
 some (⟨imax (LC (a.Mem - b.Mem)) 0,imax (LC (a.LA - b.LA)) 0⟩:Vec)
def agw:Spec fam:=⟨[t6,t6],[t6],λa=>iv a.1 a.2.1⟩
def ir(s:JG)(N8:Int):Option Vec:=
 (bo s N8).bind λx=>
 (
 bif ! x.2 then
  some true
 else
  some (! x.1.Up)).bind λq=>
 bif q then
 some (⟨0,0⟩:Vec)
 else
 (iI s N8).bind λx1=>
 (iv x.1.Cap x1).bind λx2=>
 some x2
def agN:Spec fam:=⟨[f0,ge],[t6],λa=>ir a.1 a.2.1⟩
def iH(s:JG)(Lf:List UInt8)(label:Int):Option Vec:=
 (iE s Lf label false).bind λx=>
 some x
def ah1:Spec fam:=⟨[f0,ne,ge],[t6],λa=>iH a.1 a.2.1 a.2.2.1⟩
def jn(s:JG)(label:Int)(t:Vec×Int):Option ((Vec×Int) ⊕ Vec):=
 bif decide (t.2<(s.LJ.length:Int))then
 (
  (idx s.LJ t.2).bind λx=>
  (
  bif x.Ll == label then
   bif decide (x.From≤s.Now)then
   some (decide (s.Now<x.Until))
   else
   some false
  else
   some false).bind λq=>
  bif q then
  (aD t.1 x.Need).bind λx1=>
  some x1
  else
  some t.1).bind λv=>
 some (.inl (v,LC (t.2+1)))
 else
 some (.inr t.1)
def lm(s:JG)(label:Int):Option Vec:=
 (loop (jn s label) ((⟨0,0⟩:Vec),0)).bind λv1=>
 some v1
def agv:Spec fam:=⟨[f0,ge],[t6],λa=>lm a.1 a.2.1⟩
def dO(s:JG)(label:Int)(size:Vec)(up:List (List UInt8))(i:Int):Option (Int ⊕ (Bool ⊕ Unit)):=
 bif decide (i<(up.length:Int))then
 (MZ i up.length).bind λi1=>
 (up[i1]?).bind λx=>
 (aY s x label).bind λx1=>
 (aD x1 size).bind λx2=>
 (MZ i up.length).bind λi2=>
 (up[i2]?).bind λx3=>
 (iH s x3 label).bind λx4=>
 (aW x2 x4).bind λx5=>
 bif ! x5 then
  some (.inr (.inl false))
 else
  (
  (MZ i up.length).bind λi3=>
  (up[i3]?).bind λx6=>
  bif x6 == ([114,111,111,116]:List UInt8)then
   (cb s label).bind λx7=>
   (lm s label).bind λx8=>
   (iv x7 x8).bind λx9=>
   (aW x2 x9).bind λx10=>
   some (! x10)
  else
   some false).bind λq=>
  bif q then
  some (.inr (.inl false))
  else
  some (.inl (LC (i+1)))
 else
 some (.inr (.inr ()))
def gv(s:JG)(Lf:List UInt8)(label:Int)(size:Vec):Option Bool:=
 (ig Lf).bind λup=>
 (loop (dO s label size up) 0).bind λq0=>
 match q0 with
 | .inl q1=>
 some q1
 | .inr _=>
 some true
def agM:Spec fam:=⟨[f0,ne,ge,t6],[gt],λa=>gv a.1 a.2.1 a.2.2.1 a.2.2.2.1⟩
def iY(l:List Ask)(prio:Int)(t:List Ask×Bool×Int):Option ((List Ask×Bool×Int) ⊕ ((List Ask×Bool))):=
 bif decide (t.2.2<(l.length:Int))then
 (
  (idx l t.2.2).bind λx=>
  (
  bif x.LD == prio then
   bif decide ((LC (x.ME - 1))≤0)then
   some (.inr true)
   else
   some (.inl (true,(⟨x.LD,x.Ll,⟨x.LY.Mem,x.LY.LA⟩,LC (x.ME - 1),x.LG,x.Om,0⟩:Ask)))
  else
   some (.inl (t.2.1,x)):Option ((Bool×Ask) ⊕ Bool)).bind λq0=>
  match q0 with
  | .inl q=>
  (app 64 t.1 [q.2]).bind λl1=>
  some (l1,q.1)
  | .inr is=>
  some (t.1,is)).bind λq1=>
 some (.inl (q1.1,q1.2,LC (t.2.2+1)))
 else
 some (.inr (t.1,t.2.1))
def lq(l:List Ask)(prio:Int):Option (List Ask×Bool):=
 (loop (iY l prio) ([],false,0)).bind λq2=>
 some (q2.1,q2.2)
def agu:Spec fam:=⟨[QZ,ge],[ac,gt],λa=>lq a.1 a.2.1⟩
def fO(s:JG)(k:Int):Option (Int ⊕ Int):=
 (
 bif decide (k<(s.Kl.length:Int))then
  (idx s.Kl k).bind λx2=>
  some (decide (x2.Id<(LC ((Rv .i64 s.L8 20)+(LC (s.Seq+1))))))
 else
  some false).bind λq=>
 bif q then
 some (.inl (LC (k+1)))
 else
 some (.inr k)
def fy(s:JG)(n:LG)(a:LM)(x:Ask):Option (JG×Lx):=
 (lq a.Mq x.LD).bind λx1=>
 (
 bif a.JG == 1 then
  some (⟨a.Id,2,a.Ls,a.User,a.LD,⟨a.Lp.Mem,a.Lp.LA⟩,[],s.Now,0,a.MC,a.Np,a.Told,a.NW⟩:LM)
 else
  (app 8 [] a.MC).bind λl=>
  (app 8 l [LC ((Rv .i64 s.L8 20)+(LC (s.Seq+1)))]).bind λl1=>
  some (⟨a.Id,a.JG,a.Ls,a.User,a.LD,⟨a.Lp.Mem,a.Lp.LA⟩,x1.1,a.NV,a.Nc,l1,a.Np,a.Told,a.NW⟩:LM)).bind λa1=>
 (loop (fO s) 0).bind λk1=>
 (slc s.Kl 0 k1).bind λl2=>
 (app 72 [] l2).bind λl3=>
 (app 72 l3 [(⟨LC ((Rv .i64 s.L8 20)+(LC (s.Seq+1))),a.Id,n.Id,⟨x.LY.Mem,x.LY.LA⟩,x.LD,n.Ll,a.JG == 1,0⟩:Lx)]).bind λl4=>
 (slc s.Kl k1 (s.Kl.length:Int)).bind λl5=>
 (app 72 l4 l5).bind λl6=>
 (aO (⟨⟨s.Lg.Lm,s.Lg.Lh⟩,s.Lu,s.Lv,l6,s.LH,s.LJ,s.Now,s.L8,LC (s.Seq+1)⟩:JG) a1).bind λx3=>
 some (x3,(⟨LC ((Rv .i64 s.L8 20)+(LC (s.Seq+1))),a.Id,n.Id,⟨x.LY.Mem,x.LY.LA⟩,x.LD,n.Ll,a.JG == 1,0⟩:Lx))
def agL:Spec fam:=⟨[f0,Q0,QF,QS],[.v (.st 10) [3],QK],λa=>fy a.1 a.2.1 a.2.2.1 a.2.2.2.1⟩
def kQ(s:JG)(n:LG)(x:Nt):Option (JG×Int×Lx×Bool):=
 (aK s x.LM).bind λx1=>
 (l7 x1.1.Mq x.LD).bind λx2=>
 (
 bif ! x1.2 then
  some true
 else
  (aF x1.1).bind λx3=>
  bif ! x3 then
  some true
  else
  bif ! x2.2 then
   some true
  else
   (df x2.1 n).bind λx4=>
   bif ! x4 then
   some true
   else
   (aW x2.1.LY n.Cap).bind λx5=>
   bif ! x5 then
    some true
   else
    (iB s x1.1.Ls x2.1).bind λx6=>
    bif ! x6 then
    some true
    else
    (gj s x1.1.Ls n.Ll x1.1.User).bind λx7=>
    some (! x7)).bind λq=>
 bif q then
 (cZ s n.Id).bind λx8=>
 some (x8,0,(⟨0,0,0,⟨0,0⟩,0,0,false,0⟩:Lx),false)
 else
 (
  (ir s n.Id).bind λx9=>
  (aW x2.1.LY x9).bind λx10=>
  bif ! x10 then
  some true
  else
  (gv s x1.1.Ls n.Ll x2.1.LY).bind λPE=>
  some (! PE)).bind λq1=>
 bif q1 then
  some (s,3,(⟨0,0,0,⟨0,0⟩,0,0,false,0⟩:Lx),true)
 else
  (cZ s n.Id).bind λTA=>
  (fy TA n x1.1 x2.1).bind λUD=>
  some (UD.1,1,UD.2,true)
def ahd:Spec fam:=⟨[f0,Q0,Qd],[f0,ge,QK,gt],λa=>kQ a.1 a.2.1 a.2.2.1⟩
def nt(a:Int)(b:Int):Option (Int×Int):=
 let mid:=LC ((LC ((Pj .i64 a 25)*(RH .i64 b 33554431)))+(LC ((RH .i64 a 33554431)*(Pj .i64 b 25))))
 let low:=LC ((LC ((RH .i64 a 33554431)*(RH .i64 b 33554431)))+(Rv .i64 (RH .i64 mid 33554431) 25))
 some (LC ((LC ((LC ((Pj .i64 a 25)*(Pj .i64 b 25)))+(Pj .i64 mid 25)))+(Pj .i64 low 50)),RH .i64 low 1125899906842623)
def af9:Spec fam:=⟨[ge,ge],[ge,ge],λa=>nt a.1 a.2.1⟩
def gy(x:T9)(y:T9):Option Int:=
 (
 bif x.A == 0 then
  some (⟨x.A,1⟩:T9)
 else
  some x).bind λx1=>
 (
 bif y.A == 0 then
  some (⟨y.A,1⟩:T9)
 else
  some y).bind λy1=>
 (
 bif x1.P == 0 then
  some true
 else
  some (y1.P == 0)).bind λq=>
 bif q then
 (
  bif x1.P == 0 then
  some (y1.P == 0)
  else
  some false).bind λq1=>
 bif q1 then
  some 0
 else
  bif x1.P == 0 then
  some 1
  else
  some (-1)
 else
 (nt x1.A y1.P).bind λx2=>
 (nt y1.A x1.P).bind λx3=>
 (
  bif decide (x2.1<x3.1)then
  some true
  else
  bif x2.1 == x3.1 then
   some (decide (x2.2<x3.2))
  else
   some false).bind λq2=>
 bif q2 then
  some (-1)
 else
  (
  bif x2.1 == x3.1 then
   some (x2.2 == x3.2)
  else
   some false).bind λq3=>
  bif q3 then
  some 0
  else
  some 1
def aga:Spec fam:=⟨[.v (.st 14) [],.v (.st 14) []],[ge],λa=>gy a.1 a.2.1⟩
def iu(a:Vec)(p:Vec):Option T9:=
 (gy (⟨a.Mem,p.Mem⟩:T9) (⟨a.LA,p.LA⟩:T9)).bind λx=>
 bif decide (x<0)then
 some (⟨a.LA,p.LA⟩:T9)
 else
 some (⟨a.Mem,p.Mem⟩:T9)
def af_:Spec fam:=⟨[t6,t6],[.v (.st 14) []],λa=>iu a.1 a.2.1⟩
def dN(a:Vec)(p:Vec)(b:Vec)(q:Vec):Option Int:=
 (
 (cm a).bind λx=>
 bif ! x then
  some true
 else
  (cm p).bind λx1=>
  bif ! x1 then
  some true
  else
  (cm b).bind λx2=>
  bif ! x2 then
   some true
  else
   (cm q).bind λx3=>
   some (! x3)).bind λq1=>
 bif q1 then
 some 0
 else
 (iu a p).bind λx4=>
 (iu b q).bind λx5=>
 (gy x4 x5).bind λx6=>
 some x6
def agb:Spec fam:=⟨[t6,t6,t6,t6],[ge],λa=>dN a.1 a.2.1 a.2.2.1 a.2.2.2.1⟩
def j7(s:JG)(a:List UInt8)(b:List UInt8)(label:Int):Option Bool:=
 (aY s a label).bind λx=>
 (bO s a label).bind λx1=>
 (aY s b label).bind λx2=>
 (bO s b label).bind λx3=>
 (dN x x1 x2 x3).bind λo=>
 bif decide (o<0)then
 some true
 else
 bif o == 0 then
  some (Op.bytesLess a b)
 else
  some false
def agc:Spec fam:=⟨[f0,ne,ne,ge],[gt],λa=>j7 a.1 a.2.1 a.2.2.1 a.2.2.2.1⟩
def g9(s:JG)(label:Int)(l:List (List UInt8))(t:List (List UInt8)×Int)(k:Int):Option (Int ⊕ Int):=
 (
 bif decide (k<(t.1.length:Int))then
  (MZ t.2 l.length).bind λi=>
  (l[i]?).bind λx=>
  (MZ k t.1.length).bind λi1=>
  (t.1[i1]?).bind λx1=>
  (j7 s x x1 label).bind λx2=>
  some (! x2)
 else
  some false).bind λq=>
 bif q then
 some (.inl (LC (k+1)))
 else
 some (.inr k)
def ic(s:JG)(label:Int)(l:List (List UInt8))(t:List (List UInt8)×Int):Option ((List (List UInt8)×Int) ⊕ List (List UInt8)):=
 bif decide (t.2<(l.length:Int))then
 (loop (g9 s label l t) 0).bind λk1=>
 (OV 0 k1 t.1.length).bind λp=>
 (app 16 [] (sub t.1 p.1 p.2)).bind λl1=>
 (MZ t.2 l.length).bind λi2=>
 (l[i2]?).bind λx3=>
 (app 16 l1 [x3]).bind λl2=>
 (OV k1 (t.1.length:Int) t.1.length).bind λp1=>
 (app 16 l2 (sub t.1 p1.1 p1.2)).bind λl3=>
 some (.inl (l3,LC (t.2+1)))
 else
 some (.inr t.1)
def kn(s:JG)(Lf:List UInt8)(label:Int):Option (List (List UInt8)):=
 (cz s.Lg Lf).bind λl=>
 (loop (ic s label l) ([],0)).bind λout=>
 some out
def agi:Spec fam:=⟨[f0,ne,ge],[f9],λa=>kn a.1 a.2.1 a.2.2.1⟩
def d7(s:JG)(label:Int)(self:JG→(List UInt8)→Int→Option (List (List UInt8)))(l:List (List UInt8))(t:List (List UInt8)×Int):Option ((List (List UInt8)×Int) ⊕ List (List UInt8)):=
 bif decide (t.2<(l.length:Int))then
 (MZ t.2 l.length).bind λi=>
 (l[i]?).bind λx=>
 (self s x label).bind λx1=>
 (app 16 t.1 x1).bind λl1=>
 some (.inl (l1,LC (t.2+1)))
 else
 some (.inr t.1)
def dH(self:JG→(List UInt8)→Int→Option (List (List UInt8)))(s:JG)(Lf:List UInt8)(label:Int):Option (List (List UInt8)):=
 (kn s Lf label).bind λl=>
 bif(l.length:Int) == 0 then
 some [Lf]
 else
 (loop (d7 s label self l) ([],0)).bind λout=>
 some out
def bR:Nat→JG→(List UInt8)→Int→Option (List (List UInt8))
 | 0=>λ_ _ _=>none
 | n+1=>dH (bR n)
def lW(a0:JG)(a1:List UInt8)(a2:Int):Option (List (List UInt8)):=bR 64 a0 a1 a2
def apE:Hint:=(Qe (.s .z (Qe (.s .z (.s (Qe ((Qf [(8,f9),(9,ge)] [8,9] [(2,[(8,f9)])] .z))) .z)))))
def agt:Spec fam:=⟨[f0,ne,ge],[f9],λa=>lW a.1 a.2.1 a.2.2.1⟩
def Km(n:Nat):Spec fam:=⟨[.v (.st 10) [],.v .str [],.v (.int .i64) []],[.v (.slice (.str)) [0]],λa=>bR n a.1 a.2.1 a.2.2.1⟩
def iM(s:JG)(label:Int):Option (List (List UInt8)):=
 (lW s ([114,111,111,116]:List UInt8) label).bind λx=>
 some x
def agK:Spec fam:=⟨[f0,ge],[f9],λa=>iM a.1 a.2.1⟩
def dW(PO:List LM)(t1:List Int×Int):Option ((List Int×Int) ⊕ List Int):=
 bif decide (t1.2<(PO.length:Int))then
 (MZ t1.2 PO.length).bind λi1=>
 (PO[i1]?).bind λx3=>
 (app 8 t1.1 [x3.Id]).bind λl3=>
 some (.inl (l3,LC (t1.2+1)))
 else
 some (.inr t1.1)
def gW(t:List LM×Int)(x:LM)(k:Int):Option (Int ⊕ Int):=
 (
 bif decide (k<(t.1.length:Int))then
  (MZ k t.1.length).bind λi=>
  (t.1[i]?).bind λx2=>
  some (decide (x2.LD≥x.LD))
 else
  some false).bind λq1=>
 bif q1 then
 some (.inl (LC (k+1)))
 else
 some (.inr k)
def gP(s:JG)(queue:List UInt8)(t:List LM×Int):Option ((List LM×Int) ⊕ List LM):=
 bif decide (t.2<(s.Lv.length:Int))then
 (
  (idx s.Lv t.2).bind λx=>
  (
  (aF x).bind λx1=>
  bif ! x1 then
   some true
  else
   some (! (x.Ls == queue))).bind λq=>
  bif q then
  some t.1
  else
  (loop (gW t x) 0).bind λk1=>
  (OV 0 k1 t.1.length).bind λp=>
  (app 200 [] (sub t.1 p.1 p.2)).bind λl=>
  (app 200 l [x]).bind λl1=>
  (OV k1 (t.1.length:Int) t.1.length).bind λp1=>
  (app 200 l1 (sub t.1 p1.1 p1.2)).bind λl2=>
  some l2).bind λout=>
 some (.inl (out,LC (t.2+1)))
 else
 some (.inr t.1)
def kx(s:JG)(queue:List UInt8):Option (List Int):=
 (loop (gP s queue) ([],0)).bind λPO=>
 (loop (dW PO) ([],0)).bind λl4=>
 some l4
def agJ:Spec fam:=⟨[f0,ne],[f8],λa=>kx a.1 a.2.1⟩
def jk(prio:Int)(t:List Ask×Int):Option ((List Ask×Int) ⊕ List Ask):=
 bif decide (t.2<(t.1.length:Int))then
 (
  (MZ t.2 t.1.length).bind λi=>
  (t.1[i]?).bind λx=>
  bif x.LD == prio then
  (MZ t.2 t.1.length).bind λi1=>
  (t.1[i1]?).bind λx1=>
  (MZ t.2 t.1.length).bind λi2=>
  (t.1[i2]?).bind λx2=>
  some (List.set t.1 i2 (⟨x2.LD,x2.Ll,⟨x2.LY.Mem,x2.LY.LA⟩,x2.ME,x2.LG,x2.Om,Nh (LC (x1.RY+1)) 100⟩:Ask))
  else
  some t.1).bind λout=>
 some (.inl (out,LC (t.2+1)))
 else
 some (.inr t.1)
def la(l:List Ask)(prio:Int):Option (List Ask):=
 (app 64 [] l).bind λl1=>
 (loop (jk prio) (l1,0)).bind λPO=>
 some PO
def ags:Spec fam:=⟨[QZ,ge],[ac],λa=>la a.1 a.2.1⟩
def dB(s:JG)(Sw:Int)(prio:Int)(i:Int):Option (Int ⊕ (Bool ⊕ Unit)):=
 bif decide (i<(s.LH.length:Int))then
 (
  (idx s.LH i).bind λx=>
  bif x.LM == Sw then
  (idx s.LH i).bind λx1=>
  some (x1.LD == prio)
  else
  some false).bind λq=>
 bif q then
  some (.inr (.inl true))
 else
  some (.inl (LC (i+1)))
 else
 some (.inr (.inr ()))
def jZ(s:JG)(Sw:Int)(prio:Int):Option Bool:=
 (loop (dB s Sw prio) 0).bind λq0=>
 match q0 with
 | .inl q1=>
 some q1
 | .inr _=>
 some false
def agr:Spec fam:=⟨[f0,ge,ge],[gt],λa=>jZ a.1 a.2.1 a.2.2.1⟩
def gG(s:JG)(x:Nt)(k:Int):Option (Int ⊕ Int):=
 (
 bif decide (k<(s.LH.length:Int))then
  (idx s.LH k).bind λx1=>
  some (decide (x1.LG<x.LG))
 else
  some false).bind λq=>
 bif q then
 some (.inl (LC (k+1)))
 else
 some (.inr k)
def kD(s:JG)(x:Nt):Option JG:=
 (loop (gG s x) 0).bind λk1=>
 (slc s.LH 0 k1).bind λl=>
 (app 24 [] l).bind λl1=>
 (app 24 l1 [x]).bind λl2=>
 (slc s.LH k1 (s.LH.length:Int)).bind λl3=>
 (app 24 l2 l3).bind λl4=>
 some (⟨⟨s.Lg.Lm,s.Lg.Lh⟩,s.Lu,s.Lv,s.Kl,l4,s.LJ,s.Now,s.L8,s.Seq⟩:JG)
def agq:Spec fam:=⟨[f0,Qd],[.v (.st 10) [5]],λa=>kD a.1 a.2.1⟩
def ls(s:JG)(n:LG)(a:LM)(x:Ask)(first:Bool):Option (JG×Int×Lx):=
 (iB s a.Ls x).bind λis=>
 (
 (cE x n).bind λx1=>
 bif x1 == 4 then
  some true
 else
  (aW x.LY n.Cap).bind λx2=>
  bif ! x2 then
  some true
  else
  bif first then
   some (! is)
  else
   some false).bind λq=>
 bif q then
 some (s,0,(⟨0,0,0,⟨0,0⟩,0,0,false,0⟩:Lx))
 else
 (df x n).bind λx3=>
 bif ! x3 then
  (
  bif first == is then
   (la a.Mq x.LD).bind λx4=>
   (aO s (⟨a.Id,a.JG,a.Ls,a.User,a.LD,⟨a.Lp.Mem,a.Lp.LA⟩,x4,a.NV,a.Nc,a.MC,a.Np,a.Told,a.NW⟩:LM)).bind λx5=>
   some x5
  else
   some s).bind λs1=>
  some (s1,0,(⟨0,0,0,⟨0,0⟩,0,0,false,0⟩:Lx))
 else
  (gv s a.Ls n.Ll x.LY).bind λx6=>
  bif ! x6 then
  some (s,0,(⟨0,0,0,⟨0,0⟩,0,0,false,0⟩:Lx))
  else
  (ir s n.Id).bind λx7=>
  (aW x.LY x7).bind λx8=>
  bif x8 then
   (fy s n a x).bind λx9=>
   some (x9.1,1,x9.2)
  else
   (
   bif first then
    (jZ s a.Id x.LD).bind λx10=>
    some (! x10)
   else
    some false).bind λq1=>
   bif q1 then
   (kD s (⟨n.Id,a.Id,x.LD⟩:Nt)).bind λPE=>
   some (PE,2,(⟨0,0,0,⟨0,0⟩,0,0,false,0⟩:Lx))
   else
   some (s,0,(⟨0,0,0,⟨0,0⟩,0,0,false,0⟩:Lx))
def agI:Spec fam:=⟨[f0,Q0,QF,QS,gt],[f0,ge,QK],λa=>ls a.1 a.2.1 a.2.2.1 a.2.2.2.1 a.2.2.2.2.1⟩
def dC(n:LG)(first:Bool)(ids:List Int)(t1:JG×JG×Lx×Int)(x2:LM×Bool)(t2:JG×JG×Lx×Int):Option ((JG×JG×Lx×Int) ⊕ ((JG×Int×Lx) ⊕ (JG×JG×Lx))):=
 bif decide (t2.2.2.2<(x2.1.Mq.length:Int))then
 (MZ t1.2.2.2 ids.length).bind λi3=>
 (ids[i3]?).bind λx5=>
 (aK t2.1 x5).bind λx6=>
 (idx x2.1.Mq t2.2.2.2).bind λx7=>
 (ls t2.1 n x6.1 x7 first).bind λx8=>
 bif x8.2.1 != 0 then
  some (.inr (.inl (x8.1,x8.2.1,x8.2.2)))
 else
  some (.inl (x8.1,t2.2.1,t2.2.2.1,LC (t2.2.2.2+1)))
 else
 some (.inr (.inr (t2.1,t2.2.1,t2.2.2.1)))
def dG(n:LG)(first:Bool)(leaves:List (List UInt8))(t:JG×JG×Lx×Int)(ids:List Int)(t1:JG×JG×Lx×Int):Option ((JG×JG×Lx×Int) ⊕ ((JG×Int×Lx) ⊕ (JG×JG×Lx))):=
 bif decide (t1.2.2.2<(ids.length:Int))then
 (
  (MZ t1.2.2.2 ids.length).bind λi1=>
  (ids[i1]?).bind λx1=>
  (aK t1.1 x1).bind λx2=>
  (MZ t.2.2.2 leaves.length).bind λi2=>
  (leaves[i2]?).bind λx3=>
  (gj t1.1 x3 n.Ll x2.1.User).bind λx4=>
  bif ! x4 then
  some (.inl (t1.1,t1.2.1,t1.2.2.1))
  else
  (loop (dC n first ids t1 x2) (t1.1,t1.2.1,t1.2.2.1,0)).bind λq0=>
  match q0 with
  | .inl q=>
   some (.inr (q.1,q.2.1,q.2.2))
  | .inr q1=>
   some (.inl (q1.1,q1.2.1,q1.2.2)):Option ((JG×JG×Lx) ⊕ (JG×Int×Lx))).bind λq0=>
 match q0 with
 | .inl q2=>
  some (.inl (q2.1,q2.2.1,q2.2.2,LC (t1.2.2.2+1)))
 | .inr q3=>
  some (.inr (.inl (q3.1,q3.2.1,q3.2.2)))
 else
 some (.inr (.inr (t1.1,t1.2.1,t1.2.2.1)))
def fN(n:LG)(first:Bool)(leaves:List (List UInt8))(t:JG×JG×Lx×Int):Option ((JG×JG×Lx×Int) ⊕ ((JG×Int×Lx) ⊕ (JG×JG×Lx))):=
 bif decide (t.2.2.2<(leaves.length:Int))then
 (MZ t.2.2.2 leaves.length).bind λi=>
 (leaves[i]?).bind λx=>
 (kx t.1 x).bind λids=>
 (loop (dG n first leaves t ids) (t.1,t.2.1,t.2.2.1,0)).bind λq0=>
 match q0 with
 | .inl q4=>
  some (.inr (.inl (q4.1,q4.2.1,q4.2.2)))
 | .inr q5=>
  some (.inl (q5.1,q5.2.1,q5.2.2,LC (t.2.2.2+1)))
 else
 some (.inr (.inr (t.1,t.2.1,t.2.2.1)))
def fF(s:JG)(n:LG)(first:Bool):Option (JG×Int×Lx):=
 (iM s n.Ll).bind λleaves=>
 (loop (fN n first leaves) (s,(⟨⟨[],[]⟩,[],[],[],[],[],0,0,0⟩:JG),(⟨0,0,0,⟨0,0⟩,0,0,false,0⟩:Lx),0)).bind λq0=>
 match q0 with
 | .inl q6=>
 some (q6.1,q6.2.1,q6.2.2)
 | .inr q7=>
 some (q7.1,0,(⟨0,0,0,⟨0,0⟩,0,0,false,0⟩:Lx))
def ahc:Spec fam:=⟨[f0,Q0,gt],[f0,ge,QK],λa=>fF a.1 a.2.1 a.2.2.1⟩
def k_(s:JG)(node:Int):Option (JG×Int×Lx):=
 (bo s node).bind λx=>
 (
 bif ! x.2 then
  some true
 else
  bif ! x.1.Up then
  some true
  else
  bif decide ((s.Kl.length:Int)≥200)then
   some true
  else
   some (decide (s.Seq≥1048575))).bind λq=>
 bif q then
 some (s,0,(⟨0,0,0,⟨0,0⟩,0,0,false,0⟩:Lx))
 else
 (kq s node).bind λx1=>
 (
  bif x1.2 then
  (kQ s x.1 x1.1).bind λx2=>
  bif x2.2.2.2 then
   some (.inr (x2.1,x2.2.1,x2.2.2.1))
  else
   some (.inl (x2.1,(⟨⟨[],[]⟩,[],[],[],[],[],0,0,0⟩:JG),(⟨0,0,0,⟨0,0⟩,0,0,false,0⟩:Lx)))
  else
  some (.inl (s,(⟨⟨[],[]⟩,[],[],[],[],[],0,0,0⟩:JG),(⟨0,0,0,⟨0,0⟩,0,0,false,0⟩:Lx))):Option ((JG×JG×Lx) ⊕ (JG×Int×Lx))).bind λq0=>
 match q0 with
 | .inl q1=>
  (fF q1.1 x.1 true).bind λx3=>
  bif x3.2.1 != 0 then
  some (x3.1,x3.2.1,x3.2.2)
  else
  (fF x3.1 x.1 false).bind λx4=>
  some (x4.1,x4.2.1,x4.2.2)
 | .inr q2=>
  some (q2.1,q2.2.1,q2.2.2)
def ahC:Spec fam:=⟨[f0,ge],[f0,ge,QK],λa=>k_ a.1 a.2.1⟩
def gZ(node:Int)(t:JG×List Lx×Int):Option ((JG×List Lx×Int) ⊕ ((JG×List Lx))):=
 bif decide (t.2.2<3)then
 (k_ t.1 node).bind λx=>
 bif x.2.1 != 1 then
  some (.inr (x.1,t.2.1))
 else
  (app 72 t.2.1 [x.2.2]).bind λl=>
  some (.inl (x.1,l,LC (t.2.2+1)))
 else
 some (.inr (t.1,t.2.1))
def kt(s:JG)(node:Int):Option (JG×List Lx):=
 (loop (gZ node) (s,[],0)).bind λq=>
 some (q.1,q.2)
def aiv:Spec fam:=⟨[f0,ge],[f0,QQ],λa=>kt a.1 a.2.1⟩
def hF(x:Input)(x3:JG×Int)(t:List Int×Int):Option ((List Int×Int) ⊕ List Int):=
 bif decide (t.2<(x.Ids.length:Int))then
 (
  (idx x.Ids t.2).bind λx5=>
  (bv x3.1 x5).bind λx6=>
  (
  bif x6.2 then
   some (x6.1.LG == x.Id)
  else
   some false).bind λq1=>
  bif q1 then
  (app 8 t.1 [x6.1.Id]).bind λl=>
  some l
  else
  some t.1).bind λids=>
 some (.inl (ids,LC (t.2+1)))
 else
 some (.inr t.1)
def kF(s:JG)(x:Input):Option (JG×Output):=
 (bo s x.Id).bind λx1=>
 (
 bif x1.2 then
  bif x1.1.Up then
  some (x1.1.Nc == x.Nc)
  else
  some false
 else
  some false).bind λq=>
 bif q then
 (fJ s x.Id).bind λx2=>
 some (s,(⟨0,[],x2,[],0⟩:Output))
 else
 (li s x.Id x.Nc).bind λx3=>
 bif x3.2 != 0 then
  (aH s x3.2).bind λx4=>
  some (x4.1,x4.2)
 else
  (loop (hF x x3) ([],0)).bind λaoU=>
  (bB x3.1 aoU).bind λx7=>
  (kt x7 x.Id).bind λx8=>
  (fJ x8.1 x.Id).bind λx9=>
  some (x8.1,(⟨0,[],x9,[],0⟩:Output))
def anb:Spec fam:=⟨[f0,.v (.st 15) []],[f0,QR],λa=>kF a.1 a.2.1⟩
def fZ(n:Int):Option Bool:=
 bif decide (n≥1)then
 some (decide (n≤1073741824))
 else
 some false
def aiu:Spec fam:=⟨[ge],[gt],λa=>fZ a.1⟩
def fm(s:JG)(t:List LM×Bool×Int):Option ((List LM×Bool×Int) ⊕ List LM):=
 bif decide (t.2.2<(s.Lv.length:Int))then
 (
  (
  bif ! t.2.1 then
   (idx s.Lv t.2.2).bind λx=>
   (aF x).bind λx1=>
   some (! x1)
  else
   some false).bind λq=>
  bif q then
  some (t.1,true)
  else
  (idx s.Lv t.2.2).bind λx2=>
  (app 200 t.1 [x2]).bind λl=>
  some (l,t.2.1)).bind λq1=>
 some (.inl (q1.1,q1.2,LC (t.2.2+1)))
 else
 some (.inr t.1)
def jh(s:JG):Option JG:=
 (loop (fm s) ([],false,0)).bind λl1=>
 some (⟨⟨s.Lg.Lm,s.Lg.Lh⟩,s.Lu,l1,s.Kl,s.LH,s.LJ,s.Now,s.L8,s.Seq⟩:JG)
def ait:Spec fam:=⟨[f0],[.v (.st 10) [3]],λa=>jh a.1⟩
def dc(s:JG)(t:Int×Int):Option ((Int×Int) ⊕ Int):=
 bif decide (t.2<(s.Lv.length:Int))then
 (
  (idx s.Lv t.2).bind λx3=>
  (aF x3).bind λx4=>
  bif x4 then
  some (LC (t.1+1))
  else
  some t.1).bind λlive=>
 some (.inl (live,LC (t.2+1)))
 else
 some (.inr t.1)
def jd(s:JG)(a:LM):Option (JG×Int):=
 (
 bif decide (a.Id<0)then
  some true
 else
  bif decide (a.Id>9999)then
  some true
  else
  bif decide (a.User<0)then
   some true
  else
   bif decide (a.User>99)then
   some true
   else
   bif decide (a.LD<0)then
    some true
   else
    bif decide (a.LD>9)then
    some true
    else
    (fZ a.Lp.Mem).bind λx=>
    bif ! x then
     some true
    else
     (fZ a.Lp.LA).bind λx1=>
     some (! x1)).bind λq=>
 bif q then
 some (s,1)
 else
 (aK s a.Id).bind λx2=>
 bif x2.2 then
  some (s,7)
 else
  (loop (dc s) (0,0)).bind λakK=>
  bif decide (akK≥16)then
  some (s,4)
  else
  (bn s.Lg a.Ls).bind λx5=>
  bif ! x5 then
   some (s,19)
  else
   (
   bif decide ((s.Lv.length:Int)≥16)then
    (jh s).bind λx6=>
    some x6
   else
    some s).bind λs1=>
   (jT a).bind λx7=>
   (aO s1 (⟨a.Id,1,a.Ls,a.User,a.LD,⟨a.Lp.Mem,a.Lp.LA⟩,x7,s1.Now,0,[],[],[],[]⟩:LM)).bind λx8=>
   some (x8,0)
def ana:Spec fam:=⟨[f0,QF],[f0,ge],λa=>jd a.1 a.2.1⟩
def fT(s:JG)(ids:List Int)(t:List Lx×Int):Option ((List Lx×Int) ⊕ List Lx):=
 bif decide (t.2<(ids.length:Int))then
 (
  (idx ids t.2).bind λx=>
  (bv s x).bind λx1=>
  bif x1.2 then
  (app 72 t.1 [x1.1]).bind λl=>
  some l
  else
  some t.1).bind λl1=>
 some (.inl (l1,LC (t.2+1)))
 else
 some (.inr t.1)
def ft(s:JG)(ids:List Int):Option (List Lx):=
 (loop (fT s ids) ([],0)).bind λl2=>
 some l2
def aiq:Spec fam:=⟨[f0,pp],[QQ],λa=>ft a.1 a.2.1⟩
def ez(s:JG)(Sw:Int)(t:List Int×Int):Option ((List Int×Int) ⊕ List Int):=
 bif decide (t.2<(s.Kl.length:Int))then
 (
  (
  (idx s.Kl t.2).bind λx=>
  bif x.LM == Sw then
   (idx s.Kl t.2).bind λx1=>
   some (x1.Mw != 0)
  else
   some false).bind λq=>
  bif q then
  (idx s.Kl t.2).bind λx2=>
  (app 8 t.1 [x2.Id]).bind λl=>
  some l
  else
  some t.1).bind λl1=>
 some (.inl (l1,LC (t.2+1)))
 else
 some (.inr t.1)
def dZ(s:JG)(Sw:Int):Option (List Int):=
 (loop (ez s Sw) ([],0)).bind λl2=>
 some l2
def aip:Spec fam:=⟨[f0,ge],[f8],λa=>dZ a.1 a.2.1⟩
def lw(n:Int):Option Bool:=
 bif decide (n≥1)then
 some (decide (n≤1073741824))
 else
 some false
def ahb:Spec fam:=⟨[ge],[gt],λa=>lw a.1⟩
def kG(a:Ask)(labels:Int):Option Int:=
 (
 bif decide (a.LD<0)then
  some true
 else
  bif decide (a.LD>9)then
  some true
  else
  bif decide (a.Ll<0)then
   some true
  else
   bif decide (a.Ll≥labels)then
   some true
   else
   (lw a.LY.Mem).bind λx=>
   bif ! x then
    some true
   else
    (lw a.LY.LA).bind λx1=>
    bif ! x1 then
    some true
    else
    bif decide (a.LG<(-1))then
     some true
    else
     bif decide (a.LG>999)then
     some true
     else
     bif decide (a.Om<(-1))then
      some true
     else
      bif decide (a.Om>99)then
      some true
      else
      bif decide (a.LG≥0)then
       some (decide (a.Om<0))
      else
       some false).bind λq=>
 bif q then
 some 1
 else
 (
  bif decide (a.ME<0)then
  some true
  else
  some (decide (a.ME>50))).bind λq1=>
 bif q1 then
  some 4
 else
  some 0
def ahB:Spec fam:=⟨[QS,ge],[ge],λa=>kG a.1 a.2.1⟩
def jR(l:List Ask)(a:Ask)(t:List Ask×Bool×Int):Option ((List Ask×Bool×Int) ⊕ ((List Ask×Bool))):=
 bif decide (t.2.2<(l.length:Int))then
 (
  (
  (
   bif ! t.2.1 then
   (idx l t.2.2).bind λx=>
   some (decide (x.LD>a.LD))
   else
   some false).bind λq=>
  bif q then
   (app 64 t.1 [(⟨a.LD,a.Ll,⟨a.LY.Mem,a.LY.LA⟩,a.ME,a.LG,a.Om,0⟩:Ask)]).bind λl1=>
   some (l1,true)
  else
   some (t.1,t.2.1)).bind λq1=>
  (idx l t.2.2).bind λx1=>
  bif x1.LD != a.LD then
  (idx l t.2.2).bind λx2=>
  (app 64 q1.1 [x2]).bind λl2=>
  some (l2,q1.2)
  else
  some (q1.1,q1.2)).bind λq2=>
 some (.inl (q2.1,q2.2,LC (t.2.2+1)))
 else
 some (.inr (t.1,t.2.1))
def lO(l:List Ask)(a:Ask):Option (List Ask×Int):=
 (loop (jR l a) ([],a.ME == 0,0)).bind λq3=>
 (
 bif ! q3.2 then
  (app 64 q3.1 [(⟨a.LD,a.Ll,⟨a.LY.Mem,a.LY.LA⟩,a.ME,a.LG,a.Om,0⟩:Ask)]).bind λl3=>
  some l3
 else
  some q3.1).bind λout=>
 bif decide ((out.length:Int)>8)then
 some ([],4)
 else
 some (out,0)
def ahA:Spec fam:=⟨[QZ,QS],[ac,ge],λa=>lO a.1 a.2.1⟩
def fV(s:JG)(more:List Ask)(t:List Ask×Int):Option ((List Ask×Int) ⊕ ((List Ask×Int) ⊕ List Ask)):=
 bif decide (t.2<(more.length:Int))then
 (idx more t.2).bind λx=>
 (kG x (s.Lg.Lm.length:Int)).bind λe=>
 bif e != 0 then
  some (.inr (.inl ([],e)))
 else
  (idx more t.2).bind λx1=>
  (lO t.1 x1).bind λx2=>
  bif x2.2 != 0 then
  some (.inr (.inl ([],x2.2)))
  else
  some (.inl (x2.1,LC (t.2+1)))
 else
 some (.inr (.inr (t.1)))
def jX(s:JG)(l:List Ask)(more:List Ask):Option (List Ask×Int):=
 (loop (fV s more) (l,0)).bind λq0=>
 match q0 with
 | .inl q=>
 some (q.1,q.2)
 | .inr l1=>
 some (l1,0)
def aio:Spec fam:=⟨[f0,QZ,QZ],[QZ,ge],λa=>jX a.1 a.2.1 a.2.2.1⟩
def e_(x:Input)(t:JG×LM×Int):Option ((JG×LM×Int) ⊕ ((JG×LM))):=
 bif decide (t.2.2<(x.Ids.length:Int))then
 (
  (idx x.Ids t.2.2).bind λx10=>
  (bv t.1 x10).bind λPE=>
  (
  bif PE.2 then
   bif PE.1.LM == t.2.1.Id then
   some (! PE.1.Lp)
   else
   some false
  else
   some false).bind λq=>
  bif q then
  (dR t.1 PE.1.Id).bind λTA=>
  (cH t.2.1.MC PE.1.Id).bind λUD=>
  some (TA,(⟨t.2.1.Id,t.2.1.JG,t.2.1.Ls,t.2.1.User,t.2.1.LD,⟨t.2.1.Lp.Mem,t.2.1.Lp.LA⟩,t.2.1.Mq,t.2.1.NV,t.2.1.Nc,UD.1,t.2.1.Np,t.2.1.Told,t.2.1.NW⟩:LM))
  else
  some (t.1,t.2.1)).bind λq1=>
 some (.inl (q1.1,q1.2,LC (t.2.2+1)))
 else
 some (.inr (t.1,t.2.1))
def iV(s:JG)(x:Input):Option (JG×Output):=
 (aK s x.Id).bind λx1=>
 bif ! x1.2 then
 (aH s 2).bind λx2=>
 some (x2.1,x2.2)
 else
 bif x1.1.JG != 2 then
  (aH s 14).bind λx3=>
  some (x3.1,x3.2)
 else
  bif decide (x.Nc<x1.1.Nc)then
  (aH s 15).bind λx4=>
  some (x4.1,x4.2)
  else
  bif x.Nc == x1.1.Nc then
   (ft s x1.1.Told).bind λx5=>
   (dZ s x1.1.Id).bind λx6=>
   (app 8 [] x1.1.NW).bind λl=>
   some (s,(⟨0,x5,x6,l,0⟩:Output))
  else
   bif decide ((LC (x.Nc - 1))>x1.1.Nc)then
   (aH s 1).bind λx7=>
   some (x7.1,x7.2)
   else
   (jX s x1.1.Mq x.Mq).bind λx8=>
   bif x8.2 != 0 then
    (aH s x8.2).bind λx9=>
    some (x9.1,x9.2)
   else
    (loop (e_ x) (s,x1.1,0)).bind λq2=>
    (ft q2.1 q2.2.MC).bind λVt=>
    (dZ q2.1 q2.2.Id).bind λWt=>
    (app 8 [] q2.2.Np).bind λl1=>
    (aO q2.1 (⟨q2.2.Id,q2.2.JG,q2.2.Ls,q2.2.User,q2.2.LD,⟨q2.2.Lp.Mem,q2.2.Lp.LA⟩,x8.1,q2.1.Now,x.Nc,[],[],q2.2.MC,q2.2.Np⟩:LM)).bind λYx=>
    some (Yx,(⟨0,Vt,Wt,l1,0⟩:Output))
def am_:Spec fam:=⟨[f0,.v (.st 15) []],[f0,QR],λa=>iV a.1 a.2.1⟩
def kZ(s:JG)(N8:Int)(state:Int):Option (JG×List Int):=
 (aK s N8).bind λx=>
 (
 bif ! x.2 then
  some true
 else
  (aF x.1).bind λx1=>
  some (! x1)).bind λq=>
 bif q then
 some (s,[])
 else
 (aO s (⟨x.1.Id,state,x.1.Ls,x.1.User,x.1.LD,⟨x.1.Lp.Mem,x.1.Lp.LA⟩,[],x.1.NV,x.1.Nc,[],[],[],[]⟩:LM)).bind λx2=>
 (dQ x2 N8).bind λx3=>
 some (x3.1,x3.2)
def aik:Spec fam:=⟨[f0,ge,ge],[f0,f8],λa=>kZ a.1 a.2.1 a.2.2.1⟩
def iy(s:JG)(N8:Int)(state:Int):Option (JG×Output):=
 (aK s N8).bind λx=>
 bif ! x.2 then
 (aH s 2).bind λx1=>
 some (x1.1,x1.2)
 else
 (aF x.1).bind λx2=>
 bif ! x2 then
  (aH s 14).bind λx3=>
  some (x3.1,x3.2)
 else
  (kZ s N8 state).bind λx4=>
  some (x4.1,(⟨0,[],[],x4.2,0⟩:Output))
def am9:Spec fam:=⟨[f0,ge,ge],[f0,QR],λa=>iy a.1 a.2.1 a.2.2.1⟩
def ff(l:List Ask)(label:Int)(t:Vec×Int):Option ((Vec×Int) ⊕ Vec):=
 bif decide (t.2<(l.length:Int))then
 (
  (idx l t.2).bind λx=>
  bif x.Ll == label then
  (idx l t.2).bind λx1=>
  (idx l t.2).bind λx2=>
  (idx l t.2).bind λx3=>
  (idx l t.2).bind λx4=>
  (aD t.1 (⟨LC (x1.LY.Mem*x2.ME),LC (x3.LY.LA*x4.ME)⟩:Vec)).bind λx5=>
  some x5
  else
  some t.1).bind λv=>
 some (.inl (v,LC (t.2+1)))
 else
 some (.inr t.1)
def jc(l:List Ask)(label:Int):Option Vec:=
 (loop (ff l label) ((⟨0,0⟩:Vec),0)).bind λv1=>
 some v1
def ahY:Spec fam:=⟨[QZ,ge],[t6],λa=>jc a.1 a.2.1⟩
def eJ(s:JG)(Lf:List UInt8)(label:Int)(t:Vec×Int):Option ((Vec×Int) ⊕ Vec):=
 bif decide (t.2<(s.Lv.length:Int))then
 (
  (
  (idx s.Lv t.2).bind λx=>
  (aF x).bind λx1=>
  bif x1 then
   (idx s.Lv t.2).bind λx2=>
   (fA x2.Ls Lf).bind λx3=>
   some x3
  else
   some false).bind λq=>
  bif q then
  (idx s.Lv t.2).bind λx4=>
  (jc x4.Mq label).bind λx5=>
  (aD t.1 x5).bind λx6=>
  some x6
  else
  some t.1).bind λv=>
 some (.inl (v,LC (t.2+1)))
 else
 some (.inr t.1)
def dT(s:JG)(Lf:List UInt8)(label:Int):Option Vec:=
 (loop (eJ s Lf label) ((⟨0,0⟩:Vec),0)).bind λv1=>
 some v1
def amL:Spec fam:=⟨[f0,ne,ge],[t6],λa=>dT a.1 a.2.1 a.2.2.1⟩
def bM(n:Int):Option Int:=
 (
 bif decide (n<0)then
  some true
 else
  some (decide (n>1125899906842624))).bind λq=>
 bif q then
 some 0
 else
 some n
def ahm:Spec fam:=⟨[ge],[ge],λa=>bM a.1⟩
def bX(want:List Int)(most:List Int)(n:Int)(t1:Int×List Int×Int):Option ((Int×List Int×Int) ⊕ List Int):=
 bif decide (t1.2.2<n)then
 (idx want t1.2.2).bind λx7=>
 (bM x7).bind λx8=>
 (idx most t1.2.2).bind λx9=>
 (bM x9).bind λx10=>
 (MZ t1.2.2 t1.2.1.length).bind λi=>
 (t1.2.1[i]?).bind λPE=>
 let TA:=Nh (imax (LC ((Nh x8 x10) - PE)) 0) t1.1
 (MZ t1.2.2 t1.2.1.length).bind λi1=>
 (t1.2.1[i1]?).bind λUD=>
 (MZ t1.2.2 t1.2.1.length).bind λi2=>
 (t1.2.1[i2]?).bind λVt=>
 some (.inl (LC (t1.1 - TA),List.set t1.2.1 i2 (LC (UD+TA)),LC (t1.2.2+1)))
 else
 some (.inr t1.2.1)
def bW(least:List Int)(want:List Int)(most:List Int)(n:Int)(t:Int×List Int×Int):Option ((Int×List Int×Int) ⊕ ((Int×List Int))):=
 bif decide (t.2.2<n)then
 (idx least t.2.2).bind λx=>
 (bM x).bind λx1=>
 (idx want t.2.2).bind λx2=>
 (bM x2).bind λx3=>
 (idx most t.2.2).bind λx4=>
 (bM x4).bind λx5=>
 let x6:=Nh (Nh (Nh x1 x3) x5) t.1
 (app 8 t.2.1 [x6]).bind λl=>
 some (.inl (LC (t.1 - x6),l,LC (t.2.2+1)))
 else
 some (.inr (t.1,t.2.1))
def dq(total:Int)(least:List Int)(want:List Int)(most:List Int):Option (List Int):=
 let n:=Nh (Nh (least.length:Int) (want.length:Int)) (most.length:Int)
 (bM total).bind λleft=>
 (loop (bW least want most n) (left,[],0)).bind λq=>
 (loop (bX want most n) (q.1,q.2,0)).bind λout=>
 some out
def ah0:Spec fam:=⟨[ge,pp,pp,pp],[f8],λa=>dq a.1 a.2.1 a.2.2.1 a.2.2.2.1⟩
def bf(s:JG)(label:Int)(self:JG→(List UInt8)→Int→Int→Option (List Mr))(kids:List (List UInt8))(x8:List Int)(t1:List Mr×Int):Option ((List Mr×Int) ⊕ List Mr):=
 bif decide (t1.2<(kids.length:Int))then
 (MZ t1.2 kids.length).bind λi4=>
 (kids[i4]?).bind λx9=>
 (MZ t1.2 x8.length).bind λi5=>
 (x8[i5]?).bind λx10=>
 (self s x9 label x10).bind λPE=>
 (app 24 t1.1 PE).bind λl3=>
 some (.inl (l3,LC (t1.2+1)))
 else
 some (.inr t1.1)
def bG(s:JG)(label:Int)(kids:List (List UInt8))(t:List Int×List Int×List Int×Int):Option ((List Int×List Int×List Int×Int) ⊕ ((List Int×List Int×List Int))):=
 bif decide (t.2.2.2<(kids.length:Int))then
 (MZ t.2.2.2 kids.length).bind λi=>
 (kids[i]?).bind λx=>
 (bO s x label).bind λx1=>
 (app 8 t.1 [x1.Mem]).bind λl=>
 (MZ t.2.2.2 kids.length).bind λi1=>
 (kids[i1]?).bind λx2=>
 (iH s x2 label).bind λx3=>
 (app 8 t.2.2.1 [x3.Mem]).bind λl1=>
 (MZ t.2.2.2 kids.length).bind λi2=>
 (kids[i2]?).bind λx4=>
 (aY s x4 label).bind λx5=>
 (MZ t.2.2.2 kids.length).bind λi3=>
 (kids[i3]?).bind λx6=>
 (dT s x6 label).bind λx7=>
 (app 8 t.2.1 [LC (x5.Mem+x7.Mem)]).bind λl2=>
 some (.inl (l,l2,l1,LC (t.2.2.2+1)))
 else
 some (.inr (t.1,t.2.1,t.2.2.1))
def br(self:JG→(List UInt8)→Int→Int→Option (List Mr))(s:JG)(Lf:List UInt8)(label:Int)(mem:Int):Option (List Mr):=
 (cz s.Lg Lf).bind λkids=>
 bif(kids.length:Int) == 0 then
 some [(⟨Lf,mem⟩:Mr)]
 else
 (loop (bG s label kids) ([],[],[],0)).bind λq=>
 (dq mem q.1 q.2.1 q.2.2).bind λx8=>
 (loop (bf s label self kids x8) ([],0)).bind λout=>
 some out
def aV:Nat→JG→(List UInt8)→Int→Int→Option (List Mr)
 | 0=>λ_ _ _ _=>none
 | n+1=>br (aV n)
def kg(a0:JG)(a1:List UInt8)(a2:Int)(a3:Int):Option (List Mr):=aV 64 a0 a1 a2 a3
def h83:Hint:=(Qe (.s .z (Qe (.s .z (.s (Qe ((Qf [(10,f8),(11,f8),(12,f8),(13,ge)] [10,11,12,13] [(2,[(10,f8),(11,f8),(12,f8)])] .z))) (Qe (.s .z (.s (Qe ((Qf [(15,QC),(16,ge)] [15,16] [(4,[(15,QC)])] .z))) .z))))))))
def amO:Spec fam:=⟨[f0,ne,ge,ge],[QC],λa=>kg a.1 a.2.1 a.2.2.1 a.2.2.2.1⟩
def K9(n:Nat):Spec fam:=⟨[.v (.st 10) [],.v .str [],.v (.int .i64) [],.v (.int .i64) []],[.v (.slice (.st 16)) [0]],λa=>aV n a.1 a.2.1 a.2.2.1 a.2.2.2.1⟩
def bH(l:List Mr)(t:List Mr×Int)(k:Int):Option (Int ⊕ Int):=
 (
 bif decide (k<(t.1.length:Int))then
  (MZ k t.1.length).bind λi=>
  (t.1[i]?).bind λx1=>
  (MZ t.2 l.length).bind λi1=>
  (l[i1]?).bind λx2=>
  some (Op.bytesLess x1.LB x2.LB)
 else
  some false).bind λq=>
 bif q then
 some (.inl (LC (k+1)))
 else
 some (.inr k)
def bh(l:List Mr)(t:List Mr×Int):Option ((List Mr×Int) ⊕ List Mr):=
 bif decide (t.2<(l.length:Int))then
 (loop (bH l t) 0).bind λk1=>
 (OV 0 k1 t.1.length).bind λp=>
 (app 24 [] (sub t.1 p.1 p.2)).bind λl1=>
 (MZ t.2 l.length).bind λi2=>
 (l[i2]?).bind λx3=>
 (app 24 l1 [x3]).bind λl2=>
 (OV k1 (t.1.length:Int) t.1.length).bind λp1=>
 (app 24 l2 (sub t.1 p1.1 p1.2)).bind λl3=>
 some (.inl (l3,LC (t.2+1)))
 else
 some (.inr t.1)
def cj(s:JG)(label:Int):Option (List Mr):=
 (cb s label).bind λx=>
 (kg s ([114,111,111,116]:List UInt8) label x.Mem).bind λl=>
 (loop (bh l) ([],0)).bind λout=>
 some out
def anI:Spec fam:=⟨[f0,ge],[QC],λa=>cj a.1 a.2.1⟩
def bz(s:JG)(Lf:List UInt8)(label:Int)(x:Vec)(x1:Vec)(x2:LM)(k:Int):Option (Int ⊕ (Int ⊕ Unit)):=
 (
 bif decide (k<(x2.Mq.length:Int))then
  (aF x2).bind λx3=>
  bif x3 then
  some (x2.Ls == Lf)
  else
  some false
 else
  some false).bind λq=>
 bif q then
 (
  (idx x2.Mq k).bind λx4=>
  bif x4.Ll == label then
  (idx x2.Mq k).bind λx5=>
  some (decide ((LC (x5.LY.Mem+x.Mem))≤x1.Mem))
  else
  some false).bind λq1=>
 bif q1 then
  (dT s Lf label).bind λx6=>
  some (.inr (.inl (Nh x6.Mem (LC (x1.Mem - x.Mem)))))
 else
  some (.inl (LC (k+1)))
 else
 some (.inr (.inr ()))
def bS(s:JG)(Lf:List UInt8)(label:Int)(x:Vec)(x1:Vec)(i:Int):Option (Int ⊕ (Int ⊕ Unit)):=
 bif decide (i<(s.Lv.length:Int))then
 (idx s.Lv i).bind λx2=>
 (loop (bz s Lf label x x1 x2) 0).bind λq0=>
 match q0 with
 | .inl q2=>
  some (.inr (.inl q2))
 | .inr _=>
  some (.inl (LC (i+1)))
 else
 some (.inr (.inr ()))
def dv(s:JG)(Lf:List UInt8)(label:Int):Option Int:=
 (aY s Lf label).bind λx=>
 (bO s Lf label).bind λx1=>
 (loop (bS s Lf label x x1) 0).bind λq0=>
 match q0 with
 | .inl q3=>
 some q3
 | .inr _=>
 some 0
def anG:Spec fam:=⟨[f0,ne,ge],[ge],λa=>dv a.1 a.2.1 a.2.2.1⟩
def cO(s:JG)(c:Lx):Option (List UInt8):=
 (aK s c.LM).bind λx=>
 some x.1.Ls
def amK:Spec fam:=⟨[f0,QK],[ne],λa=>cO a.1 a.2.1⟩
def fD(l:List Int)(n:Int)(i:Int):Option (Int ⊕ (Bool ⊕ Unit)):=
 bif decide (i<(l.length:Int))then
 (idx l i).bind λx=>
 bif x == n then
  some (.inr (.inl true))
 else
  some (.inl (LC (i+1)))
 else
 some (.inr (.inr ()))
def fH(l:List Int)(n:Int):Option Bool:=
 (loop (fD l n) 0).bind λq0=>
 match q0 with
 | .inl q=>
 some q
 | .inr _=>
 some false
def amJ:Spec fam:=⟨[pp,ge],[gt],λa=>fH a.1 a.2.1⟩
def bI(s:JG)(Lf:List UInt8)(label:Int)(l:List Int)(t:Int×Int):Option ((Int×Int) ⊕ Int):=
 bif decide (t.2<(s.Kl.length:Int))then
 (
  (idx s.Kl t.2).bind λx=>
  (
  bif x.Ll == label then
   bif Lf == ([]:List UInt8)then
   bif x.Mw != 0 then
    some true
   else
    (fH l x.Id).bind λx1=>
    some x1
   else
   (cO s x).bind λx2=>
   bif x2 == Lf then
    bif x.Mw != 0 then
    some true
    else
    (fH l x.Id).bind λx3=>
    some x3
   else
    some false
  else
   some false).bind λq=>
  bif q then
  let n:=LC (t.1+x.LY.Mem)
  some n
  else
  some t.1).bind λn1=>
 some (.inl (n1,LC (t.2+1)))
 else
 some (.inr t.1)
def co(s:JG)(Lf:List UInt8)(label:Int)(l:List Int):Option Int:=
 (loop (bI s Lf label l) (0,0)).bind λn2=>
 some n2
def anF:Spec fam:=⟨[f0,ne,ge,pp],[ge],λa=>co a.1 a.2.1 a.2.2.1 a.2.2.2.1⟩
def bi(s:JG)(Lf:List UInt8)(label:Int)(l:List Int)(t:Lx×Bool×Int):Option ((Lx×Bool×Int) ⊕ ((Lx×Bool))):=
 bif decide (t.2.2<(s.Kl.length:Int))then
 (
  (idx s.Kl t.2.2).bind λx=>
  (
  bif x.Ll != label then
   some true
  else
   (cO s x).bind λx1=>
   bif ! (x1 == Lf)then
   some true
   else
   bif x.Mw != 0 then
    some true
   else
    (fH l x.Id).bind λx2=>
    some x2).bind λq=>
  bif q then
  some (t.1,t.2.1)
  else
  (
   bif ! t.2.1 then
   some true
   else
   bif t.1.Lp then
    bif ! x.Lp then
    some true
    else
    bif t.1.Lp == x.Lp then
     some (decide (x.Id>t.1.Id))
    else
     some false
   else
    bif t.1.Lp == x.Lp then
    some (decide (x.Id>t.1.Id))
    else
    some false).bind λq1=>
  bif q1 then
   some (x,true)
  else
   some (t.1,t.2.1)).bind λq2=>
 some (.inl (q2.1,q2.2,LC (t.2.2+1)))
 else
 some (.inr (t.1,t.2.1))
def da(s:JG)(Lf:List UInt8)(label:Int)(l:List Int):Option (Lx×Bool):=
 (loop (bi s Lf label l) ((⟨0,0,0,⟨0,0⟩,0,0,false,0⟩:Lx),false,0)).bind λq3=>
 some (q3.1,q3.2)
def anE:Spec fam:=⟨[f0,ne,ge,pp],[QK,gt],λa=>da a.1 a.2.1 a.2.2.1 a.2.2.2.1⟩
def a7(s:JG)(label:Int)(shares:List Mr)(l:List Int)(t1:Int×Lx×Int):Option ((Int×Lx×Int) ⊕ ((Int×Lx))):=
 bif decide (t1.2.2<(shares.length:Int))then
 (
  (MZ t1.2.2 shares.length).bind λi1=>
  (shares[i1]?).bind λx5=>
  (aY s x5.LB label).bind λx6=>
  (MZ t1.2.2 shares.length).bind λi2=>
  (shares[i2]?).bind λx7=>
  (co s x5.LB label l).bind λx8=>
  let over:=LC ((LC (x6.Mem - x7.Mem)) - x8)
  (da s x5.LB label l).bind λx9=>
  (
  bif x9.2 then
   some (decide (over>t1.1))
  else
   some false).bind λq=>
  bif q then
  some (over,x9.1)
  else
  some (t1.1,t1.2.1)).bind λq1=>
 some (.inl (q1.1,q1.2,LC (t1.2.2+1)))
 else
 some (.inr (t1.1,t1.2.1))
def a9(s:JG)(label:Int)(shares:List Mr)(Zz:Int)(l:List Int):Option (List Int ⊕ (List Int ⊕ List Int)):=
 (co s ([]:List UInt8) label l).bind λx4=>
 bif decide (x4<Zz)then
 (loop (a7 s label shares l) (0,(⟨0,0,0,⟨0,0⟩,0,0,false,0⟩:Lx),0)).bind λq2=>
 bif q2.1 == 0 then
  some (.inr (.inl l))
 else
  (app 8 l [q2.2.Id]).bind λl1=>
  some (.inl l1)
 else
 some (.inr (.inr l))
def bc(s:JG)(label:Int)(shares:List Mr)(t:Int×Int):Option ((Int×Int) ⊕ Int):=
 bif decide (t.2<(shares.length:Int))then
 (MZ t.2 shares.length).bind λi=>
 (shares[i]?).bind λx2=>
 (dv s x2.LB label).bind λx3=>
 some (.inl (LC (t.1+x3),LC (t.2+1)))
 else
 some (.inr t.1)
def ce(s:JG)(label:Int):Option (List Int):=
 (cj s label).bind λshares=>
 (cb s label).bind λx=>
 (aY s ([114,111,111,116]:List UInt8) label).bind λx1=>
 let need:=LC (0 - (imax (LC (x.Mem - x1.Mem)) 0))
 (loop (bc s label shares) (need,0)).bind λZz=>
 (loop (a9 s label shares Zz) []).bind λq0=>
 match q0 with
 | .inl q3=>
 some q3
 | .inr l2=>
 some l2
def h11:Hint:=(Qe (.s .z (Qe (.s (Qe ((Qf XB [6,7] [(2,[(6,ge)])] .z))) (Qe (.s ((Qf [(8,f8)] [4,8,9,10,11,12,13,14,94] [(1,[(4,f8)]),(4,[(8,f8)])] (Qe (.b (Qe (.s (Qe ((Qf [(9,ge),(10,QY),(11,ge)] [9,10,11,12,13,14,94] [(6,[(9,ge),(10,QY)])] (Qe (.s (.j [9,10,12,13,14,94] [(0,[(9,ge),(10,QY)])] (.b (Qe (.s .z (Qe (.s (.j [] [(0,[(94,gt)])] .z) .z)))))) .z))))) .z)))))) .z))))))
def an1:Spec fam:=⟨[f0,ge],[f8],λa=>ce a.1 a.2.1⟩
def bL(Lf:List UInt8)(l:List Mr)(i:Int):Option (Int ⊕ (Int ⊕ Unit)):=
 bif decide (i<(l.length:Int))then
 (MZ i l.length).bind λi1=>
 (l[i1]?).bind λx=>
 bif x.LB == Lf then
  (MZ i l.length).bind λi2=>
  (l[i2]?).bind λx1=>
  some (.inr (.inl (x1.Mem)))
 else
  some (.inl (LC (i+1)))
 else
 some (.inr (.inr ()))
def eP(s:JG)(label:Int)(Lf:List UInt8):Option Int:=
 (cj s label).bind λl=>
 (loop (bL Lf l) 0).bind λq0=>
 match q0 with
 | .inl q=>
 some q
 | .inr _=>
 some 0
def anT:Spec fam:=⟨[f0,ge,ne],[ge],λa=>eP a.1 a.2.1 a.2.2.1⟩
def ca(N8:Int)(t:Int)(t1:List Lx×Int):Option ((List Lx×Int) ⊕ List Lx):=
 bif decide (t1.2<(t1.1.length:Int))then
 (
  (MZ t1.2 t1.1.length).bind λi=>
  (t1.1[i]?).bind λx=>
  bif x.Id == N8 then
  (MZ t1.2 t1.1.length).bind λi1=>
  (t1.1[i1]?).bind λx1=>
  some (List.set t1.1 i1 (⟨x1.Id,x1.LM,x1.LG,⟨x1.LY.Mem,x1.LY.LA⟩,x1.LD,x1.Ll,x1.Lp,t⟩:Lx))
  else
  some t1.1).bind λl1=>
 some (.inl (l1,LC (t1.2+1)))
 else
 some (.inr t1.1)
def cL(s:JG)(N8:Int)(t:Int):Option JG:=
 (app 72 [] s.Kl).bind λl=>
 (loop (ca N8 t) (l,0)).bind λl2=>
 some (⟨⟨s.Lg.Lm,s.Lg.Lh⟩,s.Lu,s.Lv,l2,s.LH,s.LJ,s.Now,s.L8,s.Seq⟩:JG)
def anu:Spec fam:=⟨[f0,ge,ge],[.v (.st 10) [4]],λa=>cL a.1 a.2.1 a.2.2.1⟩
def bg(s:JG)(c:Lx)(t:Int×Int):Option ((Int×Int) ⊕ Int):=
 (
 bif decide (t.2<(s.Kl.length:Int))then
  some c.Lp
 else
  some false).bind λq=>
 bif q then
 (
  (
  (idx s.Kl t.2).bind λx=>
  bif x.LM == c.LM then
   (idx s.Kl t.2).bind λx1=>
   bif x1.Id != c.Id then
   (idx s.Kl t.2).bind λx2=>
   some (x2.Ll == c.Ll)
   else
   some false
  else
   some false).bind λq1=>
  bif q1 then
  (idx s.Kl t.2).bind λx3=>
  let n:=LC (t.1+x3.LY.Mem)
  some n
  else
  some t.1).bind λn1=>
 some (.inl (n1,LC (t.2+1)))
 else
 some (.inr t.1)
def c9(s:JG)(c:Lx):Option Int:=
 (loop (bg s c) (0,0)).bind λn2=>
 some n2
def aiK:Spec fam:=⟨[f0,QK],[ge],λa=>c9 a.1 a.2.1⟩
def aZ(label:Int)(l2:List Lx)(t1:JG×Int):Option ((JG×Int) ⊕ JG):=
 bif decide (t1.2<(l2.length:Int))then
 (
  (MZ t1.2 l2.length).bind λi1=>
  (l2[i1]?).bind λx1=>
  (bv t1.1 x1.Id).bind λx2=>
  bif ! x2.2 then
  some t1.1
  else
  (cO t1.1 x2.1).bind λx3=>
  (aY t1.1 x3 label).bind λx4=>
  (c9 t1.1 x2.1).bind λx5=>
  (cO t1.1 x2.1).bind λx6=>
  (eP t1.1 label x6).bind λx7=>
  bif decide ((LC (x4.Mem - x5))>x7)then
   (bB t1.1 [x2.1.Id]).bind λx8=>
   some x8
  else
   (cL t1.1 x2.1.Id 0).bind λx9=>
   some x9).bind λs1=>
 some (.inl (s1,LC (t1.2+1)))
 else
 some (.inr t1.1)
def cI(s:JG)(label:Int)(t:List Lx×Int):Option ((List Lx×Int) ⊕ List Lx):=
 bif decide (t.2≥0)then
 (
  (idx s.Kl t.2).bind λx=>
  (
  bif x.Ll == label then
   bif x.Mw != 0 then
   some (decide ((LC (x.Mw+3))≤s.Now))
   else
   some false
  else
   some false).bind λq=>
  bif q then
  (app 72 t.1 [x]).bind λl=>
  some l
  else
  some t.1).bind λl1=>
 some (.inl (l1,LC (t.2 - 1)))
 else
 some (.inr t.1)
def bP(s:JG)(label:Int):Option JG:=
 let i:=LC ((s.Kl.length:Int) - 1)
 (loop (cI s label) ([],i)).bind λl2=>
 (loop (aZ label l2) (s,0)).bind λs2=>
 some s2
def anv:Spec fam:=⟨[f0,ge],[f0],λa=>bP a.1 a.2.1⟩
def b9(was:JG)(now:JG)(t:List Int×Int):Option ((List Int×Int) ⊕ List Int):=
 bif decide (t.2<(was.Kl.length:Int))then
 (
  (idx was.Kl t.2).bind λx=>
  (bv now x.Id).bind λx1=>
  bif ! x1.2 then
  (idx was.Kl t.2).bind λx2=>
  (app 8 t.1 [x2.Id]).bind λl=>
  some l
  else
  some t.1).bind λl1=>
 some (.inl (l1,LC (t.2+1)))
 else
 some (.inr t.1)
def cR(was:JG)(now:JG):Option (List Int):=
 (loop (b9 was now) ([],0)).bind λl2=>
 some l2
def h45:Hint:=Qo
def ant:Spec fam:=⟨[f0,f0],[f8],λa=>cR a.1 a.2.1⟩
def ba(l:List Int)(t1:JG×Int):Option ((JG×Int) ⊕ JG):=
 bif decide (t1.2<(l.length:Int))then
 (MZ t1.2 l.length).bind λi=>
 (l[i]?).bind λx1=>
 (cL t1.1 x1 (imax t1.1.Now 1)).bind λx2=>
 some (.inl (x2,LC (t1.2+1)))
 else
 some (.inr t1.1)
def bT(t:JG×Int):Option ((JG×Int) ⊕ JG):=
 bif decide (t.2<(t.1.Lg.Lm.length:Int))then
 (bP t.1 t.2).bind λx=>
 (ce x t.2).bind λl=>
 (loop (ba l) (x,0)).bind λs1=>
 some (.inl (s1,LC (t.2+1)))
 else
 some (.inr t.1)
def cD(s:JG):Option (JG×List Int):=
 (loop bT (s,0)).bind λs2=>
 (cR s s2).bind λx3=>
 some (s2,x3)
def anZ:Spec fam:=⟨[f0],[f0,f8],λa=>cD a.1⟩
def fR(s:JG)(t:List Int×Int):Option ((List Int×Int) ⊕ List Int):=
 bif decide (t.2<(s.Lu.length:Int))then
 (
  (
  (idx s.Lu t.2).bind λx=>
  bif x.Up then
   (idx s.Lu t.2).bind λx1=>
   some (decide ((LC (s.Now - x1.NV))≥10))
  else
   some false).bind λq=>
  bif q then
  (idx s.Lu t.2).bind λx2=>
  (app 8 t.1 [x2.Id]).bind λl=>
  some l
  else
  some t.1).bind λl1=>
 some (.inl (l1,LC (t.2+1)))
 else
 some (.inr t.1)
def jV(s:JG):Option (List Int):=
 (loop (fR s) ([],0)).bind λl2=>
 some l2
def aij:Spec fam:=⟨[f0],[f8],λa=>jV a.1⟩
def lg(s:JG)(N8:Int):Option JG:=
 (bo s N8).bind λx=>
 bif ! x.2 then
 some s
 else
 (dL s (⟨x.1.Id,x.1.Ll,x.1.Om,⟨x.1.Cap.Mem,x.1.Cap.LA⟩,x.1.NV,x.1.Nc,false⟩:LG)).bind λx1=>
 some x1
def aif:Spec fam:=⟨[f0,ge],[f0],λa=>lg a.1 a.2.1⟩
def fh(s:JG)(t:List Int×Int):Option ((List Int×Int) ⊕ List Int):=
 bif decide (t.2<(s.Lv.length:Int))then
 (
  (
  (idx s.Lv t.2).bind λx=>
  bif x.JG == 2 then
   (idx s.Lv t.2).bind λx1=>
   some (decide ((LC (s.Now - x1.NV))≥15))
  else
   some false).bind λq=>
  bif q then
  (idx s.Lv t.2).bind λx2=>
  (app 8 t.1 [x2.Id]).bind λl=>
  some l
  else
  some t.1).bind λl1=>
 some (.inl (l1,LC (t.2+1)))
 else
 some (.inr t.1)
def ji(s:JG):Option (List Int):=
 (loop (fh s) ([],0)).bind λl2=>
 some l2
def aie:Spec fam:=⟨[f0],[f8],λa=>ji a.1⟩
def gR(s:JG)(Sw:Int)(i:Int):Option (Int ⊕ (Int ⊕ Unit)):=
 bif decide (i<(s.Kl.length:Int))then
 (
  (idx s.Kl i).bind λx=>
  bif x.LM == Sw then
  (idx s.Kl i).bind λx1=>
  some x1.Lp
  else
  some false).bind λq=>
 bif q then
  (idx s.Kl i).bind λx2=>
  some (.inr (.inl (x2.Id)))
 else
  some (.inl (LC (i+1)))
 else
 some (.inr (.inr ()))
def kK(s:JG)(Sw:Int):Option Int:=
 (loop (gR s Sw) 0).bind λq0=>
 match q0 with
 | .inl q1=>
 some q1
 | .inr _=>
 some (-1)
def aic:Spec fam:=⟨[f0,ge],[ge],λa=>kK a.1 a.2.1⟩
def gT(s2:JG)(t2:List MV×Int):Option ((List MV×Int) ⊕ List MV):=
 bif decide (t2.2<(s2.LJ.length:Int))then
 (
  (idx s2.LJ t2.2).bind λTA=>
  bif decide (TA.Until>s2.Now)then
  (idx s2.LJ t2.2).bind λUD=>
  (app 48 t2.1 [UD]).bind λl2=>
  some l2
  else
  some t2.1).bind λps=>
 some (.inl (ps,LC (t2.2+1)))
 else
 some (.inr t2.1)
def hG(l1:List Int)(t1:JG×Int):Option ((JG×Int) ⊕ JG):=
 bif decide (t1.2<(l1.length:Int))then
 (MZ t1.2 l1.length).bind λi3=>
 (l1[i3]?).bind λx9=>
 (kK t1.1 x9).bind λx10=>
 (bB t1.1 [x10]).bind λPE=>
 some (.inl (PE,LC (t1.2+1)))
 else
 some (.inr t1.1)
def gO(l:List Int)(t:JG×Int):Option ((JG×Int) ⊕ JG):=
 bif decide (t.2<(l.length:Int))then
 (MZ t.2 l.length).bind λi=>
 (l[i]?).bind λx2=>
 (lg t.1 x2).bind λx3=>
 (MZ t.2 l.length).bind λi1=>
 (l[i1]?).bind λx4=>
 (cZ x3 x4).bind λx5=>
 (MZ t.2 l.length).bind λi2=>
 (l[i2]?).bind λx6=>
 (fJ x5 x6).bind λx7=>
 (bB x5 x7).bind λx8=>
 some (.inl (x8,LC (t.2+1)))
 else
 some (.inr t.1)
def kM(s:JG)(n:Int):Option (JG×Output):=
 (
 bif decide (n<1)then
  some true
 else
  some (decide (n>100))).bind λq=>
 bif q then
 (aH s 1).bind λx=>
 some (x.1,x.2)
 else
 bif decide ((LC (s.Now+n))>1000000000)then
  (aH s 11).bind λx1=>
  some (x1.1,x1.2)
 else
  (jV (⟨⟨s.Lg.Lm,s.Lg.Lh⟩,s.Lu,s.Lv,s.Kl,s.LH,s.LJ,LC (s.Now+n),s.L8,s.Seq⟩:JG)).bind λl=>
  (loop (gO l) ((⟨⟨s.Lg.Lm,s.Lg.Lh⟩,s.Lu,s.Lv,s.Kl,s.LH,s.LJ,LC (s.Now+n),s.L8,s.Seq⟩:JG),0)).bind λs1=>
  (ji s1).bind λl1=>
  (loop (hG l1) (s1,0)).bind λs2=>
  (loop (gT s2) ([],0)).bind λps1=>
  (cD (⟨⟨s2.Lg.Lm,s2.Lg.Lh⟩,s2.Lu,s2.Lv,s2.Kl,s2.LH,ps1,s2.Now,s2.L8,s2.Seq⟩:JG)).bind λVt=>
  (cR s Vt.1).bind λWt=>
  some (Vt.1,(⟨0,[],[],Wt,0⟩:Output))
def h63:Hint:=(Qe (.s X2 (Qe (.s .z (Qe (.s .z (.s (Qe ((Qf [(2,t7),(8,ge)] [2,8] [(2,[(2,t7)])] .z))) (Qe (.s (Qe ((Qf [(2,t7),(9,ge)] [2,9] [(4,[(2,t7)])] .z))) (Qe (.s (Qe ((Qf [(10,QM),(11,ge)] [10,11] [(6,[(10,QM)])] (Qe (.s (.j [10] [(0,[(10,QM)])] .z) .z))))) .z)))))))))))
def am8:Spec fam:=⟨[f0,ge],[f0,QR],λa=>kM a.1 a.2.1⟩
def kS(n:Int):Option Bool:=
 bif decide (n≥0)then
 some (decide (n≤1073741824))
 else
 some false
def ahz:Spec fam:=⟨[ge],[gt],λa=>kS a.1⟩
def j6(l:List MV)(label:Int)(t:Int)(t1:Vec×Int):Option ((Vec×Int) ⊕ Vec):=
 bif decide (t1.2<(l.length:Int))then
 (
  (
  (idx l t1.2).bind λx=>
  bif x.Ll == label then
   (idx l t1.2).bind λx1=>
   bif decide (x1.From≤t)then
   (idx l t1.2).bind λx2=>
   some (decide (t<x2.Until))
   else
   some false
  else
   some false).bind λq=>
  bif q then
  (idx l t1.2).bind λx3=>
  (aD t1.1 x3.Need).bind λx4=>
  some x4
  else
  some t1.1).bind λv=>
 some (.inl (v,LC (t1.2+1)))
 else
 some (.inr t1.1)
def jJ(l:List MV)(label:Int)(t:Int):Option Vec:=
 (loop (j6 l label t) ((⟨0,0⟩:Vec),0)).bind λv1=>
 some v1
def ag_:Spec fam:=⟨[Q4,ge,ge],[t6],λa=>jJ a.1 a.2.1 a.2.2.1⟩
def ia(l:List MV)(total:Vec)(p:MV)(t:Int)(long:Int)(i:Int):Option (Int ⊕ (Bool ⊕ Unit)):=
 bif decide (i<(l.length:Int))then
 (idx l i).bind λx3=>
 (
  bif decide (x3.From>t)then
  bif decide ((LC (x3.From - t))<long)then
   (jJ l p.Ll x3.From).bind λx4=>
   (aD x4 p.Need).bind λx5=>
   (aW x5 total).bind λx6=>
   some (! x6)
  else
   some false
  else
  some false).bind λq=>
 bif q then
  some (.inr (.inl false))
 else
  some (.inl (LC (i+1)))
 else
 some (.inr (.inr ()))
def gc(l:List MV)(total:Vec)(p:MV)(t:Int)(long:Int):Option Bool:=
 (jJ l p.Ll t).bind λx=>
 (aD x p.Need).bind λx1=>
 (aW x1 total).bind λx2=>
 bif ! x2 then
 some false
 else
 (loop (ia l total p t long) 0).bind λq0=>
 match q0 with
 | .inl q1=>
  some q1
 | .inr _=>
  some true
def ahy:Spec fam:=⟨[Q4,t6,.v (.st 9) [],ge,ge],[gt],λa=>gc a.1 a.2.1 a.2.2.1 a.2.2.2.1 a.2.2.2.2.1⟩
def nO(l:List MV)(total:Vec)(p:MV)(long:Int)(t:Int×Int):Option ((Int×Int) ⊕ Int):=
 bif decide (t.2<(l.length:Int))then
 (
  (
  bif decide (t.2≥0)then
   (idx l t.2).bind λx2=>
   some x2.Until
  else
   some p.From).bind λt1=>
  (
  bif decide (t1≥p.From)then
   bif decide (t1≤1000000)then
   bif decide ((LC (t1+long))≤p.Until)then
    bif decide (t.1<0)then
    (gc l total p t1 long).bind λx3=>
    some x3
    else
    bif decide (t1<t.1)then
     (gc l total p t1 long).bind λx4=>
     some x4
    else
     some false
   else
    some false
   else
   some false
  else
   some false).bind λq1=>
  bif q1 then
  some t1
  else
  some t.1).bind λbest=>
 some (.inl (best,LC (t.2+1)))
 else
 some (.inr t.1)
def jY(l:List MV)(total:Vec)(p:MV)(long:Int):Option (Int×Int):=
 (
 bif decide (long<1)then
  some true
 else
  bif decide (long>1000)then
  some true
  else
  bif decide (p.From<0)then
   some true
  else
   bif decide (p.From>1000000)then
   some true
   else
   bif decide (p.Until<0)then
    some true
   else
    bif decide (p.Until>1000000)then
    some true
    else
    (kS p.Need.Mem).bind λx=>
    bif ! x then
     some true
    else
     (kS p.Need.LA).bind λx1=>
     some (! x1)).bind λq=>
 bif q then
 some (0,1)
 else
 (loop (nO l total p long) ((-1),(-1))).bind λU5=>
 bif decide (U5<0)then
  some (0,16)
 else
  some (U5,0)
def aib:Spec fam:=⟨[Q4,t6,.v (.st 9) [],ge],[ge,ge],λa=>jY a.1 a.2.1 a.2.2.1 a.2.2.2.1⟩
def iN(s:JG)(p:MV)(t:JG×Int×Int):Option ((JG×Int×Int) ⊕ ((JG×Int×Int) ⊕ (JG×Int))):=
 bif decide (t.2.2<(s.LJ.length:Int))then
 (
  (idx s.LJ t.2.2).bind λx=>
  bif x.Id == p.Id then
  some (.inr (s,0,7))
  else
  (idx s.LJ t.2.2).bind λx1=>
  bif decide (x1.Id<p.Id)then
   some (.inl (t.1,LC (t.2.2+1)))
  else
   some (.inl (t.1,t.2.1)):Option ((JG×Int) ⊕ (JG×Int×Int))).bind λq0=>
 match q0 with
 | .inl q1=>
  some (.inl (q1.1,q1.2,LC (t.2.2+1)))
 | .inr q2=>
  some (.inr (.inl (q2.1,q2.2.1,q2.2.2)))
 else
 some (.inr (.inr (t.1,t.2.1)))
def lu(s:JG)(p:MV)(long:Int):Option (JG×Int×Int):=
 (
 bif decide (p.Id<0)then
  some true
 else
  bif decide (p.Id>999)then
  some true
  else
  bif decide (p.Ll<0)then
   some true
  else
   bif decide (p.Ll≥(s.Lg.Lm.length:Int))then
   some true
   else
   some ((p.Need.Mem == 0)&&(p.Need.LA == 0))).bind λq=>
 bif q then
 some (s,0,1)
 else
 (loop (iN s p) ((⟨⟨[],[]⟩,[],[],[],[],[],0,0,0⟩:JG),0,0)).bind λq0=>
 match q0 with
 | .inl q3=>
  some (q3.1,q3.2.1,q3.2.2)
 | .inr q4=>
  bif decide ((s.LJ.length:Int)≥12)then
  some (s,0,4)
  else
  bif decide (p.From<s.Now)then
   some (s,0,15)
  else
   (cb s p.Ll).bind λx2=>
   (jY s.LJ x2 p long).bind λx3=>
   bif x3.2 != 0 then
   some (s,0,x3.2)
   else
   (slc s.LJ 0 q4.2).bind λl=>
   (app 48 [] l).bind λl1=>
   (app 48 l1 [(⟨p.Id,p.Ll,x3.1,LC (x3.1+long),⟨p.Need.Mem,p.Need.LA⟩⟩:MV)]).bind λl2=>
   (slc s.LJ q4.2 (s.LJ.length:Int)).bind λl3=>
   (app 48 l2 l3).bind λl4=>
   some ((⟨⟨s.Lg.Lm,s.Lg.Lh⟩,s.Lu,s.Lv,s.Kl,s.LH,l4,s.Now,s.L8,s.Seq⟩:JG),x3.1,0)
def am7:Spec fam:=⟨[f0,.v (.st 9) [],ge],[f0,ge,ge],λa=>lu a.1 a.2.1 a.2.2.1⟩
def gX(s:JG)(N8:Int)(t:List MV×Int):Option ((List MV×Int) ⊕ List MV):=
 bif decide (t.2<(s.LJ.length:Int))then
 (
  (idx s.LJ t.2).bind λx=>
  bif x.Id != N8 then
  (idx s.LJ t.2).bind λx1=>
  (app 48 t.1 [x1]).bind λl=>
  some l
  else
  some t.1).bind λl1=>
 some (.inl (l1,LC (t.2+1)))
 else
 some (.inr t.1)
def kf(s:JG)(N8:Int):Option (JG×Int):=
 (loop (gX s N8) ([],0)).bind λl2=>
 bif(l2.length:Int) == (s.LJ.length:Int)then
 some (s,2)
 else
 some ((⟨⟨s.Lg.Lm,s.Lg.Lh⟩,s.Lu,s.Lv,s.Kl,s.LH,l2,s.Now,s.L8,s.Seq⟩:JG),0)
def am6:Spec fam:=⟨[f0,ge],[f0,ge],λa=>kf a.1 a.2.1⟩
def gq(s:JG)(x:Input):Option (JG×Output):=
 bif x.Kind == 1 then
 (iS s x.Text).bind λx1=>
 some (x1.1,x1.2)
 else
 bif x.Kind == 2 then
  (gH s x.LG).bind λx2=>
  some (x2.1,(⟨x2.2,[],[],[],0⟩:Output))
 else
  bif x.Kind == 3 then
  (kF s x).bind λx3=>
  some (x3.1,x3.2)
  else
  bif x.Kind == 4 then
   (jd s x.LM).bind λx4=>
   some (x4.1,(⟨x4.2,[],[],[],0⟩:Output))
  else
   bif x.Kind == 5 then
   (iV s x).bind λx5=>
   some (x5.1,x5.2)
   else
   bif x.Kind == 6 then
    (iy s x.Id 3).bind λx6=>
    some (x6.1,x6.2)
   else
    bif x.Kind == 7 then
    (iy s x.Id 4).bind λx7=>
    some (x7.1,x7.2)
    else
    bif x.Kind == 8 then
     (kM s x.N).bind λx8=>
     some (x8.1,x8.2)
    else
     bif x.Kind == 9 then
     (lu s x.MV x.N).bind λx9=>
     some (x9.1,(⟨x9.2.2,[],[],[],x9.2.1⟩:Output))
     else
     bif x.Kind == 10 then
      (kf s x.Id).bind λx10=>
      some (x10.1,(⟨x10.2,[],[],[],0⟩:Output))
     else
      bif x.Kind == 11 then
      bif decide (s.L8≥1048576)then
       (aH s 11).bind λPE=>
       some (PE.1,PE.2)
      else
       some ((⟨⟨s.Lg.Lm,s.Lg.Lh⟩,s.Lu,s.Lv,s.Kl,s.LH,s.LJ,s.Now,LC (s.L8+1),0⟩:JG),(⟨0,[],[],[],0⟩:Output))
      else
      (aH s 3).bind λTA=>
      some (TA.1,TA.2)
def anQ:Spec fam:=⟨[f0,.v (.st 15) []],[f0,QR],λa=>gq a.1 a.2.1⟩
def dw(self:Int→Option (List UInt8))(n:Int):Option (List UInt8):=
 bif decide (n<0)then
 bif n == (-9223372036854775808)then
  some ([45,57,50,50,51,51,55,50,48,51,54,56,53,52,55,55,53,56,48,56]:List UInt8)
 else
  (self (LC (0 - n))).bind λx=>
  (cat ([45]:List UInt8) x).bind λs=>
  some s
 else
 bif decide (n≥10)then
  (self (LC (Int.tdiv n 10))).bind λx1=>
  (self (Int.tmod n 10)).bind λx2=>
  (cat x1 x2).bind λs1=>
  some s1
 else
  some (List.map toB [IntKind.u8.wrap (LC (48+n))])
def cy:Nat→Int→Option (List UInt8)
 | 0=>λ_=>none
 | n+1=>dw (cy n)
def cX(a0:Int):Option (List UInt8):=cy 64 a0
def h67:Hint:=.z
def am4:Spec fam:=⟨[ge],[ne],λa=>cX a.1⟩
def Kz(n:Nat):Spec fam:=⟨[.v (.int .i64) []],[.v .str []],λa=>cy n a.1⟩
def i9(x1:Ls)(t2:List UInt8×Int):Option ((List UInt8×Int) ⊕ List UInt8):=
 bif decide (t2.2<(x1.MS.length:Int))then
 (cat t2.1 ([32]:List UInt8)).bind λs7=>
 (idx x1.MS t2.2).bind λx3=>
 (cX x3.Oe).bind λx4=>
 (cat s7 x4).bind λs8=>
 (cat s8 ([47]:List UInt8)).bind λs9=>
 (idx x1.MS t2.2).bind λx5=>
 (cX x5.Most).bind λx6=>
 (cat s9 x6).bind λs10=>
 some (.inl (s10,LC (t2.2+1)))
 else
 some (.inr t2.1)
def iP(c:Lg)(t1:List UInt8×Int):Option ((List UInt8×Int) ⊕ List UInt8):=
 bif decide (t1.2<(c.Lh.length:Int))then
 (idx c.Lh t1.2).bind λx1=>
 (cat t1.1 ([113,117,101,117,101,32]:List UInt8)).bind λs3=>
 (cat s3 x1.LB).bind λs4=>
 (cat s4 ([32]:List UInt8)).bind λs5=>
 (cX x1.User).bind λx2=>
 (cat s5 x2).bind λs6=>
 (loop (i9 x1) (s6,0)).bind λPO=>
 (cat PO ([10]:List UInt8)).bind λs11=>
 some (.inl (s11,LC (t1.2+1)))
 else
 some (.inr t1.1)
def oR(c:Lg)(t:List UInt8×Int):Option ((List UInt8×Int) ⊕ List UInt8):=
 bif decide (t.2<(c.Lm.length:Int))then
 (cat t.1 ([32]:List UInt8)).bind λs=>
 (idx c.Lm t.2).bind λx=>
 (cat s x).bind λs1=>
 some (.inl (s1,LC (t.2+1)))
 else
 some (.inr t.1)
def iJ(c:Lg):Option (List UInt8):=
 (loop (oR c) (([108,97,98,101,108,115]:List UInt8),1)).bind λout=>
 (cat out ([10]:List UInt8)).bind λs2=>
 (loop (iP c) (s2,0)).bind λan7=>
 some an7
def anP:Spec fam:=⟨[QI],[ne],λa=>iJ a.1⟩
def be(at_:Int)(n:Int):Option Int:=
 (nz n).bind λ_=>
 (
 bif decide ((Int.tmod at_ n)<0)then
  let k:=LC ((Int.tmod at_ n)+n)
  some k
 else
  some (Int.tmod at_ n)).bind λk1=>
 some k1
def am3:Spec fam:=⟨[ge,ge],[ge],λa=>be a.1 a.2.1⟩
def dh(ns:List Int)(i:Int):Option Int:=
 bif(ns.length:Int) == 0 then
 some i
 else
 (nz (ns.length:Int)).bind λ_=>
 (idx ns (Int.tmod i (ns.length:Int))).bind λx=>
 some x
def am1:Spec fam:=⟨[pp,ge],[ge],λa=>dh a.1 a.2.1⟩
def d9(kids:List (List UInt8))(t3:Lg×Int)(t4:Lg×Int×Int)(n:Int)(Wd:Int)(t5:Lg×Int):Option ((Lg×Int) ⊕ Lg):=
 bif decide (t5.2<(t5.1.Lh.length:Int))then
 (
  (MZ t5.2 t5.1.Lh.length).bind λi3=>
  (t5.1.Lh[i3]?).bind λx18=>
  (MZ t4.2.2 kids.length).bind λi4=>
  (kids[i4]?).bind λx19=>
  bif x18.LB == x19 then
  (MZ t5.2 t5.1.Lh.length).bind λi5=>
  (t5.1.Lh[i5]?).bind λx20=>
  (t5.1.Lh[i5]?).bind λx21=>
  (MZ t3.2 x21.MS.length).bind λi6=>
  (t5.1.Lh[i5]?).bind λx22=>
  (x22.MS[i6]?).bind λy=>
  some (⟨t5.1.Lm,List.set t5.1.Lh i5 (⟨x22.LB,List.set x22.MS i6 (⟨n,Wd⟩:Cap),x22.User⟩:Ls)⟩:Lg)
  else
  some t5.1).bind λc1=>
 some (.inl (c1,LC (t5.2+1)))
 else
 some (.inr t5.1)
def eB(ns:List Int)(t2:Lg×Int)(kids:List (List UInt8))(t3:Lg×Int)(t4:Lg×Int×Int):Option ((Lg×Int×Int) ⊕ Lg):=
 bif decide (t4.2.2<(kids.length:Int))then
 (
  bif decide (t4.2.2<(LC ((kids.length:Int) - 1)))then
  (dh ns (LC ((LC (t2.2+t4.2.2))+t3.2))).bind λx8=>
  (be x8 (LC (t4.2.1+1))).bind λx9=>
  (dh ns (LC ((LC (t2.2*t4.2.2))+t3.2))).bind λx10=>
  (be x10 4).bind λPE=>
  (MZ PE [0,LC (Int.tdiv t4.2.1 2),t4.2.1,x9].length).bind λi1=>
  ([0,LC (Int.tdiv t4.2.1 2),t4.2.1,x9][i1]?).bind λTA=>
  some TA
  else
  some t4.2.1).bind λn=>
 (dh ns (LC (t4.2.2+t3.2))).bind λUD=>
 (be UD (LC ((LC (10000 - n))+1))).bind λVt=>
 (dh ns (LC (t2.2+(LC (2*t4.2.2))))).bind λWt=>
 (be Wt 3).bind λYx=>
 (MZ Yx [10000,n,LC (n+Vt)].length).bind λi2=>
 ([10000,n,LC (n+Vt)][i2]?).bind λWd=>
 (loop (d9 kids t3 t4 n Wd) (t4.1,0)).bind λc2=>
 some (.inl (c2,LC (t4.2.1 - n),LC (t4.2.2+1)))
 else
 some (.inr t4.1)
def i7(ns:List Int)(t2:Lg×Int)(kids:List (List UInt8))(t3:Lg×Int):Option ((Lg×Int) ⊕ Lg):=
 bif decide (t3.2<(t3.1.Lm.length:Int))then
 (loop (eB ns t2 kids t3) (t3.1,10000,0)).bind λc3=>
 some (.inl (c3,LC (t3.2+1)))
 else
 some (.inr t3.1)
def eH(ns:List Int)(x2:List (List UInt8))(t2:Lg×Int):Option ((Lg×Int) ⊕ Lg):=
 bif decide (t2.2<(x2.length:Int))then
 (idx x2 t2.2).bind λx7=>
 (cz t2.1 x7).bind λkids=>
 (loop (i7 ns t2 kids) (t2.1,0)).bind λc4=>
 some (.inl (c4,LC (t2.2+1)))
 else
 some (.inr t2.1)
def iZ(t:Lg×Int)(t1:Ls×Int):Option ((Ls×Int) ⊕ Ls):=
 bif decide (t1.2<(t.1.Lm.length:Int))then
 (app 16 t1.1.MS [(⟨10000,10000⟩:Cap)]).bind λl=>
 some (.inl ((⟨t1.1.LB,l,t1.1.User⟩:Ls),LC (t1.2+1)))
 else
 some (.inr t1.1)
def eo(ns:List Int)(x2:List (List UInt8))(t:Lg×Int):Option ((Lg×Int) ⊕ Lg):=
 bif decide (t.2<(x2.length:Int))then
 (idx x2 t.2).bind λx3=>
 (
  (
  bif decide (t.2<(ns.length:Int))then
   (idx ns t.2).bind λx4=>
   some ((Int.tmod x4 3) == 0)
  else
   some false).bind λq=>
  bif q then
  (idx ns t.2).bind λx5=>
  (be x5 20000).bind λx6=>
  some (⟨x3,[],LC (1+x6)⟩:Ls)
  else
  some (⟨x3,[],1000000⟩:Ls)).bind λq1=>
 (loop (iZ t) (q1,0)).bind λq2=>
 (app 48 t.1.Lh [q2]).bind λl1=>
 some (.inl ((⟨t.1.Lm,l1⟩:Lg),LC (t.2+1)))
 else
 some (.inr t.1)
def iC(shape:Int)(ns:List Int):Option Lg:=
 (be (LC (Int.tdiv shape 5)) 2).bind λx=>
 (OV 0 (LC (1+x)) [([]:List UInt8),([103,112,117]:List UInt8)].length).bind λp=>
 (be shape 5).bind λx1=>
 (MZ x1 [[([114,111,111,116]:List UInt8)],[([114,111,111,116]:List UInt8),([114,111,111,116,46,97]:List UInt8),([114,111,111,116,46,98]:List UInt8)],[([114,111,111,116]:List UInt8),([114,111,111,116,46,97]:List UInt8),([114,111,111,116,46,97,46,120]:List UInt8),([114,111,111,116,46,97,46,121]:List UInt8),([114,111,111,116,46,98]:List UInt8)],[([114,111,111,116]:List UInt8),([114,111,111,116,46,97]:List UInt8),([114,111,111,116,46,98]:List UInt8),([114,111,111,116,46,98,46,120]:List UInt8),([114,111,111,116,46,98,46,120,46,112]:List UInt8),([114,111,111,116,46,98,46,120,46,113]:List UInt8),([114,111,111,116,46,99]:List UInt8)],[([114,111,111,116]:List UInt8),([114,111,111,116,46,97]:List UInt8)]].length).bind λi=>
 ([[([114,111,111,116]:List UInt8)],[([114,111,111,116]:List UInt8),([114,111,111,116,46,97]:List UInt8),([114,111,111,116,46,98]:List UInt8)],[([114,111,111,116]:List UInt8),([114,111,111,116,46,97]:List UInt8),([114,111,111,116,46,97,46,120]:List UInt8),([114,111,111,116,46,97,46,121]:List UInt8),([114,111,111,116,46,98]:List UInt8)],[([114,111,111,116]:List UInt8),([114,111,111,116,46,97]:List UInt8),([114,111,111,116,46,98]:List UInt8),([114,111,111,116,46,98,46,120]:List UInt8),([114,111,111,116,46,98,46,120,46,112]:List UInt8),([114,111,111,116,46,98,46,120,46,113]:List UInt8),([114,111,111,116,46,99]:List UInt8)],[([114,111,111,116]:List UInt8),([114,111,111,116,46,97]:List UInt8)]][i]?).bind λx2=>
 (loop (eo ns x2) ((⟨sub [([]:List UInt8),([103,112,117]:List UInt8)] p.1 p.2,[]⟩:Lg),0)).bind λc=>
 (loop (eH ns x2) (c,0)).bind λc5=>
 some c5
def anO:Spec fam:=⟨[ge,pp],[.v (.st 3) [1001]],λa=>iC a.1 a.2.1⟩
def au(at_:Int)(n:Int):Option Int:=
 (nz n).bind λ_=>
 (
 bif decide ((Int.tmod at_ n)<0)then
  let k:=LC ((Int.tmod at_ n)+n)
  some k
 else
  some (Int.tmod at_ n)).bind λk1=>
 some k1
def am0:Spec fam:=⟨[ge,ge],[ge],λa=>au a.1 a.2.1⟩
def fQ(c:Lg)(t:List (List UInt8)×Int):Option ((List (List UInt8)×Int) ⊕ List (List UInt8)):=
 bif decide (t.2<(c.Lh.length:Int))then
 (
  (idx c.Lh t.2).bind λx=>
  (bn c x.LB).bind λx1=>
  bif x1 then
  (idx c.Lh t.2).bind λx2=>
  (app 16 t.1 [x2.LB]).bind λl=>
  some l
  else
  some t.1).bind λl1=>
 some (.inl (l1,LC (t.2+1)))
 else
 some (.inr t.1)
def jW(c:Lg):Option (List (List UInt8)):=
 (loop (fQ c) ([],0)).bind λl2=>
 some l2
def amZ:Spec fam:=⟨[QI],[f9],λa=>jW a.1⟩
def eS(n:Int):Option Vec:=
 (au n 5).bind λx=>
 (MZ x [(⟨1,1⟩:Vec),(⟨2,1⟩:Vec),(⟨4,4⟩:Vec),(⟨3,2⟩:Vec),(⟨1,3⟩:Vec)].length).bind λi=>
 ([(⟨1,1⟩:Vec),(⟨2,1⟩:Vec),(⟨4,4⟩:Vec),(⟨3,2⟩:Vec),(⟨1,3⟩:Vec)][i]?).bind λx1=>
 some x1
def amY:Spec fam:=⟨[ge],[t6],λa=>eS a.1⟩
def dI(a:Act)(s:JG)(x1:LM)(t:Input×Int):Option ((Input×Int) ⊕ Input):=
 bif decide (t.2<(s.Kl.length:Int))then
 (
  (
  (idx s.Kl t.2).bind λPE=>
  bif PE.LM == x1.Id then
   (au (LC (a.D+t.2)) 11).bind λTA=>
   some (TA == 10)
  else
   some false).bind λq=>
  bif q then
  (idx s.Kl t.2).bind λUD=>
  (app 8 t.1.Ids [UD.Id]).bind λl=>
  some (⟨t.1.Kind,t.1.Id,t.1.Nc,t.1.N,t.1.Text,⟨t.1.LG.Id,t.1.LG.Ll,t.1.LG.Om,⟨t.1.LG.Cap.Mem,t.1.LG.Cap.LA⟩,t.1.LG.NV,t.1.LG.Nc,t.1.LG.Up⟩,⟨t.1.LM.Id,t.1.LM.JG,t.1.LM.Ls,t.1.LM.User,t.1.LM.LD,⟨t.1.LM.Lp.Mem,t.1.LM.Lp.LA⟩,t.1.LM.Mq,t.1.LM.NV,t.1.LM.Nc,t.1.LM.MC,t.1.LM.Np,t.1.LM.Told,t.1.LM.NW⟩,t.1.Mq,l,⟨t.1.MV.Id,t.1.MV.Ll,t.1.MV.From,t.1.MV.Until,⟨t.1.MV.Need.Mem,t.1.MV.Need.LA⟩⟩⟩:Input)
  else
  some t.1).bind λVt=>
 some (.inl (Vt,LC (t.2+1)))
 else
 some (.inr t.1)
def fa(a:Act)(s:JG):Option Input:=
 bif(s.Lv.length:Int) == 0 then
 some (⟨5,0,0,0,[],⟨0,0,0,⟨0,0⟩,0,0,false⟩,⟨0,0,[],0,0,⟨0,0⟩,[],0,0,[],[],[],[]⟩,[],[],⟨0,0,0,0,⟨0,0⟩⟩⟩:Input)
 else
 (au a.A (s.Lv.length:Int)).bind λx=>
 (idx s.Lv x).bind λx1=>
 (au a.B 8).bind λx2=>
 (
  bif decide ((Int.tmod a.C 3)>0)then
  (au a.B 5).bind λx3=>
  (au a.C (s.Lg.Lm.length:Int)).bind λx4=>
  (eS a.D).bind λx5=>
  (au a.D 7).bind λx6=>
  (
   bif(Int.tmod a.D 4) == 1 then
   (au a.C 3).bind λx7=>
   some (⟨x3,x4,⟨x5.Mem,x5.LA⟩,x6,(-1),x7,0⟩:Ask)
   else
   some (⟨x3,x4,⟨x5.Mem,x5.LA⟩,x6,(-1),(-1),0⟩:Ask)).bind λk=>
  (
   bif(Int.tmod a.D 4) == 2 then
   (au a.C 3).bind λx8=>
   (au a.B 6).bind λx9=>
   some (⟨k.LD,k.Ll,⟨k.LY.Mem,k.LY.LA⟩,k.ME,x9,x8,k.RY⟩:Ask)
   else
   some k).bind λk1=>
  some (⟨5,x1.Id,LC ((LC (x1.Nc+1)) - (LC (Int.tdiv x2 6))),0,[],⟨0,0,0,⟨0,0⟩,0,0,false⟩,⟨0,0,[],0,0,⟨0,0⟩,[],0,0,[],[],[],[]⟩,[k1],[],⟨0,0,0,0,⟨0,0⟩⟩⟩:Input)
  else
  some (⟨5,x1.Id,LC ((LC (x1.Nc+1)) - (LC (Int.tdiv x2 6))),0,[],⟨0,0,0,⟨0,0⟩,0,0,false⟩,⟨0,0,[],0,0,⟨0,0⟩,[],0,0,[],[],[],[]⟩,[],[],⟨0,0,0,0,⟨0,0⟩⟩⟩:Input)).bind λx10=>
 (loop (dI a s x1) (x10,0)).bind λWt=>
 some Wt
def amX:Spec fam:=⟨[.v (.st 11) [],f0],[Q7],λa=>fa a.1 a.2.1⟩
def d6(a:Act)(s:JG)(N8:Int)(t1:Input×Int):Option ((Input×Int) ⊕ Input):=
 bif decide (t1.2<(s.Kl.length:Int))then
 (
  (
  (idx s.Kl t1.2).bind λPE=>
  bif PE.LG == N8 then
   (au (LC (a.C+t1.2)) 9).bind λTA=>
   some (TA == 8)
  else
   some false).bind λq2=>
  bif q2 then
  (idx s.Kl t1.2).bind λUD=>
  (app 8 t1.1.Ids [UD.Id]).bind λl=>
  some (⟨t1.1.Kind,t1.1.Id,t1.1.Nc,t1.1.N,t1.1.Text,⟨t1.1.LG.Id,t1.1.LG.Ll,t1.1.LG.Om,⟨t1.1.LG.Cap.Mem,t1.1.LG.Cap.LA⟩,t1.1.LG.NV,t1.1.LG.Nc,t1.1.LG.Up⟩,⟨t1.1.LM.Id,t1.1.LM.JG,t1.1.LM.Ls,t1.1.LM.User,t1.1.LM.LD,⟨t1.1.LM.Lp.Mem,t1.1.LM.Lp.LA⟩,t1.1.LM.Mq,t1.1.LM.NV,t1.1.LM.Nc,t1.1.LM.MC,t1.1.LM.Np,t1.1.LM.Told,t1.1.LM.NW⟩,t1.1.Mq,l,⟨t1.1.MV.Id,t1.1.MV.Ll,t1.1.MV.From,t1.1.MV.Until,⟨t1.1.MV.Need.Mem,t1.1.MV.Need.LA⟩⟩⟩:Input)
  else
  some t1.1).bind λVt=>
 some (.inl (Vt,LC (t1.2+1)))
 else
 some (.inr t1.1)
def d5(a:Act)(s:JG)(N8:Int)(t:Input×Int):Option ((Input×Int) ⊕ Input):=
 bif decide (t.2<(s.Lu.length:Int))then
 (
  (idx s.Lu t.2).bind λx6=>
  bif x6.Id == N8 then
  (idx s.Lu t.2).bind λx7=>
  (au a.B 8).bind λx8=>
  some (⟨t.1.Kind,t.1.Id,LC ((LC (x7.Nc+1)) - (LC (Int.tdiv x8 6))),t.1.N,t.1.Text,⟨t.1.LG.Id,t.1.LG.Ll,t.1.LG.Om,⟨t.1.LG.Cap.Mem,t.1.LG.Cap.LA⟩,t.1.LG.NV,t.1.LG.Nc,t.1.LG.Up⟩,⟨t.1.LM.Id,t.1.LM.JG,t.1.LM.Ls,t.1.LM.User,t.1.LM.LD,⟨t.1.LM.Lp.Mem,t.1.LM.Lp.LA⟩,t.1.LM.Mq,t.1.LM.NV,t.1.LM.Nc,t.1.LM.MC,t.1.LM.Np,t.1.LM.Told,t.1.LM.NW⟩,t.1.Mq,t.1.Ids,⟨t.1.MV.Id,t.1.MV.Ll,t.1.MV.From,t.1.MV.Until,⟨t.1.MV.Need.Mem,t.1.MV.Need.LA⟩⟩⟩:Input)
  else
  some t.1).bind λx9=>
 some (.inl (x9,LC (t.2+1)))
 else
 some (.inr t.1)
def fX(a:Act)(s:JG):Option Input:=
 (au a.A 6).bind λN8=>
 (jW s.Lg).bind λleaves=>
 (au a.B 4).bind λx=>
 (
 (au a.Kind 16).bind λx1=>
 (
  bif x1 == 0 then
  some (x1 == 0)
  else
  some (x1 == 1)).bind λq=>
 bif q then
  (au a.B (s.Lg.Lm.length:Int)).bind λx2=>
  (au a.C 3).bind λx3=>
  (au a.D 12).bind λx4=>
  (au a.D 8).bind λx5=>
  some (⟨2,N8,0,LC (1+x),[],⟨N8,x2,x3,⟨LC (4+x4),LC (4+x5)⟩,0,0,false⟩,⟨0,0,[],0,0,⟨0,0⟩,[],0,0,[],[],[],[]⟩,[],[],⟨0,0,0,0,⟨0,0⟩⟩⟩:Input)
 else
  (
  bif x1 == 2 then
   some (x1 == 2)
  else
   bif x1 == 3 then
   some (x1 == 3)
   else
   bif x1 == 4 then
    some (x1 == 4)
   else
    some (x1 == 5)).bind λq1=>
  bif q1 then
  (loop (d5 a s N8) ((⟨3,N8,0,LC (1+x),[],⟨0,0,0,⟨0,0⟩,0,0,false⟩,⟨0,0,[],0,0,⟨0,0⟩,[],0,0,[],[],[],[]⟩,[],[],⟨0,0,0,0,⟨0,0⟩⟩⟩:Input),0)).bind λx10=>
  (loop (d6 a s N8) (x10,0)).bind λWt=>
  some Wt
  else
  (
   bif x1 == 6 then
   some (x1 == 6)
   else
   some (x1 == 7)).bind λq3=>
  bif q3 then
   (au a.A 20).bind λYx=>
   (au a.B (leaves.length:Int)).bind λWd=>
   (MZ Wd leaves.length).bind λi=>
   (leaves[i]?).bind λx18=>
   (au a.C 3).bind λx19=>
   (au a.D 3).bind λx20=>
   (eS (LC (Int.tdiv a.D 3))).bind λx21=>
   some (⟨4,N8,0,LC (1+x),[],⟨0,0,0,⟨0,0⟩,0,0,false⟩,⟨Yx,0,x18,x19,x20,⟨x21.Mem,x21.LA⟩,[],0,0,[],[],[],[]⟩,[],[],⟨0,0,0,0,⟨0,0⟩⟩⟩:Input)
  else
   (
   bif x1 == 8 then
    some (x1 == 8)
   else
    bif x1 == 9 then
    some (x1 == 9)
    else
    some (x1 == 10)).bind λq4=>
   bif q4 then
   (fa a s).bind λx22=>
   some x22
   else
   bif x1 == 11 then
    (au a.B 2).bind λx23=>
    (MZ x23 [6,7].length).bind λi1=>
    ([6,7][i1]?).bind λx24=>
    (au a.A 20).bind λx25=>
    some (⟨x24,x25,0,LC (1+x),[],⟨0,0,0,⟨0,0⟩,0,0,false⟩,⟨0,0,[],0,0,⟨0,0⟩,[],0,0,[],[],[],[]⟩,[],[],⟨0,0,0,0,⟨0,0⟩⟩⟩:Input)
   else
    (
    bif x1 == 12 then
     some (x1 == 12)
    else
     some (x1 == 13)).bind λq5=>
    bif q5 then
    (au a.A 5).bind λx26=>
    some (⟨8,N8,0,LC (1+x26),[],⟨0,0,0,⟨0,0⟩,0,0,false⟩,⟨0,0,[],0,0,⟨0,0⟩,[],0,0,[],[],[],[]⟩,[],[],⟨0,0,0,0,⟨0,0⟩⟩⟩:Input)
    else
    bif x1 == 14 then
     (au a.D 3).bind λx27=>
     (MZ x27 [9,9,10].length).bind λi2=>
     ([9,9,10][i2]?).bind λx28=>
     (au a.B (s.Lg.Lm.length:Int)).bind λx29=>
     (au a.C 5).bind λx30=>
     (eS a.D).bind λx31=>
     (au a.C 12).bind λx32=>
     some (⟨x28,N8,0,LC (1+x32),[],⟨0,0,0,⟨0,0⟩,0,0,false⟩,⟨0,0,[],0,0,⟨0,0⟩,[],0,0,[],[],[],[]⟩,[],[],⟨N8,x29,LC (s.Now+x30),LC (s.Now+20),⟨x31.Mem,x31.LA⟩⟩⟩:Input)
    else
     bif x1 == 15 then
     (au a.A 3).bind λx33=>
     (MZ x33 [11,1,1].length).bind λi3=>
     ([11,1,1][i3]?).bind λx34=>
     (iC a.B [a.C,a.D]).bind λx35=>
     (iJ x35).bind λx36=>
     some (⟨x34,N8,0,LC (1+x),x36,⟨0,0,0,⟨0,0⟩,0,0,false⟩,⟨0,0,[],0,0,⟨0,0⟩,[],0,0,[],[],[],[]⟩,[],[],⟨0,0,0,0,⟨0,0⟩⟩⟩:Input)
     else
     some (⟨0,N8,0,LC (1+x),[],⟨0,0,0,⟨0,0⟩,0,0,false⟩,⟨0,0,[],0,0,⟨0,0⟩,[],0,0,[],[],[],[]⟩,[],[],⟨0,0,0,0,⟨0,0⟩⟩⟩:Input)).bind λx37=>
 some x37
def anN:Spec fam:=⟨[.v (.st 11) [],f0],[Q7],λa=>fX a.1 a.2.1⟩
def cW(x:Script)(t:JG×Int):Option ((JG×Int) ⊕ JG):=
 bif decide (t.2<(x.UC.length:Int))then
 (idx x.UC t.2).bind λx5=>
 (fX x5 t.1).bind λx6=>
 (gq t.1 x6).bind λx7=>
 some (.inl (x7.1,LC (t.2+1)))
 else
 some (.inr t.1)
def cG(x:Script):Option JG:=
 (lA).bind λx1=>
 (iC x.Shape x.Ns).bind λx2=>
 (iJ x2).bind λx3=>
 (gq x1 (⟨1,0,0,0,x3,⟨0,0,0,⟨0,0⟩,0,0,false⟩,⟨0,0,[],0,0,⟨0,0⟩,[],0,0,[],[],[],[]⟩,[],[],⟨0,0,0,0,⟨0,0⟩⟩⟩:Input)).bind λx4=>
 (
 bif x4.2.Err == 0 then
  some x4.1
 else
  some x1).bind λs=>
 (loop (cW x) (s,0)).bind λs1=>
 some s1
def h8:Hint:=(Qe (.s .z (Qe (.s (.j [3] [(0,[(3,t7)])] .z) (.s (Qe ((Qf [(3,t7),(6,ge)] [3,6] [(2,[(3,t7)])] .z))) .z)))))
def sp8:Spec fam:=⟨[.v (.st 12) []],[f0],λa=>cG a.1⟩
def gM(a:List Int)(b:List Int)(i:Int):Option (Int ⊕ (Bool ⊕ Unit)):=
 bif decide (i<(a.length:Int))then
 (idx a i).bind λx=>
 (idx b i).bind λx1=>
 bif x != x1 then
  some (.inr (.inl false))
 else
  some (.inl (LC (i+1)))
 else
 some (.inr (.inr ()))
def ga(a:List Int)(b:List Int):Option Bool:=
 bif(a.length:Int) != (b.length:Int)then
 some false
 else
 (loop (gM a b) 0).bind λq0=>
 match q0 with
 | .inl q=>
  some q
 | .inr _=>
  some true
def h9:Hint:=(Qe (.s .z (.s Qi .z)))
def sp9:Spec fam:=⟨[pp,pp],[gt],λa=>ga a.1 a.2.1⟩
def cA(v:Vec):Option Bool:=
 bif decide (v.Mem≥0)then
 bif decide (v.Mem≤1125899906842624)then
  bif decide (v.LA≥0)then
  some (decide (v.LA≤1125899906842624))
  else
  some false
 else
  some false
 else
 some false
def aiE:Spec fam:=⟨[t6],[gt],λa=>cA a.1⟩
def ij(s:JG)(t3:Bool×Int)(t4:Bool×Int):Option ((Bool×Int) ⊕ Bool):=
 (idx s.Lv t3.2).bind λx8=>
 bif decide (t4.2<(x8.Mq.length:Int))then
 (
  bif t4.1 then
  (idx s.Lv t3.2).bind λx9=>
  (idx x9.Mq t4.2).bind λx10=>
  (cA x10.LY).bind λPE=>
  some PE
  else
  some false).bind λok7=>
 some (.inl (ok7,LC (t4.2+1)))
 else
 some (.inr t4.1)
def gD(s:JG)(t3:Bool×Int):Option ((Bool×Int) ⊕ Bool):=
 bif decide (t3.2<(s.Lv.length:Int))then
 (
  bif t3.1 then
  (idx s.Lv t3.2).bind λx6=>
  (cA x6.Lp).bind λx7=>
  some x7
  else
  some false).bind λok6=>
 (loop (ij s t3) (ok6,0)).bind λok8=>
 some (.inl (ok8,LC (t3.2+1)))
 else
 some (.inr t3.1)
def gN(s:JG)(t2:Bool×Int):Option ((Bool×Int) ⊕ Bool):=
 bif decide (t2.2<(s.LJ.length:Int))then
 (
  bif t2.1 then
  (idx s.LJ t2.2).bind λx4=>
  (cA x4.Need).bind λx5=>
  some x5
  else
  some false).bind λok4=>
 some (.inl (ok4,LC (t2.2+1)))
 else
 some (.inr t2.1)
def h_(s:JG)(t1:Bool×Int):Option ((Bool×Int) ⊕ Bool):=
 bif decide (t1.2<(s.Kl.length:Int))then
 (
  bif t1.1 then
  (idx s.Kl t1.2).bind λx2=>
  (cA x2.LY).bind λx3=>
  some x3
  else
  some false).bind λok2=>
 some (.inl (ok2,LC (t1.2+1)))
 else
 some (.inr t1.1)
def hZ(s:JG)(t:Bool×Int):Option ((Bool×Int) ⊕ Bool):=
 bif decide (t.2<(s.Lu.length:Int))then
 (
  bif t.1 then
  (idx s.Lu t.2).bind λx=>
  (cA x.Cap).bind λx1=>
  some x1
  else
  some false).bind λok=>
 some (.inl (ok,LC (t.2+1)))
 else
 some (.inr t.1)
def km(s:JG):Option Bool:=
 (loop (hZ s) (true,0)).bind λok1=>
 (loop (h_ s) (ok1,0)).bind λok3=>
 (loop (gN s) (ok3,0)).bind λok5=>
 (loop (gD s) (ok5,0)).bind λok9=>
 some ok9
def ano:Spec fam:=⟨[f0],[gt],λa=>km a.1⟩
def fg(s:JG)(t4:Bool×Int):Option ((Bool×Int) ⊕ Bool):=
 bif decide (t4.2<(s.LJ.length:Int))then
 (
  bif t4.1 then
  (idx s.LJ (LC (t4.2 - 1))).bind λx8=>
  (idx s.LJ t4.2).bind λx9=>
  let Yk:=decide (x8.Id<x9.Id)
  some Yk
  else
  some false).bind λYj=>
 some (.inl (Yj,LC (t4.2+1)))
 else
 some (.inr t4.1)
def fd(s:JG)(t3:Bool×Int):Option ((Bool×Int) ⊕ Bool):=
 bif decide (t3.2<(s.LH.length:Int))then
 (
  bif t3.1 then
  (idx s.LH (LC (t3.2 - 1))).bind λx6=>
  (idx s.LH t3.2).bind λx7=>
  let ok9:=decide (x6.LG<x7.LG)
  some ok9
  else
  some false).bind λWL=>
 some (.inl (WL,LC (t3.2+1)))
 else
 some (.inr t3.1)
def fb(s:JG)(t2:Bool×Int):Option ((Bool×Int) ⊕ Bool):=
 bif decide (t2.2<(s.Kl.length:Int))then
 (
  bif t2.1 then
  (idx s.Kl (LC (t2.2 - 1))).bind λx4=>
  (idx s.Kl t2.2).bind λx5=>
  let ok6:=decide (x4.Id<x5.Id)
  some ok6
  else
  some false).bind λok7=>
 some (.inl (ok7,LC (t2.2+1)))
 else
 some (.inr t2.1)
def fp(s:JG)(t1:Bool×Int):Option ((Bool×Int) ⊕ Bool):=
 bif decide (t1.2<(s.Lv.length:Int))then
 (
  bif t1.1 then
  (idx s.Lv (LC (t1.2 - 1))).bind λx2=>
  (idx s.Lv t1.2).bind λx3=>
  let ok3:=decide (x2.Id<x3.Id)
  some ok3
  else
  some false).bind λok4=>
 some (.inl (ok4,LC (t1.2+1)))
 else
 some (.inr t1.1)
def fe(s:JG)(t:Bool×Int):Option ((Bool×Int) ⊕ Bool):=
 bif decide (t.2<(s.Lu.length:Int))then
 (
  bif t.1 then
  (idx s.Lu (LC (t.2 - 1))).bind λx=>
  (idx s.Lu t.2).bind λx1=>
  let ok:=decide (x.Id<x1.Id)
  some ok
  else
  some false).bind λok1=>
 some (.inl (ok1,LC (t.2+1)))
 else
 some (.inr t.1)
def iK(s:JG):Option Bool:=
 (
 bif decide ((s.Lu.length:Int)>12)then
  some true
 else
  bif decide ((s.Lv.length:Int)>16)then
  some true
  else
  bif decide ((s.Kl.length:Int)>200)then
   some true
  else
   some (decide ((s.LJ.length:Int)>12))).bind λq=>
 bif q then
 some false
 else
 (loop (fe s) (true,1)).bind λok2=>
 (loop (fp s) (ok2,1)).bind λok5=>
 (loop (fb s) (ok5,1)).bind λok8=>
 (loop (fd s) (ok8,1)).bind λYl=>
 (loop (fg s) (Yl,1)).bind λaaE=>
 some aaE
def anm:Spec fam:=⟨[f0],[gt],λa=>iK a.1⟩
def iR(s:JG)(i:Int):Option (Int ⊕ (Bool ⊕ Unit)):=
 bif decide (i<(s.Lu.length:Int))then
 (idx s.Lu i).bind λx=>
 (iI s x.Id).bind λx1=>
 (
  (idx s.Lu i).bind λx2=>
  bif decide (x1.Mem>x2.Cap.Mem)then
  some true
  else
  (idx s.Lu i).bind λx3=>
  some (decide (x1.LA>x3.Cap.LA))).bind λq=>
 bif q then
  some (.inr (.inl false))
 else
  some (.inl (LC (i+1)))
 else
 some (.inr (.inr ()))
def lp(s:JG):Option Bool:=
 (loop (iR s) 0).bind λq0=>
 match q0 with
 | .inl q1=>
 some q1
 | .inr _=>
 some true
def anl:Spec fam:=⟨[f0],[gt],λa=>lp a.1⟩
def cQ(s:JG)(Sw:Int)(t:Int×Int×Int):Option ((Int×Int×Int) ⊕ ((Int×Int))):=
 bif decide (t.2.2<(s.Kl.length:Int))then
 (
  (idx s.Kl t.2.2).bind λx=>
  bif x.LM == Sw then
  (idx s.Kl t.2.2).bind λx1=>
  bif x1.Lp then
   some (LC (t.1+1),LC (t.2.1+1))
  else
   some (t.1,LC (t.2.1+1))
  else
  some (t.1,t.2.1)).bind λq=>
 some (.inl (q.1,q.2,LC (t.2.2+1)))
 else
 some (.inr (t.1,t.2.1))
def hU(s:JG)(Sw:Int):Option (Int×Int):=
 (loop (cQ s Sw) (0,0,0)).bind λq1=>
 some (q1.1,q1.2)
def ani:Spec fam:=⟨[f0,ge],[ge,ge],λa=>hU a.1 a.2.1⟩
def fW(s:JG)(i2:Int):Option (Int ⊕ (Bool ⊕ Unit)):=
 bif decide (i2<(s.LH.length:Int))then
 (idx s.LH i2).bind λx18=>
 (bo s x18.LG).bind λx19=>
 (
  bif ! x19.2 then
  some true
  else
  some (! x19.1.Up)).bind λq5=>
 bif q5 then
  some (.inr (.inl false))
 else
  some (.inl (LC (i2+1)))
 else
 some (.inr (.inr ()))
def fM(s:JG)(i1:Int):Option (Int ⊕ (Bool ⊕ Unit)):=
 bif decide (i1<(s.Lv.length:Int))then
 (idx s.Lv i1).bind λx8=>
 (hU s x8.Id).bind λx9=>
 (
  bif x8.JG == 2 then
  bif x9.1 != 1 then
   some true
  else
   bif x8.JG == 1 then
   bif x9.2 != 0 then
    some true
   else
    (aF x8).bind λx10=>
    bif x10 then
    (bn s.Lg x8.Ls).bind λPE=>
    some (! PE)
    else
    some false
   else
   (aF x8).bind λTA=>
   bif TA then
    (bn s.Lg x8.Ls).bind λUD=>
    some (! UD)
   else
    some false
  else
  bif x8.JG == 1 then
   bif x9.2 != 0 then
   some true
   else
   (aF x8).bind λVt=>
   bif Vt then
    (bn s.Lg x8.Ls).bind λWt=>
    some (! Wt)
   else
    some false
  else
   (aF x8).bind λYx=>
   bif Yx then
   (bn s.Lg x8.Ls).bind λWd=>
   some (! Wd)
   else
   some false).bind λq3=>
 bif q3 then
  some (.inr (.inl false))
 else
  some (.inl (LC (i1+1)))
 else
 some (.inr (.inr ()))
def fS(s:JG)(i:Int):Option (Int ⊕ (Bool ⊕ Unit)):=
 bif decide (i<(s.Kl.length:Int))then
 (idx s.Kl i).bind λx4=>
 (aK s x4.LM).bind λx5=>
 (bo s x4.LG).bind λx6=>
 (
  bif ! x5.2 then
  some true
  else
  (aF x5.1).bind λx7=>
  bif ! x7 then
   some true
  else
   bif ! x6.2 then
   some true
   else
   bif ! x6.1.Up then
    some true
   else
    bif x6.1.Ll != x4.Ll then
    some true
    else
    bif decide (x4.Mw<0)then
     some true
    else
     some (decide (x4.Mw>(imax s.Now 1)))).bind λq1=>
 bif q1 then
  some (.inr (.inl false))
 else
  some (.inl (LC (i+1)))
 else
 some (.inr (.inr ()))
def jS(s:JG):Option Bool:=
 (
 (bw s.Lg).bind λx=>
 bif x != 0 then
  some true
 else
  (km s).bind λx1=>
  bif ! x1 then
  some true
  else
  (iK s).bind λx2=>
  bif ! x2 then
   some true
  else
   (lp s).bind λx3=>
   some (! x3)).bind λq=>
 bif q then
 some false
 else
 (loop (fS s) 0).bind λq0=>
 match q0 with
 | .inl q2=>
  some q2
 | .inr _=>
  (loop (fM s) 0).bind λq0=>
  match q0 with
  | .inl q4=>
  some q4
  | .inr _=>
  (loop (fW s) 0).bind λq0=>
  match q0 with
  | .inl q6=>
   some q6
  | .inr _=>
   some true
def anX:Spec fam:=⟨[f0],[gt],λa=>jS a.1⟩
def gw(x4:JG)(k:Int):Option (Int ⊕ (Bool ⊕ Unit)):=
 bif decide (k<(x4.Lg.Lm.length:Int))then
 (jC x4 k).bind λx5=>
 (ce x4 k).bind λx6=>
 (ga x5 x6).bind λx7=>
 bif ! x7 then
  some (.inr (.inl false))
 else
  some (.inl (LC (k+1)))
 else
 some (.inr (.inr ()))
def cP(x:Script)(marks:List Int)(more:Int):Option Bool:=
 (jU).bind λx1=>
 bif ! x1 then
 some false
 else
 (de x).bind λx2=>
 bif ! x2 then
  some true
 else
  (cG x).bind λx3=>
  (kb x3 marks more).bind λx4=>
  (loop (gw x4) 0).bind λq0=>
  match q0 with
  | .inl q=>
  some q
  | .inr _=>
  (md x4).bind λx8=>
  (cD x4).bind λx9=>
  (ga x8.2 x9.2).bind λx10=>
  bif x10 then
   (f_ x8.1 x9.1).bind λPE=>
   bif PE then
   (jS x8.1).bind λTA=>
   some TA
   else
   some false
  else
   some false
def h3:Hint:=(Qe (.s .z (Qe (.s .z (.s (Qe ((Qf [(8,ge)] [6,8] [(1,[(6,gt)]),(2,[])] .z))) .z)))))
def sp3:Spec fam:=⟨[.v (.st 12) [],pp,ge],[gt],λa=>cP a.1 a.2.1 a.2.2.1⟩
end
end Go.Fx.D
