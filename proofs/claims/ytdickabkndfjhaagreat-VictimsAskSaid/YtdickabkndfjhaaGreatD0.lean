/-
  The functions of the program that this law reaches, as functions over plain data (printed by a program). Conditions: none.
-/
import Derived.Test.YtdickabkndfjhaaGreatFxD
import Derived.Test.YtdickabkndfjhaaGreatA
namespace Go.Fx.D
open Go Go.Fx Go.Proofs
set_option linter.unusedVariables false
noncomputable section
abbrev ge:Kd:=.v (.int .i64) []
abbrev gt:Kd:=.v .bool []
abbrev f0:Kd:=.v (.st 10) []
abbrev f8:Kd:=.v (.slice (.int .i64)) [0]
abbrev f9:Kd:=.v (.slice (.str)) [0]
abbrev ne:Kd:=.v .str []
abbrev pp:Kd:=.v (.slice (.int .i64)) []
abbrev t6:Kd:=.v (.st 0) []
abbrev t7:Kd:=.box (.st 10) []
abbrev t8:Kd:=.box (.st 0) []
abbrev ac:Kd:=.v (.slice (.st 5)) [0]
abbrev QQ:Kd:=.v (.slice (.st 7)) [0]
abbrev QJ:Kd:=.box (.st 10) [0,1,2,3,4,5,6]
abbrev QX:Kd:=.box (.st 15) [20,23,24,25,26,27,28]
abbrev QZ:Kd:=.v (.slice (.st 5)) []
abbrev QW:Kd:=.v (.int .u64) []
abbrev QY:Kd:=.box (.st 7) []
abbrev QV:Kd:=.v (.st 10) [0,1001,2,1003,4,5,6]
abbrev QU:Kd:=.box (.st 18) [11,12,13]
abbrev QG:Kd:=.box (.st 10) [0,1001,2,1003,4,5,6]
abbrev QK:Kd:=.v (.st 7) []
abbrev QC:Kd:=.v (.slice (.st 16)) [0]
abbrev QD:Kd:=.box (.st 3) [1001]
abbrev QE:Kd:=.v (.slice (.st 8)) [0]
abbrev QF:Kd:=.v (.st 6) []
abbrev QH:Kd:=.v (.int .u32) []
abbrev QI:Kd:=.v (.st 3) []
abbrev QL:Kd:=.v (.slice (.st 6)) [0]
abbrev QM:Kd:=.v (.slice (.st 9)) [0]
abbrev QN:Kd:=.row (.int .i64) false
abbrev QO:Kd:=.box (.st 3) [0,1]
abbrev QP:Kd:=.box (.st 6) [7,10,11,12,13]
abbrev QR:Kd:=.v (.st 13) [1,2,3]
abbrev QS:Kd:=.v (.st 5) []
abbrev QT:Kd:=.box (.st 2) [1]
abbrev QA:Kd:=.box (.st 13) [1,2,3]
abbrev Q0:Kd:=.v (.st 4) []
abbrev Q1:Kd:=.row (.st 5) false
abbrev Q2:Kd:=.box (.st 5) []
abbrev Q3:Kd:=.row (.st 7) false
abbrev Q4:Kd:=.v (.slice (.st 9)) []
abbrev Q5:Kd:=.box (.st 6) []
abbrev Q6:Kd:=.v (.slice (.st 0)) [0]
abbrev Q7:Kd:=.v (.st 15) [20,23,24,25,26,27,28]
abbrev Q8:Kd:=.v (.slice (.st 7)) []
abbrev Q9:Kd:=.v (.st 6) [7,10,11,12,13,9999]
abbrev Qa:Kd:=.row (.st 501) false
abbrev Qb:Kd:=.v (.st 17) []
abbrev Qc:Kd:=.row (.st 8) false
abbrev Qd:Kd:=.v (.st 8) []
def Qf (a:Ks)(b:List Nat)(c:List (Nat×Ks))(d:Hint):Hint:=.b (.l a b c d)
def Qe (x:Hint):Hint:=.s .z x
def Qg:Hint:=(Qe (.s (Qe ((Qf [(8,ge)] [4,5,8] [(1,[(4,ge)]),(2,[])] .z))) .z))
def Qh:Hint:=(Qe (.s (.j [3] [(0,[(3,gt)])] .z) .z))
def Qi:Hint:=(Qe ((Qf [(5,ge)] [4,5] [(1,[(4,gt)]),(2,[])] .z)))
def Qj:Hint:=(Qe (.s .z (.s ((Qf [(5,ge)] [5,22] [(2,[(5,ge)])] (.s (.s (.j [] [(0,[(22,gt)])] .z) .z) .z))) (Qe (.s .z (.s (.j [5,50] [(0,[(5,ge)])] (.s (.j [] [(0,[(50,gt)])] .z) .z)) .z))))))
def Qk:Hint:=(.s (.j [5] [(0,[(5,gt)])] .z) .z)
def Ql:Hint:=(.s (.j [] [(0,[(39,gt)])] .z) .z)
def Qm:Hint:=(.s (.j [] [(0,[(32,gt)])] .z) .z)
def Qn:Hint:=(.s (.j [] [(0,[(30,gt)])] .z) .z)
def Qo:Hint:=(Qe (.s .z (.s (Qe ((Qf [(5,f8),(6,ge)] [5,6] [(2,[(5,f8)])] (Qe (.s (.j [5] [(0,[(5,f8)])] .z) .z))))) .z)))
def Qp:Hint:=(Qe (.s .z (.s (Qe ((Qf [(5,t8),(6,ge)] [5,6] [(2,[(5,t8)])] (Qe (.s (.j [5] [(0,[(5,t8)])] .z) .z))))) .z)))
def Qq:Hint:=(.s (.j [] [(0,[(40,gt)])] .z) .z)
def Qr:Hint:=(.s (.j [] [(0,[(21,gt)])] .z) .z)
def Qs:Hint:=(Qe (.s .z (.s (.j [5] [(0,[(5,ge)])] .z) .z)))
def Qt:Hint:=(Qe (.s .z (.s ((Qf [(0,ne),(3,f9)] [0,3] [(2,[(3,f9)])] .z)) .z)))
def Qu:Hint:=(.j [0,2] [(0,[(0,QW),(2,ge)])] .z)
def Qv:Hint:=(.s (.j [] [(0,[(22,gt)])] .z) .z)
def Qw:Hint:=(.s (.j [] [(0,[(25,gt)])] .z) .z)
def Qx:Hint:=(.s (.j [] [(0,[(41,gt)])] .z) .z)
def Qy:Hint:=(.s (.j [] [(0,[(48,gt)])] .z) .z)
def Qz:Ks:=[(6,t7),(7,ge),(8,QY)]
def XQ:Ks:=[(3,t7),(6,QJ),(8,QY)]
def XJ:Hint:=(Qe ((Qf [(3,gt),(8,ge)] [3,8] [(10,[(3,gt)])] Qh)))
def XX:Hint:=(Qe ((Qf [(3,ge)] [2,3] [(1,[(2,ge)]),(2,[])] .z)))
def XZ:Ks:=[(6,ac),(7,gt)]
def XW:Hint:=(Qe ((Qf [(3,gt),(4,ge)] [3,4] [(2,[(3,gt)])] Qh)))
def XY:Hint:=(Qe ((Qf [(3,gt),(5,ge)] [3,5] [(4,[(3,gt)])] Qh)))
def XV:Hint:=(Qe ((Qf [(3,gt),(6,ge)] [3,6] [(6,[(3,gt)])] Qh)))
def XU:Hint:=(Qe (.s (.s (.j [] [(0,[(8,gt)])] .z) .z) .z))
def XG:Hint:=(.s (.s (.j [] [(0,[(78,gt)])] .z) .z) .z)
def XK:Hint:=(.s (.s (.j [] [(0,[(75,gt)])] .z) .z) .z)
def XB:Ks:=[(6,ge),(7,ge)]
def XC:Hint:=(Qe (.s (.j [3] [(0,[(3,f9)])] .z) .z))
def XD:Hint:=(.s (.j [] [(0,[(100,gt)])] .z) .z)
def XE:Hint:=(.s (.j [] [(0,[(168,gt)])] .z) .z)
def XF:Hint:=(.s (.j [] [(0,[(37,gt)])] .z) .z)
def XH:Hint:=(.s (.j [] [(0,[(85,gt)])] .z) .z)
def XI:Hint:=(.s (.j [] [(0,[(16,gt)])] .z) .z)
def XL:Hint:=(.s (.j [] [(0,[(33,gt)])] .z) .z)
def XM:Hint:=(.s (.j [] [(0,[(28,gt)])] .z) .z)
def XN:Hint:=(.s (.j [] [(0,[(74,gt)])] .z) .z)
def XO:Hint:=(.s (.j [] [(0,[(55,gt)])] .z) .z)
def XP:Hint:=(.s (.j [] [(0,[(68,gt)])] .z) .z)
def XR:Hint:=(.s (.j [] [(0,[(38,gt)])] .z) .z)
def XS:Hint:=(.s (.j [] [(0,[(46,gt)])] .z) .z)
def XT:Hint:=(.s (.j [] [(0,[(26,gt)])] .z) .z)
def XA:Hint:=(.s (.j [] [(0,[(34,gt)])] .z) .z)
def X0:Hint:=(.s (.j [] [(0,[(23,gt)])] .z) .z)
def X1:Hint:=(.s (.j [] [(0,[(59,gt)])] .z) .z)
def X2:Hint:=(.s (.j [] [(0,[(17,gt)])] .z) .z)
def b8(k:L9)(c:Lx):Option L9:=
 let e:=Oi (λx=>c.Id == x.k) k.Oc (⟨c.Id,0⟩:NP)
 let e1:=Oi (λx2=>c.Id == x2.k) k.leaf (⟨c.Id,[]⟩:L6)
 let e2:=Oi (λx3=>e1.v == x3.k) k.over (⟨e1.v,0⟩:Mc)
 some (⟨⟨⟨k.s.Lg.Lm,k.s.Lg.Lh⟩,k.s.Lu,k.s.Lv,k.s.Kl,k.s.LH,k.s.LJ,k.s.Now,k.s.L8,k.s.Seq⟩,k.label,OQ (λx4=>e1.v == x4.k) k.over (⟨e1.v,LC (e2.v - c.LY.Mem)⟩:Mc),k.leaf,OQ (λx1=>c.Id == x1.k) k.Oc (⟨c.Id,LC (e.v+1)⟩:NP),LC (k.gone+c.LY.Mem)⟩:L9)
def anJ:Spec fam:=⟨[QU,QK],[],λa=>b8 a.1 a.2.1⟩
def iq(v:Vec):Option Bool:=
 bif decide (v.Mem≥0)then
 bif decide (v.Mem≤1125899906842624)then
  bif decide (v.LA≥0)then
  some (decide (v.LA≤1125899906842624))
  else
  some false
 else
  some false
 else
 some false
def ag4:Spec fam:=⟨[t6],[gt],λa=>iq a.1⟩
def pU(v:Vec):Option (Vec×Int):=
 (iq v).bind λx=>
 bif ! x then
 some ((⟨0,0⟩:Vec),11)
 else
 some (v,0)
def ag3:Spec fam:=⟨[t6],[t6,ge],λa=>pU a.1⟩
def pg(a:Vec)(b:Vec):Option (Vec×Int):=
 (
 (iq a).bind λx=>
 bif ! x then
  some true
 else
  (iq b).bind λx1=>
  some (! x1)).bind λq=>
 bif q then
 some ((⟨0,0⟩:Vec),1)
 else
 (pU (⟨LC (a.Mem+b.Mem),LC (a.LA+b.LA)⟩:Vec)).bind λx2=>
 some (x2.1,x2.2)
def ahs:Spec fam:=⟨[t6,t6],[t6,ge],λa=>pg a.1 a.2.1⟩
def oT(l:List Vec)(t:Vec×Int):Option ((Vec×Int) ⊕ Vec):=
 bif decide (t.2<(l.length:Int))then
 (idx l t.2).bind λx=>
 (pg t.1 x).bind λx1=>
 some (.inl (x1.1,LC (t.2+1)))
 else
 some (.inr t.1)
def ro(l:List Vec):Option Vec:=
 (loop (oT l) ((⟨0,0⟩:Vec),0)).bind λout=>
 some out
def ah4:Spec fam:=⟨[.v (.slice (.st 0)) []],[t6],λa=>ro a.1⟩
def nj(s:JG)(label:Int)(t:List Vec×Int):Option ((List Vec×Int) ⊕ List Vec):=
 bif decide (t.2<(s.Lu.length:Int))then
 (
  (idx s.Lu t.2).bind λx=>
  (
  bif x.Up then
   some (x.Ll == label)
  else
   some false).bind λq=>
  bif q then
  (app 16 t.1 [x.Cap]).bind λl=>
  some l
  else
  some t.1).bind λl1=>
 some (.inl (l1,LC (t.2+1)))
 else
 some (.inr t.1)
def mq(s:JG)(label:Int):Option Vec:=
 (loop (nj s label) ([],0)).bind λl2=>
 (ro l2).bind λx1=>
 some x1
def amS:Spec fam:=⟨[f0,ge],[t6],λa=>mq a.1 a.2.1⟩
def fw(v:View)(c:Lx)(t:LM×Int):Option ((LM×Int) ⊕ ((LM×Bool) ⊕ LM)):=
 bif decide (t.2<(v.s.Lv.length:Int))then
 (idx v.s.Lv t.2).bind λx=>
 bif x.Id == c.LM then
  some (.inr (.inl (x,true)))
 else
  some (.inl (t.1,LC (t.2+1)))
 else
 some (.inr (.inr (t.1)))
def lY(v:View)(c:Lx):Option (LM×Bool):=
 (loop (fw v c) ((⟨0,0,[],0,0,⟨0,0⟩,[],0,0,[],[],[],[]⟩:LM),0)).bind λq0=>
 match q0 with
 | .inl q=>
 some (q.1,q.2)
 | .inr q1=>
 some ((⟨0,0,[],0,0,⟨0,0⟩,[],0,0,[],[],[],[]⟩:LM),false)
def ahu:Spec fam:=⟨[Qb,QK],[QF,gt],λa=>lY a.1 a.2.1⟩
def lC(s:List UInt8)(prefix_:List UInt8):Option Bool:=
 bif decide ((s.length:Int)≥(prefix_.length:Int))then
 (slc s 0 (prefix_.length:Int)).bind λs1=>
 some (s1 == prefix_)
 else
 some false
def agG:Spec fam:=⟨[ne,ne],[gt],λa=>lC a.1 a.2.1⟩
def lz(s:List UInt8)(prefix_:List UInt8):Option Bool:=
 (lC s prefix_).bind λx=>
 some x
def ag5:Spec fam:=⟨[ne,ne],[gt],λa=>lz a.1 a.2.1⟩
def lL(v:View)(a:LM):Option Bool:=
 (
 bif a.Ls == v.Lf then
  some true
 else
  (cat v.Lf ([46]:List UInt8)).bind λs=>
  (lz a.Ls s).bind λx=>
  some x).bind λbelow=>
 bif below then
 bif v.user == (-1)then
  some true
 else
  some (a.User == v.user)
 else
 some false
def aht:Spec fam:=⟨[Qb,QF],[gt],λa=>lL a.1 a.2.1⟩
def kw(v:View)(t:Vec×Int):Option ((Vec×Int) ⊕ Vec):=
 bif decide (t.2<(v.s.Kl.length:Int))then
 (
  (idx v.s.Kl t.2).bind λx=>
  (lY v x).bind λx1=>
  (
  bif x1.2 then
   bif x.Ll == v.label then
   (lL v x1.1).bind λx2=>
   some x2
   else
   some false
  else
   some false).bind λq=>
  bif q then
  (pg t.1 x.LY).bind λx3=>
  some x3.1
  else
  some t.1).bind λout=>
 some (.inl (out,LC (t.2+1)))
 else
 some (.inr t.1)
def mC(v:View):Option Vec:=
 (loop (kw v) ((⟨0,0⟩:Vec),0)).bind λPO=>
 some PO
def ah9:Spec fam:=⟨[Qb],[t6],λa=>mC a.1⟩
def ke(s:JG)(Lf:List UInt8)(label:Int):Option Vec:=
 (mC (⟨⟨⟨s.Lg.Lm,s.Lg.Lh⟩,s.Lu,s.Lv,s.Kl,s.LH,s.LJ,s.Now,s.L8,s.Seq⟩,Lf,label,(-1)⟩:View)).bind λx=>
 some x
def amV:Spec fam:=⟨[f0,ne,ge],[t6],λa=>ke a.1 a.2.1 a.2.2.1⟩
def eL(s:List UInt8)(c:Int)(i1:Int):Option (Int ⊕ (Int ⊕ Unit)):=
 bif decide (i1≥0)then
 (idx s i1).bind λch=>
 bif(ch.toNat:Int) == c then
  some (.inr (.inl i1))
 else
  some (.inl (LC (i1 - 1)))
 else
 some (.inr (.inr ()))
def aI(s:List UInt8)(c:Int):Option Int:=
 let i:=LC ((s.length:Int) - 1)
 (loop (eL s c) i).bind λq0=>
 match q0 with
 | .inl q=>
 some q
 | .inr _=>
 some (-1)
def agp:Spec fam:=⟨[ne,.v (.int .u8) []],[ge],λa=>aI a.1 a.2.1⟩
def o_(t1:Int×Int×Int):Option ((Int×Int×Int) ⊕ Int):=
 bif decide (t1.2.2>0)then
 (
  bif(RH .i64 t1.2.2 1) != 0 then
  let pow:=IntKind.u32.wrap (t1.1*t1.2.1)
  some pow
  else
  some t1.1).bind λan5=>
 let sq:=IntKind.u32.wrap (t1.2.1*t1.2.1)
 some (.inl (an5,sq,Pj .i64 t1.2.2 1))
 else
 some (.inr t1.1)
def pb(sep:List UInt8)(t:Int×Int):Option ((Int×Int) ⊕ Int):=
 bif decide (t.2≥0)then
 (idx sep t.2).bind λch=>
 let hash:=IntKind.u32.wrap ((IntKind.u32.wrap (t.1*16777619))+(IntKind.u32.wrap (ch.toNat:Int)))
 some (.inl (hash,LC (t.2 - 1)))
 else
 some (.inr t.1)
def mb(sep:List UInt8):Option (Int×Int):=
 let i:=LC ((sep.length:Int) - 1)
 (loop (pb sep) (0,i)).bind λak2=>
 (loop o_ (1,16777619,(sep.length:Int))).bind λpow2=>
 some (ak2,pow2)
def agh:Spec fam:=⟨[ne],[QH,QH],λa=>mb a.1⟩
def mH(s:List UInt8)(sep:List UInt8)(x:Int×Int)(t1:Int×Int):Option ((Int×Int) ⊕ (Int ⊕ Unit)):=
 bif decide (t1.2≥0)then
 (idx s t1.2).bind λch1=>
 let h2:=IntKind.u32.wrap ((IntKind.u32.wrap (t1.1*16777619))+(IntKind.u32.wrap (ch1.toNat:Int)))
 (idx s (LC (t1.2+(sep.length:Int)))).bind λch2=>
 let h3:=IntKind.u32.wrap (h2 - (IntKind.u32.wrap (x.2*(IntKind.u32.wrap (ch2.toNat:Int)))))
 (
  bif h3 == x.1 then
  (slc s t1.2 (LC (t1.2+(sep.length:Int)))).bind λs2=>
  some (s2 == sep)
  else
  some false).bind λq1=>
 bif q1 then
  some (.inr (.inl (t1.2)))
 else
  some (.inl (h3,LC (t1.2 - 1)))
 else
 some (.inr (.inr ()))
def mI(s:List UInt8)(last:Int)(t:Int×Int):Option ((Int×Int) ⊕ Int):=
 bif decide (t.2≥last)then
 (idx s t.2).bind λch=>
 let h:=IntKind.u32.wrap ((IntKind.u32.wrap (t.1*16777619))+(IntKind.u32.wrap (ch.toNat:Int)))
 some (.inl (h,LC (t.2 - 1)))
 else
 some (.inr t.1)
def iG(s:List UInt8)(sep:List UInt8):Option Int:=
 (mb sep).bind λx=>
 let last:=LC ((s.length:Int) - (sep.length:Int))
 let i:=LC ((s.length:Int) - 1)
 (loop (mI s last) (0,i)).bind λh1=>
 (
 bif h1 == x.1 then
  (slc s last (s.length:Int)).bind λs1=>
  some (s1 == sep)
 else
  some false).bind λq=>
 bif q then
 some last
 else
 (loop (mH s sep x) (h1,LC (last - 1))).bind λq0=>
 match q0 with
 | .inl q2=>
  some q2
 | .inr _=>
  some (-1)
def agn:Spec fam:=⟨[ne,ne],[ge],λa=>iG a.1 a.2.1⟩
def eR(s:List UInt8)(substr:List UInt8):Option Int:=
 bif(substr.length:Int) == 0 then
 some (s.length:Int)
 else
 bif(substr.length:Int) == 1 then
  (idx substr 0).bind λch=>
  (aI s (ch.toNat:Int)).bind λx=>
  some x
 else
  bif(substr.length:Int) == (s.length:Int)then
  bif substr == s then
   some 0
  else
   some (-1)
  else
  bif decide ((substr.length:Int)>(s.length:Int))then
   some (-1)
  else
   (iG s substr).bind λx1=>
   some x1
def agH:Spec fam:=⟨[ne,ne],[ge],λa=>eR a.1 a.2.1⟩
def l8(Lf:List UInt8):Option (List UInt8×Bool):=
 (eR Lf ([46]:List UInt8)).bind λi=>
 bif decide (i<0)then
 some (([]:List UInt8),false)
 else
 (slc Lf 0 i).bind λs=>
 some (s,true)
def ag9:Spec fam:=⟨[ne],[ne,gt],λa=>l8 a.1⟩
def o7(t:List UInt8×List (List UInt8)):Option ((List UInt8×List (List UInt8)) ⊕ List (List UInt8)):=
 bif ! (t.1 == ([]:List UInt8))then
 (app 16 t.2 [t.1]).bind λl=>
 (l8 t.1).bind λx=>
 some (.inl (x.1,l))
 else
 some (.inr t.2)
def va(Lf:List UInt8):Option (List (List UInt8)):=
 (loop o7 (Lf,[])).bind λout=>
 some out
def ag2:Spec fam:=⟨[ne],[f9],λa=>va a.1⟩
def BF(s:List Cap):Option (List Cap):=
 bif s.isEmpty then
 none
 else
 (app 16 [] s).bind λl=>
 some l
def qK(s:List Cap):Option (List Cap):=app 16 [] s
def apK:Hint:=.z
def ahV:Spec fam:=⟨[.v (.slice (.st 1)) []],[.v (.slice (.st 1)) [0]],λa=>qK a.1⟩
def GP:Spec fam:=⟨[.v (.slice (.st 1)) []],[.v (.slice (.st 1)) [0]],λa=>BF a.1⟩
def mj(s:List Ls)(f:(M7 fam [.st 2]→Option Bool))(t:Int):Option (Int ⊕ (Int ⊕ Unit)):=
 bif decide (t<(s.length:Int))then
 (idx s t).bind λx=>
 (f (x,())).bind λr=>
 bif r then
  some (.inr (.inl t))
 else
  some (.inl (LC (t+1)))
 else
 some (.inr (.inr ()))
def sH(s:List Ls)(f:(M7 fam [.st 2]→Option Bool)):Option Int:=
 (loop (mj s f) 0).bind λq0=>
 match q0 with
 | .inl q=>
 some q
 | .inr _=>
 some (-1)
def agF:Spec fam:=⟨[.v (.slice (.st 2)) [],.fn [.st 2] .bool],[ge],λa=>sH a.1 a.2.1⟩
def nM(q:Ls)(p:List UInt8):Option Bool:=
 some (q.LB == p)
def agE:Spec fam:=⟨[.v (.st 2) [],.rp .str],[gt],λa=>nM a.1 a.2.1⟩
def pS(c:Lg)(Lf:List UInt8):Option (Ls×Bool):=
 (sH c.Lh (λa'=>nM a'.1 Lf)).bind λi=>
 bif decide (i<0)then
 some ((⟨[],[],0⟩:Ls),false)
 else
 (idx c.Lh i).bind λx=>
 (qK x.MS).bind λx1=>
 some ((⟨x.LB,x1,x.User⟩:Ls),true)
def ag1:Spec fam:=⟨[QI,ne],[.v (.st 2) [1],gt],λa=>pS a.1 a.2.1⟩
def qo(x:Int)(y:Int):Option (Int×Int):=
 let w0:=IntKind.u64.wrap ((RH .u64 x 4294967295)*(RH .u64 y 4294967295))
 let t:=IntKind.u64.wrap ((IntKind.u64.wrap ((Pj .u64 x 32)*(RH .u64 y 4294967295)))+(Pj .u64 w0 32))
 let w1:=IntKind.u64.wrap ((RH .u64 t 4294967295)+(IntKind.u64.wrap ((RH .u64 x 4294967295)*(Pj .u64 y 32))))
 let hi:=IntKind.u64.wrap ((IntKind.u64.wrap ((IntKind.u64.wrap ((Pj .u64 x 32)*(Pj .u64 y 32)))+(Pj .u64 t 32)))+(Pj .u64 w1 32))
 some (hi,IntKind.u64.wrap (x*y))
def agm:Spec fam:=⟨[QW,QW],[QW,QW],λa=>qo a.1 a.2.1⟩
def wx(x:Int):Option Int:=
 (
 bif decide (x≥4294967296)then
  some (Pj .u64 x 32,32)
 else
  some (x,0)).bind λq=>
 (
 bif decide (q.1≥65536)then
  some (Pj .u64 q.1 16,LC (q.2+16))
 else
  some (q.1,q.2)).bind λq1=>
 (
 bif decide (q1.1≥256)then
  some (Pj .u64 q1.1 8,LC (q1.2+8))
 else
  some (q1.1,q1.2)).bind λq2=>
 (idx ([0,1,2,2,3,3,3,3,4,4,4,4,4,4,4,4,5,5,5,5,5,5,5,5,5,5,5,5,5,5,5,5,6,6,6,6,6,6,6,6,6,6,6,6,6,6,6,6,6,6,6,6,6,6,6,6,6,6,6,6,6,6,6,6,7,7,7,7,7,7,7,7,7,7,7,7,7,7,7,7,7,7,7,7,7,7,7,7,7,7,7,7,7,7,7,7,7,7,7,7,7,7,7,7,7,7,7,7,7,7,7,7,7,7,7,7,7,7,7,7,7,7,7,7,7,7,7,7,8,8,8,8,8,8,8,8,8,8,8,8,8,8,8,8,8,8,8,8,8,8,8,8,8,8,8,8,8,8,8,8,8,8,8,8,8,8,8,8,8,8,8,8,8,8,8,8,8,8,8,8,8,8,8,8,8,8,8,8,8,8,8,8,8,8,8,8,8,8,8,8,8,8,8,8,8,8,8,8,8,8,8,8,8,8,8,8,8,8,8,8,8,8,8,8,8,8,8,8,8,8,8,8,8,8,8,8,8,8,8,8,8,8,8,8,8,8,8,8,8,8,8,8,8,8,8,8]:List UInt8) (IntKind.u8.wrap q2.1)).bind λch=>
 let n:=LC (q2.2+(LC (ch.toNat:Int)))
 some n
def ahK:Spec fam:=⟨[QW],[ge],λa=>wx a.1⟩
def pc(x:Int):Option Int:=
 (wx x).bind λx1=>
 some (LC (64 - x1))
def agf:Spec fam:=⟨[QW],[ge],λa=>pc a.1⟩
def zi(V_:Int)(yn0:Int)(un0:Int)(t1:Int×Int):Option ((Int×Int) ⊕ Int):=
 (
 bif decide (t1.2≥4294967296)then
  some true
 else
  some (decide ((IntKind.u64.wrap (t1.2*yn0))>(IntKind.u64.wrap ((IntKind.u64.wrap (4294967296*t1.1))+un0))))).bind λq2=>
 bif q2 then
 bif decide ((IntKind.u64.wrap (t1.1+V_))≥4294967296)then
  some (.inr (IntKind.u64.wrap (t1.2 - 1)))
 else
  some (.inl (IntKind.u64.wrap (t1.1+V_),IntKind.u64.wrap (t1.2 - 1)))
 else
 some (.inr t1.2)
def zh(V_:Int)(yn0:Int)(un1:Int)(t:Int×Int):Option ((Int×Int) ⊕ Int):=
 (
 bif decide (t.1≥4294967296)then
  some true
 else
  some (decide ((IntKind.u64.wrap (t.1*yn0))>(IntKind.u64.wrap ((IntKind.u64.wrap (4294967296*t.2))+un1))))).bind λq=>
 bif q then
 bif decide ((IntKind.u64.wrap (t.2+V_))≥4294967296)then
  some (.inr (IntKind.u64.wrap (t.1 - 1)))
 else
  some (.inl (IntKind.u64.wrap (t.1 - 1),IntKind.u64.wrap (t.2+V_)))
 else
 some (.inr t.1)
def sv(hi:Int)(lo:Int)(y:Int):Option (Int×Int):=
 bif y == 0 then
 none
 else
 bif decide (y≤hi)then
  none
 else
  bif hi == 0 then
  (nz y).bind λ_=>
  (nz y).bind λ_=>
  some (IntKind.u64.wrap (Int.tdiv lo y),Int.tmod lo y)
  else
  (pc y).bind λx=>
  (nn (IntKind.u64.wrap x)).bind λ_=>
  let V_:=Pj .u64 (Rv .u64 y (IntKind.u64.wrap x)) 32
  let yn0:=RH .u64 (Rv .u64 y (IntKind.u64.wrap x)) 4294967295
  (nn (IntKind.u64.wrap x)).bind λ_=>
  (nn (IntKind.u64.wrap (64 - (IntKind.u64.wrap x)))).bind λ_=>
  let aav:=orK .u64 (Rv .u64 hi (IntKind.u64.wrap x)) (Pj .u64 lo (IntKind.u64.wrap (64 - (IntKind.u64.wrap x))))
  (nn (IntKind.u64.wrap x)).bind λ_=>
  let un1:=Pj .u64 (Rv .u64 lo (IntKind.u64.wrap x)) 32
  let un0:=RH .u64 (Rv .u64 lo (IntKind.u64.wrap x)) 4294967295
  (nz V_).bind λ_=>
  let an4:=IntKind.u64.wrap (aav - (IntKind.u64.wrap ((IntKind.u64.wrap (Int.tdiv aav V_))*V_)))
  (loop (zh V_ yn0 un1) (IntKind.u64.wrap (Int.tdiv aav V_),an4)).bind λq1=>
  let aaw:=IntKind.u64.wrap ((IntKind.u64.wrap ((IntKind.u64.wrap (aav*4294967296))+un1)) - (IntKind.u64.wrap (q1*(Rv .u64 y (IntKind.u64.wrap x)))))
  (nz V_).bind λ_=>
  let aiP:=IntKind.u64.wrap (aaw - (IntKind.u64.wrap ((IntKind.u64.wrap (Int.tdiv aaw V_))*V_)))
  (loop (zi V_ yn0 un0) (aiP,IntKind.u64.wrap (Int.tdiv aaw V_))).bind λq0=>
  (nn (IntKind.u64.wrap x)).bind λ_=>
  let quo:=IntKind.u64.wrap ((IntKind.u64.wrap (q1*4294967296))+q0)
  let rem:=Pj .u64 (IntKind.u64.wrap ((IntKind.u64.wrap ((IntKind.u64.wrap (aaw*4294967296))+un0)) - (IntKind.u64.wrap (q0*(Rv .u64 y (IntKind.u64.wrap x)))))) (IntKind.u64.wrap x)
  some (quo,rem)
def agl:Spec fam:=⟨[QW,QW,QW],[QW,QW],λa=>sv a.1 a.2.1 a.2.2.1⟩
def qc(n:Int)(bp:Int):Option Int:=
 (qo (IntKind.u64.wrap n) (IntKind.u64.wrap bp)).bind λx=>
 (sv x.1 x.2 10000).bind λx1=>
 some (LC x1.1)
def agD:Spec fam:=⟨[ge,ge],[ge],λa=>qc a.1 a.2.1⟩
def qv(a:Vec)(bp:Int):Option (Vec×Int):=
 (
 (iq a).bind λx=>
 bif ! x then
  some true
 else
  bif decide (bp<0)then
  some true
  else
  some (decide (bp>1000000))).bind λq=>
 bif q then
 some ((⟨0,0⟩:Vec),1)
 else
 (qc a.Mem bp).bind λx1=>
 (qc a.LA bp).bind λx2=>
 (pU (⟨x1,x2⟩:Vec)).bind λx3=>
 some (x3.1,x3.2)
def ag0:Spec fam:=⟨[t6,ge],[t6,ge],λa=>qv a.1 a.2.1⟩
def nR(s:JG)(label:Int)(part:(M7 fam [.st 1]→Option Int))(up:List (List UInt8))(t:Vec×Vec×Int):Option ((Vec×Vec×Int) ⊕ (Vec ⊕ (Vec×Vec))):=
 bif decide (t.2.2≥0)then
 (MZ t.2.2 up.length).bind λi1=>
 (up[i1]?).bind λx2=>
 (pS s.Lg x2).bind λx3=>
 (
  bif ! x3.2 then
  some true
  else
  bif decide (label<0)then
   some true
  else
   some (decide (label≥(x3.1.MS.length:Int)))).bind λq=>
 bif q then
  some (.inr (.inl (⟨0,0⟩:Vec)))
 else
  (MZ label x3.1.MS.length).bind λi2=>
  (x3.1.MS[i2]?).bind λx4=>
  (part (x4,())).bind λr=>
  (qv t.2.1 r).bind λx5=>
  some (.inl (t.1,x5.1,LC (t.2.2 - 1)))
 else
 some (.inr (.inr (t.1,t.2.1)))
def oZ(s:JG)(Lf:List UInt8)(label:Int)(part:(M7 fam [.st 1]→Option Int)):Option Vec:=
 (va Lf).bind λup=>
 (pS s.Lg Lf).bind λx=>
 bif ! x.2 then
 some (⟨0,0⟩:Vec)
 else
 (mq s label).bind λx1=>
 let i:=LC ((up.length:Int) - 2)
 (loop (nR s label part up) ((⟨0,0⟩:Vec),x1,i)).bind λq0=>
 match q0 with
 | .inl q1=>
  some q1
 | .inr q2=>
  some q2.2
def ahp:Spec fam:=⟨[f0,ne,ge,.fn [.st 1] (.int .i64)],[t6],λa=>oZ a.1 a.2.1 a.2.2.1 a.2.2.2.1⟩
def oP(c:Cap):Option Int:=
 some c.Oe
def aho:Spec fam:=⟨[.v (.st 1) []],[ge],λa=>oP a.1⟩
def nx(s:JG)(Lf:List UInt8)(label:Int):Option Vec:=
 (oZ s Lf label (λa'=>oP a'.1)).bind λx=>
 some x
def ah7:Spec fam:=⟨[f0,ne,ge],[t6],λa=>nx a.1 a.2.1 a.2.2.1⟩
def n_(a:LM):Option Bool:=
 bif a.JG == 1 then
 some true
 else
 some (a.JG == 2)
def ah6:Spec fam:=⟨[QF],[gt],λa=>n_ a.1⟩
def bN(s:List Int)(f:(M7 fam [.int .i64]→Option Bool))(t:Int):Option (Int ⊕ (Int ⊕ Unit)):=
 bif decide (t<(s.length:Int))then
 (idx s t).bind λx=>
 (f (x,())).bind λr=>
 bif r then
  some (.inr (.inl t))
 else
  some (.inl (LC (t+1)))
 else
 some (.inr (.inr ()))
def gf(s:List Int)(f:(M7 fam [.int .i64]→Option Bool)):Option Int:=
 (loop (bN s f) 0).bind λq0=>
 match q0 with
 | .inl q=>
 some q
 | .inr _=>
 some (-1)
def agd:Spec fam:=⟨[pp,.fn [.int .i64] .bool],[ge],λa=>gf a.1 a.2.1⟩
def eI(s:List Int)(f:(M7 fam [.int .i64]→Option Bool)):Option Bool:=
 (gf s f).bind λx=>
 some (decide (x≥0))
def agk:Spec fam:=⟨[pp,.fn [.int .i64] .bool],[gt],λa=>eI a.1 a.2.1⟩
def o8(n:Int)(p:Int)(p1:Int):Option Bool:=
 bif decide (n<p)then
 some true
 else
 some (decide (n>p1))
def agj:Spec fam:=⟨[ge,.rp (.int .i64),.rp (.int .i64)],[gt],λa=>o8 a.1 a.2.1 a.2.2.1⟩
def qI(least:Int)(most:Int)(l:List Int):Option Bool:=
 (eI l (λa'=>o8 a'.1 least most)).bind λx=>
 some (! x)
def agC:Spec fam:=⟨[ge,ge,pp],[gt],λa=>qI a.1 a.2.1 a.2.2.1⟩
def mF(l:List Ask)(label:Int)(t:Vec×Int):Option ((Vec×Int) ⊕ Vec):=
 bif decide (t.2<(l.length:Int))then
 (
  (idx l t.2).bind λx=>
  (
  bif x.Ll == label then
   (qI 0 1125899906842624 [x.LY.Mem,x.LY.LA]).bind λx1=>
   bif x1 then
   (qI 0 50 [x.ME]).bind λx2=>
   some x2
   else
   some false
  else
   some false).bind λq=>
  bif q then
  some (⟨LC (t.1.Mem+(LC (x.LY.Mem*x.ME))),LC (t.1.LA+(LC (x.LY.LA*x.ME)))⟩:Vec)
  else
  some t.1).bind λout=>
 some (.inl (out,LC (t.2+1)))
 else
 some (.inr t.1)
def oN(l:List Ask)(label:Int):Option Vec:=
 (loop (mF l label) ((⟨0,0⟩:Vec),0)).bind λPO=>
 some PO
def agZ:Spec fam:=⟨[QZ,ge],[t6],λa=>oN a.1 a.2.1⟩
def lJ(v:View)(t:Vec×Int):Option ((Vec×Int) ⊕ Vec):=
 bif decide (t.2<(v.s.Lv.length:Int))then
 (
  (idx v.s.Lv t.2).bind λx=>
  (
  (n_ x).bind λx1=>
  bif x1 then
   (lL v x).bind λx2=>
   some x2
  else
   some false).bind λq=>
  bif q then
  (oN x.Mq v.label).bind λx3=>
  (pg t.1 x3).bind λx4=>
  some x4.1
  else
  some t.1).bind λout=>
 some (.inl (out,LC (t.2+1)))
 else
 some (.inr t.1)
def mQ(v:View):Option Vec:=
 (loop (lJ v) ((⟨0,0⟩:Vec),0)).bind λPO=>
 some PO
def ahn:Spec fam:=⟨[Qb],[t6],λa=>mQ a.1⟩
def ma(s:JG)(Lf:List UInt8)(label:Int):Option Vec:=
 (mQ (⟨⟨⟨s.Lg.Lm,s.Lg.Lh⟩,s.Lu,s.Lv,s.Kl,s.LH,s.LJ,s.Now,s.L8,s.Seq⟩,Lf,label,(-1)⟩:View)).bind λx=>
 some x
def ah5:Spec fam:=⟨[f0,ne,ge],[t6],λa=>ma a.1 a.2.1 a.2.2.1⟩
def oE(c:Lg)(Lf:List UInt8)(t:List (List UInt8)×Int):Option ((List (List UInt8)×Int) ⊕ List (List UInt8)):=
 bif decide (t.2<(c.Lh.length:Int))then
 (
  (idx c.Lh t.2).bind λx=>
  (l8 x.LB).bind λx1=>
  (
  bif x1.2 then
   some (x1.1 == Lf)
  else
   some false).bind λq=>
  bif q then
  (app 16 t.1 [x.LB]).bind λl=>
  some l
  else
  some t.1).bind λout=>
 some (.inl (out,LC (t.2+1)))
 else
 some (.inr t.1)
def ri(c:Lg)(Lf:List UInt8):Option (List (List UInt8)):=
 (loop (oE c Lf) ([],0)).bind λPO=>
 some PO
def ahx:Spec fam:=⟨[QI,ne],[f9],λa=>ri a.1 a.2.1⟩
def pd(c:Cap):Option Int:=
 some c.Most
def ag8:Spec fam:=⟨[.v (.st 1) []],[ge],λa=>pd a.1⟩
def qk(s:JG)(Lf:List UInt8)(label:Int):Option Vec:=
 (oZ s Lf label (λa'=>pd a'.1)).bind λx=>
 some x
def ahw:Spec fam:=⟨[f0,ne,ge],[t6],λa=>qk a.1 a.2.1 a.2.2.1⟩
def mA(l:List Int)(t:Int×Int):Option ((Int×Int) ⊕ Int):=
 bif decide (t.2<(l.length:Int))then
 (idx l t.2).bind λx=>
 some (.inl (Nh t.1 x,LC (t.2+1)))
 else
 some (.inr t.1)
def jQ(first:Int)(l:List Int):Option Int:=
 (loop (mA l) (first,0)).bind λadY=>
 some adY
def ag7:Spec fam:=⟨[ge,pp],[ge],λa=>jQ a.1 a.2.1⟩
def kh(n:Int):Option Int:=
 (
 bif decide (n<0)then
  some true
 else
  some (decide (n>1125899906842624))).bind λq=>
 bif q then
 some 0
 else
 some n
def ag6:Spec fam:=⟨[ge],[ge],λa=>kh a.1⟩
def nq(want:List Int)(most:List Int)(n:Int)(t1:List Int×Int×Int):Option ((List Int×Int×Int) ⊕ List Int):=
 bif decide (t1.2.2<n)then
 (idx want t1.2.2).bind λx9=>
 (kh x9).bind λx10=>
 (idx most t1.2.2).bind λPE=>
 (kh PE).bind λTA=>
 (jQ x10 [TA]).bind λUD=>
 (MZ t1.2.2 t1.1.length).bind λi2=>
 (t1.1[i2]?).bind λVt=>
 (jQ (imax (LC (UD - Vt)) 0) [t1.2.1]).bind λmore=>
 (MZ t1.2.2 t1.1.length).bind λi3=>
 (t1.1[i3]?).bind λWt=>
 (MZ t1.2.2 t1.1.length).bind λi4=>
 (t1.1[i4]?).bind λYx=>
 some (.inl (List.set t1.1 i4 (LC (Wt+more)),LC (t1.2.1 - more),LC (t1.2.2+1)))
 else
 some (.inr t1.1)
def np(least:List Int)(want:List Int)(most:List Int)(n:Int)(t:List Int×Int×Int):Option ((List Int×Int×Int) ⊕ ((List Int×Int))):=
 bif decide (t.2.2<n)then
 (idx least t.2.2).bind λx=>
 (kh x).bind λx1=>
 (idx want t.2.2).bind λx2=>
 (kh x2).bind λx3=>
 (idx most t.2.2).bind λx4=>
 (kh x4).bind λx5=>
 (jQ x1 [x3,x5,t.2.1]).bind λx6=>
 (MZ t.2.2 t.1.length).bind λi=>
 (t.1[i]?).bind λx7=>
 (MZ t.2.2 (List.set t.1 i x6).length).bind λi1=>
 ((List.set t.1 i x6)[i1]?).bind λx8=>
 some (.inl (List.set t.1 i x6,LC (t.2.1 - x8),LC (t.2.2+1)))
 else
 some (.inr (t.1,t.2.1))
def pN(total:Int)(least:List Int)(want:List Int)(most:List Int):Option (List Int):=
 (jQ (least.length:Int) [(want.length:Int),(most.length:Int)]).bind λn=>
 (Wh 8 n n 0).bind λl=>
 (kh total).bind λleft=>
 (loop (np least want most n) (l,left,0)).bind λq=>
 (loop (nq want most n) (q.1,q.2,0)).bind λout=>
 some out
def ahv:Spec fam:=⟨[ge,pp,pp,pp],[f8],λa=>pN a.1 a.2.1 a.2.2.1 a.2.2.2.1⟩
def jH(s:JG)(label:Int)(deep:Int)(self:JG→(List UInt8)→Int→Int→Int→Option (List Mr))(kids:List (List UInt8))(x5:List Int)(t1:List Mr×Int):Option ((List Mr×Int) ⊕ List Mr):=
 bif decide (t1.2<(x5.length:Int))then
 (MZ t1.2 x5.length).bind λi1=>
 (x5[i1]?).bind λx6=>
 (MZ t1.2 kids.length).bind λi2=>
 (kids[i2]?).bind λx7=>
 (self s x7 label x6 (LC (deep+1))).bind λx8=>
 (app 24 t1.1 x8).bind λl3=>
 some (.inl (l3,LC (t1.2+1)))
 else
 some (.inr t1.1)
def lZ(s:JG)(label:Int)(kids:List (List UInt8))(t:Nw×Int):Option ((Nw×Int) ⊕ Nw):=
 bif decide (t.2<(kids.length:Int))then
 (MZ t.2 kids.length).bind λi=>
 (kids[i]?).bind λx=>
 (nx s x label).bind λx1=>
 (ke s x label).bind λx2=>
 (ma s x label).bind λx3=>
 (qk s x label).bind λx4=>
 (OV t.2 (t.1.r0.length:Int) t.1.r0.length).bind λp=>
 (OV 0 1 [x1.Mem,LC (x2.Mem+x3.Mem),x4.Mem].length).bind λp1=>
 (OV t.2 (t.1.r1.length:Int) t.1.r1.length).bind λp2=>
 (OV 1 2 [x1.Mem,LC (x2.Mem+x3.Mem),x4.Mem].length).bind λp3=>
 (OV t.2 (t.1.r2.length:Int) t.1.r2.length).bind λp4=>
 (OV 2 3 [x1.Mem,LC (x2.Mem+x3.Mem),x4.Mem].length).bind λp5=>
 some (.inl ((⟨Rm t.1.r0 p.1 p.2 (sub [x1.Mem,LC (x2.Mem+x3.Mem),x4.Mem] p1.1 p1.2),Rm t.1.r1 p2.1 p2.2 (sub [x1.Mem,LC (x2.Mem+x3.Mem),x4.Mem] p3.1 p3.2),Rm t.1.r2 p4.1 p4.2 (sub [x1.Mem,LC (x2.Mem+x3.Mem),x4.Mem] p5.1 p5.2)⟩:Nw),LC (t.2+1)))
 else
 some (.inr t.1)
def mc(self:JG→(List UInt8)→Int→Int→Int→Option (List Mr))(s:JG)(Lf:List UInt8)(label:Int)(mem:Int)(deep:Int):Option (List Mr):=
 (ri s.Lg Lf).bind λkids=>
 (
 bif(kids.length:Int) == 0 then
  some true
 else
  some (decide (deep>4))).bind λq=>
 bif q then
 some [(⟨Lf,mem⟩:Mr)]
 else
 (Wh 8 (kids.length:Int) (kids.length:Int) 0).bind λl=>
 (Wh 8 (kids.length:Int) (kids.length:Int) 0).bind λl1=>
 (Wh 8 (kids.length:Int) (kids.length:Int) 0).bind λl2=>
 (loop (lZ s label kids) ((⟨l,l1,l2⟩:Nw),0)).bind λrows=>
 (pN mem rows.r0 rows.r1 rows.r2).bind λx5=>
 (loop (jH s label deep self kids x5) ([],0)).bind λout=>
 some out
def eV:Nat→JG→(List UInt8)→Int→Int→Int→Option (List Mr)
 | 0=>λ_ _ _ _ _=>none
 | n+1=>mc (eV n)
def rC(a0:JG)(a1:List UInt8)(a2:Int)(a3:Int)(a4:Int):Option (List Mr):=eV 64 a0 a1 a2 a3 a4
def apN:Hint:=(Qe (.s .z (.s (.s (.j [25,26,27,28,29,30,31] [(0,[(31,gt)])] .z) .z) (Qe (.s (Qe (.b (.u 4 .z))) (.s (Qe ((Qf [(12,.box (.st 19) [5003,0,1,2]),(51,ge)] [12,14,15,16,17,51,52,53,54,55,56,57,58,59,60,61,62,63,64,65,66,67,68,69,70,71,72,73,74,75,76,77,78,79,80,81,82,83,84,85,86,87,88,89,90,91,92,93,94,95,96] [(4,[(12,.box (.st 19) [5003,0,1,2])])] (Qe (.s .z (.s (.b (Qe (.s .z (Qe (.b (.u 4 .z)))))) .z)))))) (Qe (.s (Qe ((Qf [(18,QC),(109,ge)] [18,19,20,109] [(8,[(18,QC)])] .z))) .z))))))))
def ah_:Spec fam:=⟨[f0,ne,ge,ge,ge],[QC],λa=>rC a.1 a.2.1 a.2.2.1 a.2.2.2.1 a.2.2.2.2.1⟩
def rS(n:Nat):Spec fam:=⟨[.v (.st 10) [],.v .str [],.v (.int .i64) [],.v (.int .i64) [],.v (.int .i64) []],[.v (.slice (.st 16)) [0]],λa=>eV n a.1 a.2.1 a.2.2.1 a.2.2.2.1 a.2.2.2.2.1⟩
def lH(s:JG)(label:Int):Option (List Mr):=
 (mq s label).bind λx=>
 (rC s ([114,111,111,116]:List UInt8) label x.Mem 1).bind λx1=>
 some x1
def amW:Spec fam:=⟨[f0,ge],[QC],λa=>lH a.1 a.2.1⟩
def nG(s:List LM)(f:(M7 fam [.st 6]→Option Bool))(t:Int):Option (Int ⊕ (Int ⊕ Unit)):=
 bif decide (t<(s.length:Int))then
 (idx s t).bind λx=>
 (f (x,())).bind λr=>
 bif r then
  some (.inr (.inl t))
 else
  some (.inl (LC (t+1)))
 else
 some (.inr (.inr ()))
def v8(s:List LM)(f:(M7 fam [.st 6]→Option Bool)):Option Int:=
 (loop (nG s f) 0).bind λq0=>
 match q0 with
 | .inl q=>
 some q
 | .inr _=>
 some (-1)
def ahQ:Spec fam:=⟨[.v (.slice (.st 6)) [],.fn [.st 6] .bool],[ge],λa=>v8 a.1 a.2.1⟩
def qe(a:LM)(p:Int):Option Bool:=
 some (a.Id == p)
def ahP:Spec fam:=⟨[QF,.rp (.int .i64)],[gt],λa=>qe a.1 a.2.1⟩
def pj(s:JG)(N8:Int):Option Int:=
 (v8 s.Lv (λa'=>qe a'.1 N8)).bind λx=>
 some x
def amG:Spec fam:=⟨[f0,ge],[ge],λa=>pj a.1 a.2.1⟩
def BD(s:List Ask):Option (List Ask):=
 bif s.isEmpty then
 none
 else
 (app 64 [] s).bind λl=>
 some l
def vQ(s:List Ask):Option (List Ask):=app 64 [] s
def apF:Hint:=.z
def ahr:Spec fam:=⟨[QZ],[ac],λa=>vQ a.1⟩
def GW:Spec fam:=⟨[.v (.slice (.st 5)) []],[.v (.slice (.st 5)) [0]],λa=>BD a.1⟩
def mS(l:List Int):Option (List Int):=
 (Wh 8 (l.length:Int) (l.length:Int) 0).bind λl1=>
 some (Rm l1 0 l1.length l)
def ahq:Spec fam:=⟨[pp],[f8],λa=>mS a.1⟩
def qR(a:LM):Option LM:=
 (vQ a.Mq).bind λx=>
 (mS a.MC).bind λx1=>
 (mS a.Np).bind λx2=>
 (mS a.Told).bind λx3=>
 (mS a.NW).bind λx4=>
 some (⟨a.Id,a.JG,a.Ls,a.User,a.LD,⟨a.Lp.Mem,a.Lp.LA⟩,x,a.NV,a.Nc,x1,x2,x3,x4⟩:LM)
def ah8:Spec fam:=⟨[QF],[Q9],λa=>qR a.1⟩
def nZ(s:JG)(N8:Int):Option (LM×Bool):=
 (pj s N8).bind λi=>
 bif decide (i<0)then
 some ((⟨0,0,[],0,0,⟨0,0⟩,[],0,0,[],[],[],[]⟩:LM),false)
 else
 (idx s.Lv i).bind λx=>
 (qR x).bind λx1=>
 some (x1,true)
def amU:Spec fam:=⟨[f0,ge],[Q9,gt],λa=>nZ a.1 a.2.1⟩
def mB(s:JG)(label:Int)(t1:L9×Int):Option ((L9×Int) ⊕ L9):=
 bif decide (t1.2<(s.Kl.length:Int))then
 (
  (idx s.Kl t1.2).bind λx4=>
  bif x4.Ll != label then
  some t1.1
  else
  (nZ s x4.LM).bind λx5=>
  bif x4.Mw != 0 then
   (b8 (⟨⟨⟨t1.1.s.Lg.Lm,t1.1.s.Lg.Lh⟩,t1.1.s.Lu,t1.1.s.Lv,t1.1.s.Kl,t1.1.s.LH,t1.1.s.LJ,t1.1.s.Now,t1.1.s.L8,t1.1.s.Seq⟩,t1.1.label,t1.1.over,OQ (λx6=>x4.Id == x6.k) t1.1.leaf (⟨x4.Id,x5.1.Ls⟩:L6),t1.1.Oc,t1.1.gone⟩:L9) x4).bind λx7=>
   some x7
  else
   some (⟨⟨⟨t1.1.s.Lg.Lm,t1.1.s.Lg.Lh⟩,t1.1.s.Lu,t1.1.s.Lv,t1.1.s.Kl,t1.1.s.LH,t1.1.s.LJ,t1.1.s.Now,t1.1.s.L8,t1.1.s.Seq⟩,t1.1.label,t1.1.over,OQ (λx6=>x4.Id == x6.k) t1.1.leaf (⟨x4.Id,x5.1.Ls⟩:L6),t1.1.Oc,t1.1.gone⟩:L9)).bind λk1=>
 some (.inl (k1,LC (t1.2+1)))
 else
 some (.inr t1.1)
def mz(s:JG)(label:Int)(x:List Mr)(t:L9×Int):Option ((L9×Int) ⊕ L9):=
 bif decide (t.2<(x.length:Int))then
 (MZ t.2 x.length).bind λi=>
 (x[i]?).bind λx1=>
 (ke s x1.LB label).bind λx2=>
 some (.inl ((⟨⟨⟨t.1.s.Lg.Lm,t.1.s.Lg.Lh⟩,t.1.s.Lu,t.1.s.Lv,t.1.s.Kl,t.1.s.LH,t.1.s.LJ,t.1.s.Now,t.1.s.L8,t.1.s.Seq⟩,t.1.label,OQ (λx3=>x1.LB == x3.k) t.1.over (⟨x1.LB,LC (x2.Mem - x1.Mem)⟩:Mc),t.1.leaf,t.1.Oc,t.1.gone⟩:L9),LC (t.2+1)))
 else
 some (.inr t.1)
def oL(s:JG)(label:Int):Option L9:=
 (lH s label).bind λx=>
 (loop (mz s label x) ((⟨⟨⟨s.Lg.Lm,s.Lg.Lh⟩,s.Lu,s.Lv,s.Kl,s.LH,s.LJ,s.Now,s.L8,s.Seq⟩,label,[],[],[],0⟩:L9),0)).bind λk=>
 (loop (mB s label) (k,0)).bind λk2=>
 some k2
def anM:Spec fam:=⟨[f0,ge],[.nb (.st 18) [11,12,13]],λa=>oL a.1 a.2.1⟩
def fk(k:L9)(Lf:List UInt8)(x:Vec)(x1:Vec)(x2:LM)(t1:Int):Option (Int ⊕ (Int ⊕ Unit)):=
 bif decide (t1<(x2.Mq.length:Int))then
 (idx x2.Mq t1).bind λx4=>
 (
  bif x4.Ll == k.label then
  some (decide ((LC (x.Mem+x4.LY.Mem))≤x1.Mem))
  else
  some false).bind λq1=>
 bif q1 then
  (ma k.s Lf k.label).bind λx5=>
  some (.inr (.inl (Nh x5.Mem (LC (x1.Mem - x.Mem)))))
 else
  some (.inl (LC (t1+1)))
 else
 some (.inr (.inr ()))
def fc(k:L9)(Lf:List UInt8)(x:Vec)(x1:Vec)(t:Int):Option (Int ⊕ (Int ⊕ Unit)):=
 bif decide (t<(k.s.Lv.length:Int))then
 (
  (idx k.s.Lv t).bind λx2=>
  (
  (n_ x2).bind λx3=>
  bif ! x3 then
   some true
  else
   some (! (x2.Ls == Lf))).bind λq=>
  bif q then
  some (.inl ())
  else
  (loop (fk k Lf x x1 x2) 0).bind λq0=>
  match q0 with
  | .inl q2=>
   some (.inr q2)
  | .inr _=>
   some (.inl ()):Option (Unit ⊕ Int)).bind λq0=>
 match q0 with
 | .inl _=>
  some (.inl (LC (t+1)))
 | .inr q3=>
  some (.inr (.inl q3))
 else
 some (.inr (.inr ()))
def iT(k:L9)(Lf:List UInt8):Option (Int×L9):=
 (ke k.s Lf k.label).bind λx=>
 (nx k.s Lf k.label).bind λx1=>
 (loop (fc k Lf x x1) 0).bind λq0=>
 match q0 with
 | .inl q4=>
 some (q4,k)
 | .inr _=>
 some (0,k)
def amT:Spec fam:=⟨[QU,ne],[ge],λa=>iT a.1 a.2.1⟩
def cq(x:List Mr)(t:L9×Int×Int):Option ((L9×Int×Int) ⊕ ((L9×Int))):=
 bif decide (t.2.2<(x.length:Int))then
 (MZ t.2.2 x.length).bind λi=>
 (x[i]?).bind λx1=>
 (iT t.1 x1.LB).bind λx2=>
 let sum:=LC (t.2.1+x2.1)
 some (.inl (x2.2,sum,LC (t.2.2+1)))
 else
 some (.inr (t.1,t.2.1))
def j8(k:L9):Option (Int×L9):=
 (lH k.s k.label).bind λx=>
 (loop (cq x) (k,0,0)).bind λq=>
 (mq q.1.s q.1.label).bind λx3=>
 (ke q.1.s ([114,111,111,116]:List UInt8) q.1.label).bind λx4=>
 some (LC (q.2 - (imax (LC (x3.Mem - x4.Mem)) 0)),q.1)
def anL:Spec fam:=⟨[QU],[ge],λa=>j8 a.1⟩
def jx(vals:List Int)(t:Int):Option (Int ⊕ (Int ⊕ Unit)):=
 bif decide (t<(vals.length:Int))then
 (idx vals t).bind λx=>
 bif x != 0 then
  some (.inr (.inl x))
 else
  some (.inl (LC (t+1)))
 else
 some (.inr (.inr ()))
def pH(vals:List Int):Option Int:=
 (loop (jx vals) 0).bind λq0=>
 match q0 with
 | .inl q=>
 some q
 | .inr _=>
 some 0
def amR:Spec fam:=⟨[pp],[ge],λa=>pH a.1⟩
def m_(x:Int):Option Bool:=
 some (x != x)
def ah3:Spec fam:=⟨[ge],[gt],λa=>m_ a.1⟩
def lS(x:Int)(y:Int):Option Int:=
 (m_ x).bind λac8=>
 (m_ y).bind λYV=>
 bif ac8 then
 bif YV then
  some 0
 else
  some (-1)
 else
 bif YV then
  some 1
 else
  bif decide (x<y)then
  some (-1)
  else
  bif decide (x>y)then
   some 1
  else
   some 0
def amQ:Spec fam:=⟨[ge,ge],[ge],λa=>lS a.1 a.2.1⟩
def lk(x:List UInt8):Option Bool:=
 some (! (x == x))
def ah2:Spec fam:=⟨[ne],[gt],λa=>lk a.1⟩
def j_(x:List UInt8)(y:List UInt8):Option Int:=
 (lk x).bind λac8=>
 (lk y).bind λYV=>
 bif ac8 then
 bif YV then
  some 0
 else
  some (-1)
 else
 bif YV then
  some 1
 else
  bif Op.bytesLess x y then
  some (-1)
  else
  bif ! (SH x y)then
   some 1
  else
   some 0
def amP:Spec fam:=⟨[ne,ne],[ge],λa=>j_ a.1 a.2.1⟩
def bV(k:L9)(_ob:Obj)(found:List UInt8)(e4:Lr):Option (List UInt8):=
 (
 bif found == ([]:List UInt8)then
  some true
 else
  let e5:=Oi (λx6=>found == x6.k) k.over (⟨found,0⟩:Mc)
  let e6:=Oi (λx7=>e4.k == x7.k) k.over (⟨e4.k,0⟩:Mc)
  (lS e5.v e6.v).bind λx8=>
  (j_ e4.k found).bind λx9=>
  (pH [x8,x9]).bind λx10=>
  some (decide (x10<0))).bind λq2=>
 bif q2 then
 some e4.k
 else
 some found
def dA(k:L9)(t:List Lr×Int):Option ((List Lr×Int) ⊕ List Lr):=
 bif decide (t.2<(k.s.Kl.length:Int))then
 (
  (idx k.s.Kl t.2).bind λx=>
  let e:=Oi (λx1=>x.Id == x1.k) k.leaf (⟨x.Id,[]⟩:L6)
  let is:=O6 (λx1=>x.Id == x1.k) k.leaf
  (
  bif ! is then
   some true
  else
   let e1:=Oi (λx2=>x.Id == x2.k) k.Oc (⟨x.Id,0⟩:NP)
   bif decide (e1.v>0)then
   some true
   else
   let e2:=Oi (λx3=>e.v == x3.k) k.over (⟨e.v,0⟩:Mc)
   some (decide (e2.v≤0))).bind λq=>
  bif q then
  some t.1
  else
  let e3:=Oi (λx4=>e.v == x4.k) t.1 (⟨e.v,⟨0,0,0,⟨0,0⟩,0,0,false,0⟩⟩:Lr)
  let has:=O6 (λx4=>e.v == x4.k) t.1
  (
   bif ! has then
   some true
   else
   bif e3.v.Lp then
    bif ! x.Lp then
    some true
    else
    bif e3.v.Lp == x.Lp then
     some (decide (x.Id>e3.v.Id))
    else
     some false
   else
    bif e3.v.Lp == x.Lp then
    some (decide (x.Id>e3.v.Id))
    else
    some false).bind λq1=>
  bif q1 then
   some (OQ (λx5=>e.v == x5.k) t.1 (⟨e.v,⟨x.Id,x.LM,x.LG,⟨x.LY.Mem,x.LY.LA⟩,x.LD,x.Ll,x.Lp,x.Mw⟩⟩:Lr))
  else
   some t.1).bind λbest=>
 some (.inl (best,LC (t.2+1)))
 else
 some (.inr t.1)
def ka(k:L9):Option (Lx×Bool×L9):=
 (loop (dA k) ([],0)).bind λU5=>
 (rng (ω:=Obj) (λ_=>some ([]:List UInt8)) (bV k) U5).bind λWW=>
 let e7:=Oi (λPE=>WW == PE.k) U5 (⟨WW,⟨0,0,0,⟨0,0⟩,0,0,false,0⟩⟩:Lr)
 let is1:=O6 (λPE=>WW == PE.k) U5
 some (e7.v,is1,k)
def anK:Spec fam:=⟨[QU],[QK,gt],λa=>ka a.1⟩
def di(need:Int×L9)(t:L9×List Int):Option ((L9×List Int) ⊕ List Int):=
 bif decide (t.1.gone<need.1)then
 (ka t.1).bind λx=>
 bif ! x.2.1 then
  some (.inr t.2)
 else
  (b8 x.2.2 x.1).bind λx1=>
  (app 8 t.2 [x.1.Id]).bind λl=>
  some (.inl (x1,l))
 else
 some (.inr t.2)
def jC(s:JG)(label:Int):Option (List Int):=
 (oL s label).bind λk=>
 (j8 k).bind λneed=>
 (loop (di need) (need.2,[])).bind λout=>
 some out
def h10:Hint:=(Qe (.s .z (Qe (.s .z (.s ((Qf [(5,QU),(7,f8)] [5,7,8] [(2,[(7,f8)])] .z)) .z)))))
def an2:Spec fam:=⟨[f0,ge],[f8],λa=>jC a.1 a.2.1⟩
def oC(s:List Lx)(f:(M7 fam [.st 7]→Option Bool))(t:Int):Option (Int ⊕ (Int ⊕ Unit)):=
 bif decide (t<(s.length:Int))then
 (idx s t).bind λx=>
 (f (x,())).bind λr=>
 bif r then
  some (.inr (.inl t))
 else
  some (.inl (LC (t+1)))
 else
 some (.inr (.inr ()))
def ju(s:List Lx)(f:(M7 fam [.st 7]→Option Bool)):Option Int:=
 (loop (oC s f) 0).bind λq0=>
 match q0 with
 | .inl q=>
 some q
 | .inr _=>
 some (-1)
def anB:Spec fam:=⟨[Q8,.fn [.st 7] .bool],[ge],λa=>ju a.1 a.2.1⟩
def xh(s:List Lx):Option (List Lx):=
 bif s.isEmpty then
 none
 else
 (app 72 [] s).bind λl=>
 some l
def mV(s:List Lx):Option (List Lx):=app 72 [] s
def h97:Hint:=.z
def amB:Spec fam:=⟨[Q8],[QQ],λa=>mV a.1⟩
def I2:Spec fam:=⟨[.v (.slice (.st 7)) []],[.v (.slice (.st 7)) [0]],λa=>xh a.1⟩
def nS(s:List (List UInt8)):Option (List (List UInt8)):=
 bif s.isEmpty then
 none
 else
 (app 16 [] s).bind λl=>
 some l
def eX(s:List (List UInt8)):Option (List (List UInt8)):=app 16 [] s
def apM:Hint:=.z
def ahX:Spec fam:=⟨[.v (.slice (.str)) []],[f9],λa=>eX a.1⟩
def HG:Spec fam:=⟨[.v (.slice (.str)) []],[.v (.slice (.str)) [0]],λa=>nS a.1⟩
def vg(s:List Ls):Option (List Ls):=
 bif s.isEmpty then
 none
 else
 (app 48 [] s).bind λl=>
 some l
def pv(s:List Ls):Option (List Ls):=app 48 [] s
def apL:Hint:=.z
def ahW:Spec fam:=⟨[.v (.slice (.st 2)) []],[.v (.slice (.st 2)) [0]],λa=>pv a.1⟩
def Im:Spec fam:=⟨[.v (.slice (.st 2)) []],[.v (.slice (.st 2)) [0]],λa=>vg a.1⟩
def As(s:List LG):Option (List LG):=
 bif s.isEmpty then
 none
 else
 (app 64 [] s).bind λl=>
 some l
def tN(s:List LG):Option (List LG):=app 64 [] s
def apJ:Hint:=.z
def ahU:Spec fam:=⟨[.v (.slice (.st 4)) []],[.v (.slice (.st 4)) [0]],λa=>tN a.1⟩
def GZ:Spec fam:=⟨[.v (.slice (.st 4)) []],[.v (.slice (.st 4)) [0]],λa=>As a.1⟩
def Bk(s:List Nt):Option (List Nt):=
 bif s.isEmpty then
 none
 else
 (app 24 [] s).bind λl=>
 some l
def tO(s:List Nt):Option (List Nt):=app 24 [] s
def apI:Hint:=.z
def ahT:Spec fam:=⟨[.v (.slice (.st 8)) []],[QE],λa=>tO a.1⟩
def Ib:Spec fam:=⟨[.v (.slice (.st 8)) []],[.v (.slice (.st 8)) [0]],λa=>Bk a.1⟩
def zr(s:List MV):Option (List MV):=
 bif s.isEmpty then
 none
 else
 (app 48 [] s).bind λl=>
 some l
def ud(s:List MV):Option (List MV):=app 48 [] s
def apH:Hint:=.z
def ahS:Spec fam:=⟨[Q4],[QM],λa=>ud a.1⟩
def Gm:Spec fam:=⟨[.v (.slice (.st 9)) []],[.v (.slice (.st 9)) [0]],λa=>zr a.1⟩
def xm(s:List LM):Option (List LM):=
 bif s.isEmpty then
 none
 else
 (app 200 [] s).bind λl=>
 some l
def qM(s:List LM):Option (List LM):=app 200 [] s
def apG:Hint:=.z
def ahR:Spec fam:=⟨[.v (.slice (.st 6)) []],[QL],λa=>qM a.1⟩
def Gj:Spec fam:=⟨[.v (.slice (.st 6)) []],[.v (.slice (.st 6)) [0]],λa=>xm a.1⟩
def nF(x9:List LM)(t1:List LM×Nat×Int):Option ((List LM×Nat×Int) ⊕ (List LM×Nat×Int)):=
 bif decide (t1.2.2<(x9.length:Int))then
 (MZ t1.2.2 t1.1.length).bind λi2=>
 bif Nat.ble t1.2.1 i2 then
  (t1.1[i2]?).bind λx10=>
  (qR x10).bind λPE=>
  (MZ t1.2.2 t1.1.length).bind λi3=>
  bif Nat.beq i3 t1.2.1 then
  (t1.1[i3]?).bind λTA=>
  some (.inl (List.set t1.1 i3 PE,t1.2.1+1,LC (t1.2.2+1)))
  else
  none
 else
  none
 else
 some (.inr (t1.1,t1.2.1,t1.2.2))
def nH(x1:List Ls)(t:List Ls×Nat×Int):Option ((List Ls×Nat×Int) ⊕ (List Ls×Nat×Int)):=
 bif decide (t.2.2<(x1.length:Int))then
 (MZ t.2.2 t.1.length).bind λi=>
 bif Nat.ble t.2.1 i then
  (t.1[i]?).bind λx2=>
  (qK x2.MS).bind λx3=>
  (MZ t.2.2 t.1.length).bind λi1=>
  bif Nat.beq i1 t.2.1 then
  (t.1[i1]?).bind λx4=>
  some (.inl (List.set t.1 i1 (⟨x4.LB,x3,x4.User⟩:Ls),t.2.1+1,LC (t.2.2+1)))
  else
  none
 else
  none
 else
 some (.inr (t.1,t.2.1,t.2.2))
def qO(s:JG):Option JG:=
 (eX s.Lg.Lm).bind λx=>
 (pv s.Lg.Lh).bind λx1=>
 (loop (nH x1) (x1,0,0)).bind λq=>
 bif Nat.ble q.1.length q.2.1 then
 (tN s.Lu).bind λx5=>
 (mV s.Kl).bind λx6=>
 (tO s.LH).bind λx7=>
 (ud s.LJ).bind λx8=>
 (qM s.Lv).bind λx9=>
 (loop (nF x9) (x9,0,0)).bind λq1=>
 bif Nat.ble q1.1.length q1.2.1 then
  some (⟨⟨x,q.1⟩,x5,q1.1,x6,x7,x8,s.Now,s.L8,s.Seq⟩:JG)
 else
  none
 else
 none
def amI:Spec fam:=⟨[f0],[QV],λa=>qO a.1⟩
def rL(c:Lx)(p:Int):Option Bool:=
 some (c.Id == p)
def amH:Spec fam:=⟨[QK,.rp (.int .i64)],[gt],λa=>rL a.1 a.2.1⟩
def rv(s:List Ask)(f:(M7 fam [.st 5]→Option Bool))(t:Int):Option (Int ⊕ (Int ⊕ Unit)):=
 bif decide (t<(s.length:Int))then
 (idx s t).bind λx=>
 (f (x,())).bind λr=>
 bif r then
  some (.inr (.inl t))
 else
  some (.inl (LC (t+1)))
 else
 some (.inr (.inr ()))
def qF(s:List Ask)(f:(M7 fam [.st 5]→Option Bool)):Option Int:=
 (loop (rv s f) 0).bind λq0=>
 match q0 with
 | .inl q=>
 some q
 | .inr _=>
 some (-1)
def agA:Spec fam:=⟨[QZ,.fn [.st 5] .bool],[ge],λa=>qF a.1 a.2.1⟩
def wA(del:(M7 fam [.st 5]→Option Bool))(t:List Ask×Int×Int):Option ((List Ask×Int×Int) ⊕ ((List Ask×Int))):=
 bif decide (t.2.2<(t.1.length:Int))then
 (
  (MZ t.2.2 t.1.length).bind λi1=>
  (t.1[i1]?).bind λx=>
  (del (x,())).bind λr=>
  bif ! r then
  (MZ t.2.1 t.1.length).bind λi2=>
  (t.1[i2]?).bind λx1=>
  some (List.set t.1 i2 x,LC (t.2.1+1))
  else
  some (t.1,t.2.1)).bind λq=>
 some (.inl (q.1,q.2,LC (t.2.2+1)))
 else
 some (.inr (t.1,t.2.1))
def oI(s:List Ask)(del:(M7 fam [.st 5]→Option Bool)):Option (List Ask):=
 (qF s del).bind λi=>
 bif i == (-1)then
 some s
 else
 (loop (wA del) (s,i,LC (i+1))).bind λq1=>
 (OV q1.2 (q1.1.length:Int) q1.1.length).bind λp=>
 (OV 0 q1.2 (Rm q1.1 p.1 p.2 (List.replicate p.2 (⟨0,0,⟨0,0⟩,0,0,0,0⟩:Ask))).length).bind λp1=>
 some (List.take p1.2 (Rm q1.1 p.1 p.2 (List.replicate p.2 (⟨0,0,⟨0,0⟩,0,0,0,0⟩:Ask))))
def agW:Spec fam:=⟨[ac,.fn [.st 5] .bool],[ac],λa=>oI a.1 a.2.1⟩
def wh(l:List Ask):Option (List Ask):=
 (Wh 64 (l.length:Int) (l.length:Int) (⟨0,0,⟨0,0⟩,0,0,0,0⟩:Ask)).bind λl1=>
 some (Rm l1 0 l1.length l)
def agV:Spec fam:=⟨[QZ],[ac],λa=>wh a.1⟩
def xc(x:Ask)(p:Ask):Option Bool:=
 some (x.LD == p.LD)
def agU:Spec fam:=⟨[QS,.rp (.st 5)],[gt],λa=>xc a.1 a.2.1⟩
def ue(s:List Ask)(i:Int)(v:List Ask):Option (List Ask):=
 (OV i (s.length:Int) s.length).bind λp=>
 bif(v.length:Int) == 0 then
 some s
 else
 bif i == (s.length:Int)then
  (app 64 s v).bind λl=>
  some l
 else
  none
def agT:Spec fam:=⟨[ac,ge,QZ],[ac],λa=>ue a.1 a.2.1 a.2.2.1⟩
def vv(a:Ask)(out:List Ask)(k:Int):Option (Int ⊕ Int):=
 (
 bif decide (k<(out.length:Int))then
  (MZ k out.length).bind λi=>
  (out[i]?).bind λx1=>
  some (decide (x1.LD<a.LD))
 else
  some false).bind λq=>
 bif q then
 some (.inl (LC (k+1)))
 else
 some (.inr k)
def wg(l:List Ask)(a:Ask):Option (List Ask×Int):=
 (wh l).bind λx=>
 (oI x (λa'=>xc a'.1 a)).bind λout=>
 bif a.ME == 0 then
 some (out,0)
 else
 bif decide ((out.length:Int)≥8)then
  some ([],4)
 else
  (loop (vv a out) 0).bind λk1=>
  (ue out k1 [(⟨a.LD,a.Ll,⟨a.LY.Mem,a.LY.LA⟩,a.ME,a.LG,a.Om,0⟩:Ask)]).bind λx2=>
  some (x2,0)
def ahk:Spec fam:=⟨[QZ,QS],[ac,ge],λa=>wg a.1 a.2.1⟩
def qn(a:LM):Option (List Ask):=
 (wg [] (⟨0,0,⟨a.Lp.Mem,a.Lp.LA⟩,1,(-1),(-1),0⟩:Ask)).bind λx=>
 some x.1
def ahO:Spec fam:=⟨[QF],[ac],λa=>qn a.1⟩
def mK(c:Lx)(p:Int)(p1:List Int):Option (Bool×List Int):=
 (
 bif c.LM == p then
  (app 8 p1 [c.Id]).bind λl=>
  some l
 else
  some p1).bind λq=>
 some (c.LM == p,q)
def ahj:Spec fam:=⟨[QK,.rp (.int .i64),.box (.slice (.int .i64)) [0]],[gt],λa=>mK a.1 a.2.1 a.2.2.1⟩
def lV(s:List Nt)(f:(M7 fam [.st 8]→Option Bool))(t:Int):Option (Int ⊕ (Int ⊕ Unit)):=
 bif decide (t<(s.length:Int))then
 (idx s t).bind λx=>
 (f (x,())).bind λr=>
 bif r then
  some (.inr (.inl t))
 else
  some (.inl (LC (t+1)))
 else
 some (.inr (.inr ()))
def mg(s:List Nt)(f:(M7 fam [.st 8]→Option Bool)):Option Int:=
 (loop (lV s f) 0).bind λq0=>
 match q0 with
 | .inl q=>
 some q
 | .inr _=>
 some (-1)
def agS:Spec fam:=⟨[.v (.slice (.st 8)) [],.fn [.st 8] .bool],[ge],λa=>mg a.1 a.2.1⟩
def lP(del:(M7 fam [.st 8]→Option Bool))(t:List Nt×Int×Int):Option ((List Nt×Int×Int) ⊕ ((List Nt×Int))):=
 bif decide (t.2.2<(t.1.length:Int))then
 (
  (MZ t.2.2 t.1.length).bind λi1=>
  (t.1[i1]?).bind λx=>
  (del (x,())).bind λr=>
  bif ! r then
  (MZ t.2.1 t.1.length).bind λi2=>
  (t.1[i2]?).bind λx1=>
  some (List.set t.1 i2 x,LC (t.2.1+1))
  else
  some (t.1,t.2.1)).bind λq=>
 some (.inl (q.1,q.2,LC (t.2.2+1)))
 else
 some (.inr (t.1,t.2.1))
def nP(s:List Nt)(del:(M7 fam [.st 8]→Option Bool)):Option (List Nt):=
 (mg s del).bind λi=>
 bif i == (-1)then
 some s
 else
 (loop (lP del) (s,i,LC (i+1))).bind λq1=>
 (OV q1.2 (q1.1.length:Int) q1.1.length).bind λp=>
 (OV 0 q1.2 (Rm q1.1 p.1 p.2 (List.replicate p.2 (⟨0,0,0⟩:Nt))).length).bind λp1=>
 some (List.take p1.2 (Rm q1.1 p.1 p.2 (List.replicate p.2 (⟨0,0,0⟩:Nt))))
def ahi:Spec fam:=⟨[QE,.fn [.st 8] .bool],[QE],λa=>nP a.1 a.2.1⟩
def tH(x:Nt)(p:Int):Option Bool:=
 some (x.LM == p)
def ahh:Spec fam:=⟨[Qd,.rp (.int .i64)],[gt],λa=>tH a.1 a.2.1⟩
def na(s:List Lx)(p:Int)(t:List Int×Int):Option ((List Int×Int) ⊕ ((List Int×Int) ⊕ List Int)):=
 bif decide (t.2<(s.length:Int))then
 (MZ t.2 s.length).bind λi=>
 (s[i]?).bind λx=>
 (mK x p t.1).bind λx1=>
 bif x1.1 then
  some (.inr (.inl (x1.2,t.2)))
 else
  some (.inl (x1.2,LC (t.2+1)))
 else
 some (.inr (.inr (t.1)))
def rK(s:List Lx)(f:Unit)(p:Int)(p1:List Int):Option (Int×List Lx×List Int):=
 (loop (na s p) (p1,0)).bind λq0=>
 match q0 with
 | .inl q=>
 some (q.2,s,q.1)
 | .inr s1=>
 some ((-1),s,s1)
def G_:Spec fam:=⟨[.row (.st 7) false,.cl 201 2,.rp (.int .i64),.box (.slice (.int .i64)) [0]],[.v (.int .i64) []],λa=>rK a.1 a.2.1 a.2.2.1 a.2.2.2.1⟩
def ku(p:Int)(t:List Lx×List Int×Int×Int):Option ((List Lx×List Int×Int×Int) ⊕ ((List Lx×List Int×Int))):=
 bif decide (t.2.2.2<(t.1.length:Int))then
 (
  (MZ t.2.2.2 t.1.length).bind λi1=>
  (t.1[i1]?).bind λx=>
  (mK x p t.2.1).bind λx1=>
  bif ! x1.1 then
  (MZ t.2.2.1 t.1.length).bind λi2=>
  (t.1[i2]?).bind λx2=>
  some (List.set t.1 i2 x,x1.2,LC (t.2.2.1+1))
  else
  some (t.1,x1.2,t.2.2.1)).bind λq=>
 some (.inl (q.1,q.2.1,q.2.2,LC (t.2.2.2+1)))
 else
 some (.inr (t.1,t.2.1,t.2.2.1))
def mG(s:List Lx)(del:Unit)(p:Int)(p1:List Int):Option (List Lx×List Int):=
 (rK s () p p1).bind λi=>
 bif i.1 == (-1)then
 some (i.2.1,i.2.2)
 else
 (loop (ku p) (i.2.1,i.2.2,i.1,LC (i.1+1))).bind λq1=>
 (OV q1.2.2 (q1.1.length:Int) q1.1.length).bind λp2=>
 (OV 0 q1.2.2 (Rm q1.1 p2.1 p2.2 (List.replicate p2.2 (⟨0,0,0,⟨0,0⟩,0,0,false,0⟩:Lx))).length).bind λp3=>
 some (List.take p3.2 (Rm q1.1 p2.1 p2.2 (List.replicate p2.2 (⟨0,0,0,⟨0,0⟩,0,0,false,0⟩:Lx))),q1.2.1)
def HX:Spec fam:=⟨[.v (.slice (.st 7)) [0],.cl 201 2,.rp (.int .i64),.box (.slice (.int .i64)) [0]],[.v (.slice (.st 7)) [0]],λa=>mG a.1 a.2.1 a.2.2.1 a.2.2.2.1⟩
def oU(s:JG)(N8:Int):Option (JG×List Int):=
 (mG s.Kl () N8 []).bind λx=>
 (nP s.LH (λa'=>tH a'.1 N8)).bind λx1=>
 some ((⟨⟨s.Lg.Lm,s.Lg.Lh⟩,s.Lu,s.Lv,x.1,x1,s.LJ,s.Now,s.L8,s.Seq⟩:JG),x.2)
def ahN:Spec fam:=⟨[QV,ge],[QV,f8],λa=>oU a.1 a.2.1⟩
def rJ(s:JG)(i:Int):Option JG:=
 (MZ i s.Lv.length).bind λi1=>
 (s.Lv[i1]?).bind λx=>
 (qn x).bind λx1=>
 (MZ i s.Lv.length).bind λi2=>
 bif Nat.beq i2 i1 then
 (s.Lv[i2]?).bind λx2=>
 (oU (⟨⟨s.Lg.Lm,s.Lg.Lh⟩,s.Lu,List.set s.Lv i2 (⟨x.Id,1,x.Ls,x.User,x.LD,⟨x.Lp.Mem,x.Lp.LA⟩,x1,s.Now,0,[],[],[],[]⟩:LM),s.Kl,s.LH,s.LJ,s.Now,s.L8,s.Seq⟩:JG) x.Id).bind λx3=>
 some x3.1
 else
 none
def amF:Spec fam:=⟨[QV,ge],[QV],λa=>rJ a.1 a.2.1⟩
def o5(s:List Lx)(i:Int)(j:Int):Option (List Lx):=del s i j
def amE:Spec fam:=⟨[QQ,ge,ge],[QQ],λa=>o5 a.1 a.2.1 a.2.2.1⟩
def dK(s:List Int)(v:Int)(t:Int):Option (Int ⊕ (Int ⊕ Unit)):=
 bif decide (t<(s.length:Int))then
 (idx s t).bind λx=>
 bif v == x then
  some (.inr (.inl t))
 else
  some (.inl (LC (t+1)))
 else
 some (.inr (.inr ()))
def bK(s:List Int)(v:Int):Option Int:=
 (loop (dK s v) 0).bind λq0=>
 match q0 with
 | .inl q=>
 some q
 | .inr _=>
 some (-1)
def amD:Spec fam:=⟨[pp,ge],[ge],λa=>bK a.1 a.2.1⟩
def cU(s:List Int)(i:Int)(j:Int):Option (List Int):=del s i j
def amC:Spec fam:=⟨[f8,ge,ge],[f8],λa=>cU a.1 a.2.1 a.2.2.1⟩
def lK(ids:List Int)(t:JG×Int):Option ((JG×Int) ⊕ JG):=
 bif decide (t.2<(ids.length:Int))then
 (
  (idx ids t.2).bind λx1=>
  (ju t.1.Kl (λa'=>rL a'.1 x1)).bind λk=>
  bif decide (k<0)then
  some t.1
  else
  (MZ k t.1.Kl.length).bind λi=>
  (t.1.Kl[i]?).bind λx2=>
  (pj t.1 x2.LM).bind λi1=>
  (
   bif decide (i1≥0)then
   some x2.Lp
   else
   some false).bind λq=>
  bif q then
   (rJ t.1 i1).bind λx3=>
   some x3
  else
   (o5 t.1.Kl k (LC (k+1))).bind λx4=>
   bif decide (i1<0)then
   some (⟨⟨t.1.Lg.Lm,t.1.Lg.Lh⟩,t.1.Lu,t.1.Lv,x4,t.1.LH,t.1.LJ,t.1.Now,t.1.L8,t.1.Seq⟩:JG)
   else
   (MZ i1 t.1.Lv.length).bind λi2=>
   (t.1.Lv[i2]?).bind λx5=>
   (
    (bK x5.MC x1).bind λj=>
    bif decide (j≥0)then
    (cU x5.MC j (LC (j+1))).bind λx6=>
    some (⟨x5.Id,x5.JG,x5.Ls,x5.User,x5.LD,⟨x5.Lp.Mem,x5.Lp.LA⟩,x5.Mq,x5.NV,x5.Nc,x6,x5.Np,x5.Told,x5.NW⟩:LM)
    else
    (app 8 x5.Np [x1]).bind λl=>
    some (⟨x5.Id,x5.JG,x5.Ls,x5.User,x5.LD,⟨x5.Lp.Mem,x5.Lp.LA⟩,x5.Mq,x5.NV,x5.Nc,x5.MC,l,x5.Told,x5.NW⟩:LM)).bind λa=>
   (MZ i1 t.1.Lv.length).bind λi3=>
   bif Nat.beq i3 i2 then
    (t.1.Lv[i3]?).bind λx7=>
    some (⟨⟨t.1.Lg.Lm,t.1.Lg.Lh⟩,t.1.Lu,List.set t.1.Lv i3 a,x4,t.1.LH,t.1.LJ,t.1.Now,t.1.L8,t.1.Seq⟩:JG)
   else
    none).bind λs1=>
 some (.inl (s1,LC (t.2+1)))
 else
 some (.inr t.1)
def m0(s:JG)(ids:List Int):Option JG:=
 (qO s).bind λx=>
 (loop (lK ids) (x,0)).bind λs2=>
 (qO s2).bind λx8=>
 some x8
def h36:Hint:=(Qe (.s .z (.s (Qe ((Qf [(2,QG),(16,ge)] [2,6,7,8,9,10,11,13,16,40] [(2,[(2,QG)])] (Qe (.s .z (.s (.j [2,6,7,8,9,10,11,40] [(0,[(2,QG)])] (.b (Qe (.s .z (Qe (.s .z (Qe (.s Qq (Qe (.s .z (Qe (.s (.j [10,11] [(0,[(10,QP)])] .z) .z)))))))))))) .z)))))) .z)))
def anD:Spec fam:=⟨[f0,pp],[QV],λa=>m0 a.1 a.2.1⟩
def pF(x:Lx)(p:Lx):Option Bool:=
 some (x.Id == p.Id)
def amA:Spec fam:=⟨[QK,.rp (.st 7)],[gt],λa=>pF a.1 a.2.1⟩
def oF(c:Lx)(label:Int)(now:Int):Option Bool:=
 bif c.Ll == label then
 bif c.Mw != 0 then
  some (decide ((LC (now - c.Mw))≥3))
 else
  some false
 else
 some false
def amy:Spec fam:=⟨[QK,ge,ge],[gt],λa=>oF a.1 a.2.1 a.2.2.1⟩
def mE(s:List Mr)(f:(M7 fam [.st 16]→Option Bool))(t:Int):Option (Int ⊕ (Int ⊕ Unit)):=
 bif decide (t<(s.length:Int))then
 (idx s t).bind λx=>
 (f (x,())).bind λr=>
 bif r then
  some (.inr (.inl t))
 else
  some (.inl (LC (t+1)))
 else
 some (.inr (.inr ()))
def mP(s:List Mr)(f:(M7 fam [.st 16]→Option Bool)):Option Int:=
 (loop (mE s f) 0).bind λq0=>
 match q0 with
 | .inl q=>
 some q
 | .inr _=>
 some (-1)
def ahM:Spec fam:=⟨[.v (.slice (.st 16)) [],.fn [.st 16] .bool],[ge],λa=>mP a.1 a.2.1⟩
def oD(x:Mr)(p:LM):Option Bool:=
 some (x.LB == p.Ls)
def ahL:Spec fam:=⟨[.v (.st 16) [],.rp (.st 6)],[gt],λa=>oD a.1 a.2.1⟩
def lQ(s:JG)(c:Lx)(t:Int×Int):Option ((Int×Int) ⊕ Int):=
 bif decide (t.2<(s.Kl.length:Int))then
 (
  (idx s.Kl t.2).bind λx2=>
  (
  bif c.Lp then
   bif x2.LM == c.LM then
   bif x2.Id != c.Id then
    some (x2.Ll == c.Ll)
   else
    some false
   else
   some false
  else
   some false).bind λq=>
  bif q then
  let used:=LC (t.1 - x2.LY.Mem)
  some used
  else
  some t.1).bind λaf6=>
 some (.inl (af6,LC (t.2+1)))
 else
 some (.inr t.1)
def ml(s:JG)(c:Lx):Option Bool:=
 (nZ s c.LM).bind λx=>
 (ke s x.1.Ls c.Ll).bind λx1=>
 (loop (lQ s c) (x1.Mem,0)).bind λaf5=>
 (lH s c.Ll).bind λl=>
 (mP l (λa'=>oD a'.1 x.1)).bind λi=>
 bif decide (i≥0)then
 (MZ i l.length).bind λi1=>
 (l[i1]?).bind λx3=>
 some (decide (af5>x3.Mem))
 else
 some false
def aiL:Spec fam:=⟨[f0,QK],[gt],λa=>ml a.1 a.2.1⟩
def kA(label:Int)(x1:Lx)(s1:JG):Option JG:=
 (ju s1.Kl (λa'=>pF a'.1 x1)).bind λi=>
 (
 bif decide (i<0)then
  some true
 else
  (MZ i s1.Kl.length).bind λi1=>
  (s1.Kl[i1]?).bind λx2=>
  (oF x2 label s1.Now).bind λx3=>
  some (! x3)).bind λq=>
 bif q then
 some s1
 else
 (ml s1 x1).bind λx4=>
 bif x4 then
  (m0 s1 [x1.Id]).bind λx5=>
  some x5
 else
  (MZ i s1.Kl.length).bind λi2=>
  (s1.Kl[i2]?).bind λx6=>
  some (⟨⟨s1.Lg.Lm,s1.Lg.Lh⟩,s1.Lu,s1.Lv,List.set s1.Kl i2 (⟨x6.Id,x6.LM,x6.LG,⟨x6.LY.Mem,x6.LY.LA⟩,x6.LD,x6.Ll,x6.Lp,0⟩:Lx),s1.LH,s1.LJ,s1.Now,s1.L8,s1.Seq⟩:JG)
def m6(s:JG)(label:Int):Option JG:=
 (mV s.Kl).bind λx=>
 (Z6 (kA label) x s).bind λs2=>
 some s2
def k37:Ks:=[(2,QG)]
def apR:List Nat:=[2,6,7,13,14,15,16,17,18,19,20,21,22,23,24,25,26,27,28,29,30,31,32,33,34,35,36,37,38,39,40,41,42,43,44,45,46]
def h37:Hint:=(.b (Qe (.b (.s (.j [23,24,25,26,27,28,29,30,31,32,33,34,35,36,37] [(0,[(23,gt)])] .z) .z))))
def anC:Spec fam:=⟨[QV,ge],[QV],λa=>m6 a.1 a.2.1⟩
def oY(x:Lx)(p:Int):Option Bool:=
 some (x.Id == p)
def anA:Spec fam:=⟨[QK,.rp (.int .i64)],[gt],λa=>oY a.1 a.2.1⟩
def ra(s:List Lx)(f:(M7 fam [.st 7]→Option Bool)):Option Bool:=
 (ju s f).bind λx=>
 some (decide (x≥0))
def anz:Spec fam:=⟨[Q8,.fn [.st 7] .bool],[gt],λa=>ra a.1 a.2.1⟩
def oV(x:Lx)(p:Lx):Option Bool:=
 some (x.Id == p.Id)
def anx:Spec fam:=⟨[QK,.rp (.st 7)],[gt],λa=>oV a.1 a.2.1⟩
def cu(s:List Int):Option (List Int):=VO s
def anw:Spec fam:=⟨[QN],[],λa=>cu a.1⟩
def jF(s:JG)(t3:JG)(t4:List Int×Int):Option ((List Int×Int) ⊕ List Int):=
 bif decide (t4.2<(s.Kl.length:Int))then
 (
  (idx s.Kl t4.2).bind λx5=>
  (ra t3.Kl (λa'=>oV a'.1 x5)).bind λx6=>
  bif ! x6 then
  (app 8 t4.1 [x5.Id]).bind λl=>
  some l
  else
  some t4.1).bind λgone=>
 some (.inl (gone,LC (t4.2+1)))
 else
 some (.inr t4.1)
def fK(x2:List Int)(t1:JG×Int):Option ((JG×Int) ⊕ JG):=
 bif decide (t1.2<(x2.length:Int))then
 (MZ t1.2 x2.length).bind λi=>
 (x2[i]?).bind λx3=>
 (ju t1.1.Kl (λa'=>oY a'.1 x3)).bind λi1=>
 (MZ i1 t1.1.Kl.length).bind λi2=>
 (t1.1.Kl[i2]?).bind λx4=>
 some (.inl ((⟨⟨t1.1.Lg.Lm,t1.1.Lg.Lh⟩,t1.1.Lu,t1.1.Lv,List.set t1.1.Kl i2 (⟨x4.Id,x4.LM,x4.LG,⟨x4.LY.Mem,x4.LY.LA⟩,x4.LD,x4.Ll,x4.Lp,imax t1.1.Now 1⟩:Lx),t1.1.LH,t1.1.LJ,t1.1.Now,t1.1.L8,t1.1.Seq⟩:JG),LC (t1.2+1)))
 else
 some (.inr t1.1)
def jO(s:JG)(t:JG×Int):Option ((JG×Int) ⊕ JG):=
 bif decide (t.2<(s.Lg.Lm.length:Int))then
 (m6 t.1 t.2).bind λx1=>
 (jC x1 t.2).bind λx2=>
 (loop (fK x2) (x1,0)).bind λt2=>
 some (.inl (t2,LC (t.2+1)))
 else
 some (.inr t.1)
def md(s:JG):Option (JG×List Int):=
 (m0 s []).bind λx=>
 (loop (jO s) (x,0)).bind λt3=>
 (loop (jF s t3) ([],0)).bind λak3=>
 (cu ak3).bind λx7=>
 some (t3,x7)
def an0:Spec fam:=⟨[f0],[QV,f8],λa=>md a.1⟩
def jm(x2:Ls)(x3:Ls)(k:Int):Option (Int ⊕ (Bool ⊕ Unit)):=
 bif decide (k<(x2.MS.length:Int))then
 (idx x2.MS k).bind λx4=>
 (idx x3.MS k).bind λx5=>
 bif ! ((x4.Oe == x5.Oe)&&(x4.Most == x5.Most))then
  some (.inr (.inl false))
 else
  some (.inl (LC (k+1)))
 else
 some (.inr (.inr ()))
def iO(a:Lg)(b:Lg)(i1:Int):Option (Int ⊕ (Bool ⊕ Unit)):=
 bif decide (i1<(a.Lh.length:Int))then
 (idx a.Lh i1).bind λx2=>
 (idx b.Lh i1).bind λx3=>
 (
  bif ! (x2.LB == x3.LB)then
  some true
  else
  bif x2.User != x3.User then
   some true
  else
   some ((x2.MS.length:Int) != (x3.MS.length:Int))).bind λq2=>
 bif q2 then
  some (.inr (.inl false))
 else
  (loop (jm x2 x3) 0).bind λq0=>
  match q0 with
  | .inl q3=>
  some (.inr (.inl q3))
  | .inr _=>
  some (.inl (LC (i1+1)))
 else
 some (.inr (.inr ()))
def jf(a:Lg)(b:Lg)(i:Int):Option (Int ⊕ (Bool ⊕ Unit)):=
 bif decide (i<(a.Lm.length:Int))then
 (idx a.Lm i).bind λx=>
 (idx b.Lm i).bind λx1=>
 bif ! (x == x1)then
  some (.inr (.inl false))
 else
  some (.inl (LC (i+1)))
 else
 some (.inr (.inr ()))
def lj(a:Lg)(b:Lg):Option Bool:=
 (
 bif(a.Lm.length:Int) != (b.Lm.length:Int)then
  some true
 else
  some ((a.Lh.length:Int) != (b.Lh.length:Int))).bind λq=>
 bif q then
 some false
 else
 (loop (jf a b) 0).bind λq0=>
 match q0 with
 | .inl q1=>
  some q1
 | .inr _=>
  (loop (iO a b) 0).bind λq0=>
  match q0 with
  | .inl q4=>
  some q4
  | .inr _=>
  some true
def h46:Hint:=(Qe (.s Qw (.s Qi (.s (Qe ((Qf [(6,ge)] [4,6,7,8,9,81] [(1,[(4,gt)]),(4,[])] (Qe (.s (.b (Qe (.s (.s (.j [] [(0,[(81,gt)])] .z) .z) (Qe ((Qf [(9,ge)] [4,9] [(1,[(4,gt)]),(6,[])] .z)))))) .z))))) .z))))
def anr:Spec fam:=⟨[QI,QI],[gt],λa=>lj a.1 a.2.1⟩
def gK(a:List Int)(b:List Int)(i:Int):Option (Int ⊕ (Bool ⊕ Unit)):=
 bif decide (i<(a.length:Int))then
 (idx a i).bind λx=>
 (idx b i).bind λx1=>
 bif x != x1 then
  some (.inr (.inl false))
 else
  some (.inl (LC (i+1)))
 else
 some (.inr (.inr ()))
def cT(a:List Int)(b:List Int):Option Bool:=
 bif(a.length:Int) != (b.length:Int)then
 some false
 else
 (loop (gK a b) 0).bind λq0=>
 match q0 with
 | .inl q=>
  some q
 | .inr _=>
  some true
def aiI:Spec fam:=⟨[pp,pp],[gt],λa=>cT a.1 a.2.1⟩
def iL(a:LM)(b:LM)(i:Int):Option (Int ⊕ (Bool ⊕ Unit)):=
 bif decide (i<(a.Mq.length:Int))then
 (idx a.Mq i).bind λx=>
 (idx b.Mq i).bind λx1=>
 bif ! ((x.LD == x1.LD)&&((x.Ll == x1.Ll)&&(((x.LY.Mem == x1.LY.Mem)&&(x.LY.LA == x1.LY.LA))&&((x.ME == x1.ME)&&((x.LG == x1.LG)&&((x.Om == x1.Om)&&(x.RY == x1.RY)))))))then
  some (.inr (.inl false))
 else
  some (.inl (LC (i+1)))
 else
 some (.inr (.inr ()))
def lh(a:LM)(b:LM):Option Bool:=
 (
 bif a.Id != b.Id then
  some true
 else
  bif a.JG != b.JG then
  some true
  else
  bif ! (a.Ls == b.Ls)then
   some true
  else
   bif a.User != b.User then
   some true
   else
   bif a.LD != b.LD then
    some true
   else
    bif ! ((a.Lp.Mem == b.Lp.Mem)&&(a.Lp.LA == b.Lp.LA))then
    some true
    else
    bif a.NV != b.NV then
     some true
    else
     bif a.Nc != b.Nc then
     some true
     else
     some ((a.Mq.length:Int) != (b.Mq.length:Int))).bind λq=>
 bif q then
 some false
 else
 (loop (iL a b) 0).bind λq0=>
 match q0 with
 | .inl q1=>
  some q1
 | .inr _=>
  (cT a.MC b.MC).bind λx2=>
  bif x2 then
  (cT a.Np b.Np).bind λx3=>
  bif x3 then
   (cT a.Told b.Told).bind λx4=>
   bif x4 then
   (cT a.NW b.NW).bind λx5=>
   some x5
   else
   some false
  else
   some false
  else
  some false
def anq:Spec fam:=⟨[QF,QF],[gt],λa=>lh a.1 a.2.1⟩
def gU(a:JG)(b:JG)(t4:Bool×Int):Option ((Bool×Int) ⊕ Bool):=
 bif decide (t4.2<(a.LJ.length:Int))then
 (
  bif t4.1 then
  (idx a.LJ t4.2).bind λx10=>
  (idx b.LJ t4.2).bind λPE=>
  let Yl:=(x10.Id == PE.Id)&&((x10.Ll == PE.Ll)&&((x10.From == PE.From)&&((x10.Until == PE.Until)&&((x10.Need.Mem == PE.Need.Mem)&&(x10.Need.LA == PE.Need.LA)))))
  some Yl
  else
  some false).bind λYk=>
 some (.inl (Yk,LC (t4.2+1)))
 else
 some (.inr t4.1)
def gF(a:JG)(b:JG)(t3:Bool×Int):Option ((Bool×Int) ⊕ Bool):=
 bif decide (t3.2<(a.LH.length:Int))then
 (
  bif t3.1 then
  (idx a.LH t3.2).bind λx8=>
  (idx b.LH t3.2).bind λx9=>
  let ok8:=(x8.LG == x9.LG)&&((x8.LM == x9.LM)&&(x8.LD == x9.LD))
  some ok8
  else
  some false).bind λok9=>
 some (.inl (ok9,LC (t3.2+1)))
 else
 some (.inr t3.1)
def gY(a:JG)(b:JG)(t2:Bool×Int):Option ((Bool×Int) ⊕ Bool):=
 bif decide (t2.2<(a.Kl.length:Int))then
 (
  bif t2.1 then
  (idx a.Kl t2.2).bind λx6=>
  (idx b.Kl t2.2).bind λx7=>
  let ok5:=(x6.Id == x7.Id)&&((x6.LM == x7.LM)&&((x6.LG == x7.LG)&&(((x6.LY.Mem == x7.LY.Mem)&&(x6.LY.LA == x7.LY.LA))&&((x6.LD == x7.LD)&&((x6.Ll == x7.Ll)&&((x6.Lp == x7.Lp)&&(x6.Mw == x7.Mw)))))))
  some ok5
  else
  some false).bind λok6=>
 some (.inl (ok6,LC (t2.2+1)))
 else
 some (.inr t2.1)
def ii(a:JG)(b:JG)(t1:Bool×Int):Option ((Bool×Int) ⊕ Bool):=
 bif decide (t1.2<(a.Lv.length:Int))then
 (
  bif t1.1 then
  (idx a.Lv t1.2).bind λx3=>
  (idx b.Lv t1.2).bind λx4=>
  (lh x3 x4).bind λx5=>
  some x5
  else
  some false).bind λok3=>
 some (.inl (ok3,LC (t1.2+1)))
 else
 some (.inr t1.1)
def gE(a:JG)(b:JG)(t:Bool×Int):Option ((Bool×Int) ⊕ Bool):=
 bif decide (t.2<(a.Lu.length:Int))then
 (
  bif t.1 then
  (idx a.Lu t.2).bind λx1=>
  (idx b.Lu t.2).bind λx2=>
  let ok:=(x1.Id == x2.Id)&&((x1.Ll == x2.Ll)&&((x1.Om == x2.Om)&&(((x1.Cap.Mem == x2.Cap.Mem)&&(x1.Cap.LA == x2.Cap.LA))&&((x1.NV == x2.NV)&&((x1.Nc == x2.Nc)&&(x1.Up == x2.Up))))))
  some ok
  else
  some false).bind λok1=>
 some (.inl (ok1,LC (t.2+1)))
 else
 some (.inr t.1)
def f_(a:JG)(b:JG):Option Bool:=
 (
 (lj a.Lg b.Lg).bind λx=>
 bif ! x then
  some true
 else
  bif a.Now != b.Now then
  some true
  else
  bif a.L8 != b.L8 then
   some true
  else
   bif a.Seq != b.Seq then
   some true
   else
   bif(a.Lu.length:Int) != (b.Lu.length:Int)then
    some true
   else
    bif(a.Lv.length:Int) != (b.Lv.length:Int)then
    some true
    else
    bif(a.Kl.length:Int) != (b.Kl.length:Int)then
     some true
    else
     bif(a.LH.length:Int) != (b.LH.length:Int)then
     some true
     else
     some ((a.LJ.length:Int) != (b.LJ.length:Int))).bind λq=>
 bif q then
 some false
 else
 (loop (gE a b) (true,0)).bind λok2=>
 (loop (ii a b) (ok2,0)).bind λok4=>
 (loop (gY a b) (ok4,0)).bind λok7=>
 (loop (gF a b) (ok7,0)).bind λWL=>
 (loop (gU a b) (WL,0)).bind λYj=>
 some Yj
def anY:Spec fam:=⟨[f0,f0],[gt],λa=>f_ a.1 a.2.1⟩
def lA:Option JG:=
 some (⟨⟨[([]:List UInt8)],[(⟨([114,111,111,116]:List UInt8),[(⟨10000,10000⟩:Cap)],10000⟩:Ls)]⟩,[],[],[],[],[],0,0,0⟩:JG)
noncomputable def anS:Spec fam:=⟨[],[.v (.st 10) [0,1,2,3,4,5,6]],λ_=>lA⟩
def jU:Option Bool:=
 (lA).bind λx=>
 (md x).bind λx1=>
 (f_ x x1.1).bind λx2=>
 bif x2 then
 bif(x1.2.length:Int) == 0 then
  (jC x 0).bind λx3=>
  bif(x3.length:Int) == 0 then
  some ((x1.1.Lg.Lh.length:Int) == 1)
  else
  some false
 else
  some false
 else
 some false
def h5:Hint:=.z
noncomputable def sp5:Spec fam:=⟨[],[gt],λ_=>jU⟩
def de(x:Script):Option Bool:=
 bif decide ((x.Ns.length:Int)≤30)then
 some (decide ((x.UC.length:Int)≤80))
 else
 some false
def h6:Hint:=.z
def sp6:Spec fam:=⟨[.v (.st 12) []],[gt],λa=>de a.1⟩
def c_(at_:Int)(n:Int):Option Int:=
 (nz n).bind λ_=>
 (
 bif decide ((Int.tmod at_ n)<0)then
  let k:=LC ((Int.tmod at_ n)+n)
  some k
 else
  some (Int.tmod at_ n)).bind λk1=>
 some k1
def anR:Spec fam:=⟨[ge,ge],[ge],λa=>c_ a.1 a.2.1⟩
def nE(s:JG)(marks:List Int)(t:List Lx×Int):Option ((List Lx×Int) ⊕ List Lx):=
 (
 bif decide (t.2<(marks.length:Int))then
  bif decide (t.2<10)then
  some (decide ((t.1.length:Int)>0))
  else
  some false
 else
  some false).bind λq=>
 bif q then
 (idx marks t.2).bind λx=>
 (c_ x (t.1.length:Int)).bind λx1=>
 (idx marks t.2).bind λx2=>
 (c_ (LC (Int.tdiv x2 7)) (LC (s.Now+1))).bind λx3=>
 (MZ x1 t.1.length).bind λi=>
 (t.1[i]?).bind λx4=>
 some (.inl (List.set t.1 i (⟨x4.Id,x4.LM,x4.LG,⟨x4.LY.Mem,x4.LY.LA⟩,x4.LD,x4.Ll,x4.Lp,LC (1+x3)⟩:Lx),LC (t.2+1)))
 else
 some (.inr t.1)
def kb(s:JG)(marks:List Int)(more:Int):Option JG:=
 (app 72 [] s.Kl).bind λl=>
 (loop (nE s marks) (l,0)).bind λl1=>
 (c_ more 6).bind λx5=>
 some (⟨⟨s.Lg.Lm,s.Lg.Lh⟩,s.Lu,s.Lv,l1,s.LH,s.LJ,LC ((LC (s.Now+1))+x5),s.L8,s.Seq⟩:JG)
def h7:Hint:=(Qe (.s .z (.s (Qe ((Qf [(7,Q3),(8,ge)] [7,8,25] [(2,[(7,Q3)])] (.s Qw .z)))) .z)))
def sp7:Spec fam:=⟨[f0,pp,ge],[.v (.st 10) [4]],λa=>kb a.1 a.2.1 a.2.2.1⟩
def iX(s:List UInt8)(i:Int):Option (Int ⊕ (Bool ⊕ Unit)):=
 bif decide (i<(s.length:Int))then
 (idx s i).bind λch=>
 (
  bif decide ((ch.toNat:Int)<97)then
  bif decide ((ch.toNat:Int)<48)then
   some ((ch.toNat:Int) != 45)
  else
   bif decide ((ch.toNat:Int)>57)then
   some ((ch.toNat:Int) != 45)
   else
   some false
  else
  bif decide ((ch.toNat:Int)>122)then
   bif decide ((ch.toNat:Int)<48)then
   some ((ch.toNat:Int) != 45)
   else
   bif decide ((ch.toNat:Int)>57)then
    some ((ch.toNat:Int) != 45)
   else
    some false
  else
   some false).bind λq1=>
 bif q1 then
  some (.inr (.inl false))
 else
  some (.inl (LC (i+1)))
 else
 some (.inr (.inr ()))
def dg(s:List UInt8):Option Bool:=
 (
 bif decide ((s.length:Int)<1)then
  some true
 else
  some (decide ((s.length:Int)>12))).bind λq=>
 bif q then
 some false
 else
 (loop (iX s) 0).bind λq0=>
 match q0 with
 | .inl q2=>
  some q2
 | .inr _=>
  some true
def ahI:Spec fam:=⟨[ne],[gt],λa=>dg a.1⟩
def nB(c:Lg)(i1:Int)(k:Int):Option (Int ⊕ (Int ⊕ Unit)):=
 bif decide (k<i1)then
 (idx c.Lm i1).bind λx3=>
 (idx c.Lm k).bind λx4=>
 bif x3 == x4 then
  some (.inr (.inl 7))
 else
  some (.inl (LC (k+1)))
 else
 some (.inr (.inr ()))
def kT(c:Lg)(i1:Int):Option (Int ⊕ (Int ⊕ Unit)):=
 bif decide (i1<(c.Lm.length:Int))then
 (loop (nB c i1) 1).bind λq0=>
 match q0 with
 | .inl q2=>
  some (.inr (.inl q2))
 | .inr _=>
  some (.inl (LC (i1+1)))
 else
 some (.inr (.inr ()))
def kW(c:Lg)(i:Int):Option (Int ⊕ (Int ⊕ Unit)):=
 bif decide (i<(c.Lm.length:Int))then
 (idx c.Lm i).bind λx1=>
 (dg x1).bind λx2=>
 bif ! x2 then
  some (.inr (.inl 12))
 else
  some (.inl (LC (i+1)))
 else
 some (.inr (.inr ()))
def cB(c:Lg):Option Int:=
 (
 bif decide ((c.Lm.length:Int)<1)then
  some true
 else
  bif decide ((c.Lm.length:Int)>3)then
  some true
  else
  some (decide ((c.Lh.length:Int)>16))).bind λq=>
 bif q then
 some 4
 else
 (idx c.Lm 0).bind λx=>
 bif ! (x == ([]:List UInt8))then
  some 12
 else
  (loop (kW c) 1).bind λq0=>
  match q0 with
  | .inl q1=>
  some q1
  | .inr _=>
  (loop (kT c) 1).bind λq0=>
  match q0 with
  | .inl q3=>
   some q3
  | .inr _=>
   some 0
def aiH:Spec fam:=⟨[QI],[ge],λa=>cB a.1⟩
def eN(c:Lg)(Lf:List UInt8)(t:Ls×Int):Option ((Ls×Int) ⊕ ((Ls×Bool) ⊕ Ls)):=
 bif decide (t.2<(c.Lh.length:Int))then
 (idx c.Lh t.2).bind λx=>
 bif x.LB == Lf then
  (idx c.Lh t.2).bind λx1=>
  (app 16 [] x1.MS).bind λl=>
  some (.inr (.inl ((⟨x1.LB,l,x1.User⟩:Ls),true)))
 else
  some (.inl (t.1,LC (t.2+1)))
 else
 some (.inr (.inr (t.1)))
def bZ(c:Lg)(Lf:List UInt8):Option (Ls×Bool):=
 (loop (eN c Lf) ((⟨[],[],0⟩:Ls),0)).bind λq0=>
 match q0 with
 | .inl q=>
 some (q.1,q.2)
 | .inr q1=>
 some ((⟨[],[],0⟩:Ls),false)
def aiC:Spec fam:=⟨[QI,ne],[.v (.st 2) [1],gt],λa=>bZ a.1 a.2.1⟩
def lI(Lf:List UInt8)(k1:Int):Option (Int ⊕ Int):=
 (
 bif decide (k1≥0)then
  (idx Lf k1).bind λch=>
  some ((ch.toNat:Int) != 46)
 else
  some false).bind λq=>
 bif q then
 some (.inl (LC (k1 - 1)))
 else
 some (.inr k1)
def dU(Lf:List UInt8):Option (List UInt8):=
 let k:=LC ((Lf.length:Int) - 1)
 (loop (lI Lf) k).bind λk2=>
 bif decide (k2<0)then
 some ([]:List UInt8)
 else
 (slc Lf 0 k2).bind λs=>
 some s
def aia:Spec fam:=⟨[ne],[ne],λa=>dU a.1⟩
def cp(s:List UInt8)(t:Int×Int×Int):Option ((Int×Int×Int) ⊕ (Bool ⊕ Int)):=
 bif decide (t.2.2≤(s.length:Int))then
 (
  (
  bif decide (t.2.2<(s.length:Int))then
   (idx s t.2.2).bind λch=>
   some ((ch.toNat:Int) != 46)
  else
   some false).bind λq=>
  bif q then
  some (.inl (t.1,t.2.1))
  else
  (
   (slc s t.1 t.2.2).bind λs1=>
   (dg s1).bind λx=>
   bif ! x then
   some true
   else
   bif t.2.1 == 0 then
    (slc s t.1 t.2.2).bind λs2=>
    some (! (s2 == ([114,111,111,116]:List UInt8)))
   else
    some false).bind λq1=>
  bif q1 then
   some (.inr false)
  else
   some (.inl (LC (t.2.2+1),LC (t.2.1+1))):Option ((Int×Int) ⊕ Bool)).bind λq0=>
 match q0 with
 | .inl q2=>
  some (.inl (q2.1,q2.2,LC (t.2.2+1)))
 | .inr q3=>
  some (.inr (.inl q3))
 else
 some (.inr (.inr (t.2.1)))
def dm(s:List UInt8):Option Bool:=
 (loop (cp s) (0,0,0)).bind λq0=>
 match q0 with
 | .inl q4=>
 some q4
 | .inr n=>
 some (decide (n≤4))
def ahH:Spec fam:=⟨[ne],[gt],λa=>dm a.1⟩
def lB(x:Ls)(k:Int):Option (Int ⊕ (Int ⊕ Unit)):=
 bif decide (k<(x.MS.length:Int))then
 (idx x.MS k).bind λx5=>
 (
  bif decide (x5.Oe<0)then
  some true
  else
  bif decide (x5.Oe>10000)then
   some true
  else
   bif decide (x5.Most<0)then
   some true
   else
   bif decide (x5.Most>10000)then
    some true
   else
    some (decide (x5.Oe>x5.Most))).bind λq3=>
 bif q3 then
  some (.inr (.inl 1))
 else
  some (.inl (LC (k+1)))
 else
 some (.inr (.inr ()))
def cM(c:Lg)(i:Int):Option Int:=
 (idx c.Lh i).bind λx=>
 (dm x.LB).bind λx1=>
 bif ! x1 then
 some 12
 else
 (
  bif decide (i>0)then
  (idx c.Lh (LC (i - 1))).bind λx2=>
  some (SH x.LB x2.LB)
  else
  some false).bind λq=>
 bif q then
  some 7
 else
  (dU x.LB).bind λx3=>
  (bZ c x3).bind λx4=>
  (
  bif decide (i>0)then
   some (! x4.2)
  else
   some false).bind λq1=>
  bif q1 then
  some 12
  else
  (
   bif decide (x.User<1)then
   some true
   else
   bif decide (x.User>1000000)then
    some true
   else
    some ((x.MS.length:Int) != (c.Lm.length:Int))).bind λq2=>
  bif q2 then
   some 1
  else
   (loop (lB x) 0).bind λq0=>
   match q0 with
   | .inl q4=>
   some q4
   | .inr _=>
   some 0
def aiG:Spec fam:=⟨[QI,ge],[ge],λa=>cM a.1 a.2.1⟩
def je(c:Lg)(Lf:List UInt8)(t:List (List UInt8)×Int):Option ((List (List UInt8)×Int) ⊕ List (List UInt8)):=
 bif decide (t.2<(c.Lh.length:Int))then
 (
  (
  bif ! (Lf == ([]:List UInt8))then
   (idx c.Lh t.2).bind λx=>
   (dU x.LB).bind λx1=>
   some (x1 == Lf)
  else
   some false).bind λq=>
  bif q then
  (idx c.Lh t.2).bind λx2=>
  (app 16 t.1 [x2.LB]).bind λl=>
  some l
  else
  some t.1).bind λl1=>
 some (.inl (l1,LC (t.2+1)))
 else
 some (.inr t.1)
def cz(c:Lg)(Lf:List UInt8):Option (List (List UInt8)):=
 (loop (je c Lf) ([],0)).bind λl2=>
 some l2
def am2:Spec fam:=⟨[QI,ne],[f9],λa=>cz a.1 a.2.1⟩
def iW(c:Lg)(kids:List (List UInt8))(k:Int)(t:Int×Int):Option ((Int×Int) ⊕ Int):=
 bif decide (t.2<(kids.length:Int))then
 (MZ t.2 kids.length).bind λi1=>
 (kids[i1]?).bind λx1=>
 (bZ c x1).bind λx2=>
 (MZ k x2.1.MS.length).bind λi2=>
 (x2.1.MS[i2]?).bind λx3=>
 let n:=LC (t.1+x3.Oe)
 some (.inl (n,LC (t.2+1)))
 else
 some (.inr t.1)
def oG(c:Lg)(kids:List (List UInt8))(k:Int):Option (Int ⊕ (Bool ⊕ Unit)):=
 (
 bif decide (k<(c.Lm.length:Int))then
  some (decide ((kids.length:Int)>0))
 else
  some false).bind λq=>
 bif q then
 (loop (iW c kids k) (0,0)).bind λn1=>
 bif n1 != 10000 then
  some (.inr (.inl false))
 else
  some (.inl (LC (k+1)))
 else
 some (.inr (.inr ()))
def eg(c:Lg)(i:Int):Option (Int ⊕ (Bool ⊕ Unit)):=
 bif decide (i<(c.Lh.length:Int))then
 (idx c.Lh i).bind λx=>
 (cz c x.LB).bind λkids=>
 (loop (oG c kids) 0).bind λq0=>
 match q0 with
 | .inl q1=>
  some (.inr (.inl q1))
 | .inr _=>
  some (.inl (LC (i+1)))
 else
 some (.inr (.inr ()))
def eO(c:Lg):Option Bool:=
 (loop (eg c) 0).bind λq0=>
 match q0 with
 | .inl q2=>
 some q2
 | .inr _=>
 some true
def aiF:Spec fam:=⟨[QI],[gt],λa=>eO a.1⟩
def dV(c:Lg)(k:Int):Option (Int ⊕ (Int ⊕ Unit)):=
 bif decide (k<(c.Lm.length:Int))then
 (idx c.Lh 0).bind λx5=>
 (idx x5.MS k).bind λx6=>
 bif ! ((x6.Oe == 10000)&&(x6.Most == 10000))then
  some (.inr (.inl 13))
 else
  some (.inl (LC (k+1)))
 else
 some (.inr (.inr ()))
def dS(c:Lg)(i:Int):Option (Int ⊕ (Int ⊕ Unit)):=
 bif decide (i<(c.Lh.length:Int))then
 (cM c i).bind λx3=>
 bif x3 != 0 then
  (cM c i).bind λx4=>
  some (.inr (.inl x4))
 else
  some (.inl (LC (i+1)))
 else
 some (.inr (.inr ()))
def bw(c:Lg):Option Int:=
 (cB c).bind λx=>
 bif x != 0 then
 (cB c).bind λx1=>
 some x1
 else
 (
  bif(c.Lh.length:Int) == 0 then
  some true
  else
  (idx c.Lh 0).bind λx2=>
  some (! (x2.LB == ([114,111,111,116]:List UInt8)))).bind λq=>
 bif q then
  some 12
 else
  (loop (dS c) 0).bind λq0=>
  match q0 with
  | .inl q1=>
  some q1
  | .inr _=>
  (loop (dV c) 0).bind λq0=>
  match q0 with
  | .inl q2=>
   some q2
  | .inr _=>
   (eO c).bind λx7=>
   bif ! x7 then
   some 13
   else
   some 0
def anp:Spec fam:=⟨[QI],[ge],λa=>bw a.1⟩
def aF(a:LM):Option Bool:=
 bif a.JG == 1 then
 some true
 else
 some (a.JG == 2)
def anj:Spec fam:=⟨[QF],[gt],λa=>aF a.1⟩
def bn(c:Lg)(Lf:List UInt8):Option Bool:=
 (bZ c Lf).bind λx=>
 bif x.2 then
 (cz c Lf).bind λx1=>
 some ((x1.length:Int) == 0)
 else
 some false
def anh:Spec fam:=⟨[QI,ne],[gt],λa=>bn a.1 a.2.1⟩
def aH(s:JG)(e:Int):Option (JG×Output):=
 some (s,(⟨e,[],[],[],0⟩:Output))
def am5:Spec fam:=⟨[f0,ge],[f0,QR],λa=>aH a.1 a.2.1⟩
def my(s:List UInt8)(c:Int)(t:List (List UInt8)×Int×Int):Option ((List (List UInt8)×Int×Int) ⊕ ((List (List UInt8)×Int))):=
 bif decide (t.2.2<(s.length:Int))then
 (
  (idx s t.2.2).bind λch=>
  bif(ch.toNat:Int) == c then
  (slc s t.2.1 t.2.2).bind λs1=>
  (app 16 t.1 [s1]).bind λl=>
  some (l,LC (t.2.2+1))
  else
  some (t.1,t.2.1)).bind λq=>
 some (.inl (q.1,q.2,LC (t.2.2+1)))
 else
 some (.inr (t.1,t.2.1))
def jK(s:List UInt8)(c:Int):Option (List (List UInt8)):=
 (loop (my s c) ([],0,0)).bind λq1=>
 (
 bif decide (q1.2<(s.length:Int))then
  (slc s q1.2 (s.length:Int)).bind λs2=>
  (app 16 q1.1 [s2]).bind λl1=>
  some l1
 else
  some q1.1).bind λl2=>
 some l2
def ahF:Spec fam:=⟨[ne,.v (.int .u8) []],[f9],λa=>jK a.1 a.2.1⟩
def gQ(l:List (List UInt8))(t:List (List UInt8)×Int):Option ((List (List UInt8)×Int) ⊕ List (List UInt8)):=
 bif decide (t.2<(l.length:Int))then
 (
  (MZ t.2 l.length).bind λi=>
  (l[i]?).bind λx=>
  bif ! (x == ([]:List UInt8))then
  (MZ t.2 l.length).bind λi1=>
  (l[i1]?).bind λx1=>
  (app 16 t.1 [x1]).bind λl1=>
  some l1
  else
  some t.1).bind λout=>
 some (.inl (out,LC (t.2+1)))
 else
 some (.inr t.1)
def kJ(s:List UInt8):Option (List (List UInt8)):=
 (jK s 32).bind λl=>
 (loop (gQ l) ([],0)).bind λPO=>
 some PO
def ahE:Spec fam:=⟨[ne],[f9],λa=>kJ a.1⟩
def kV(s:List UInt8)(t:Int×Int):Option ((Int×Int) ⊕ ((Int×Bool) ⊕ Int)):=
 bif decide (t.2<(s.length:Int))then
 (
  (idx s t.2).bind λch1=>
  bif decide ((ch1.toNat:Int)<48)then
  some true
  else
  (idx s t.2).bind λch2=>
  some (decide ((ch2.toNat:Int)>57))).bind λq1=>
 bif q1 then
  some (.inr (.inl (0,false)))
 else
  (idx s t.2).bind λch3=>
  let n:=LC ((LC (t.1*10))+(LC (IntKind.u8.wrap ((ch3.toNat:Int) - 48))))
  some (.inl (n,LC (t.2+1)))
 else
 some (.inr (.inr (t.1)))
def dt(s:List UInt8):Option (Int×Bool):=
 (
 bif decide ((s.length:Int)<1)then
  some true
 else
  bif decide ((s.length:Int)>7)then
  some true
  else
  (idx s 0).bind λch=>
  bif(ch.toNat:Int) == 48 then
   some (decide ((s.length:Int)>1))
  else
   some false).bind λq=>
 bif q then
 some (0,false)
 else
 (loop (kV s) (0,0)).bind λq0=>
 match q0 with
 | .inl q2=>
  some (q2.1,q2.2)
 | .inr n1=>
  some (n1,true)
def ahg:Spec fam:=⟨[ne],[ge,gt],λa=>dt a.1⟩
def oj(s:List UInt8)(k:Int):Option (Int ⊕ Int):=
 (
 bif decide (k<(s.length:Int))then
  (idx s k).bind λch=>
  some ((ch.toNat:Int) != 47)
 else
  some false).bind λq=>
 bif q then
 some (.inl (LC (k+1)))
 else
 some (.inr k)
def kE(s:List UInt8):Option (Cap×Bool):=
 (loop (oj s) 0).bind λk1=>
 bif k1 == (s.length:Int)then
 some ((⟨0,0⟩:Cap),false)
 else
 (slc s 0 k1).bind λs1=>
 (dt s1).bind λx=>
 (slc s (LC (k1+1)) (s.length:Int)).bind λs2=>
 (dt s2).bind λx1=>
 bif x.2 then
  some ((⟨x.1,x1.1⟩:Cap),x1.2)
 else
  some ((⟨x.1,x1.1⟩:Cap),false)
def ahf:Spec fam:=⟨[ne],[.v (.st 1) [],gt],λa=>kE a.1⟩
def oh(w:List (List UInt8))(t:Bool×Ls×Int):Option ((Bool×Ls×Int) ⊕ ((Bool×Ls))):=
 (
 bif decide (t.2.2<(w.length:Int))then
  some t.1
 else
  some false).bind λq1=>
 bif q1 then
 (idx w t.2.2).bind λx4=>
 (kE x4).bind λx5=>
 (app 16 t.2.1.MS [x5.1]).bind λl=>
 some (.inl (x5.2,(⟨t.2.1.LB,l,t.2.1.User⟩:Ls),LC (t.2.2+1)))
 else
 some (.inr (t.1,t.2.1))
def kN(w:List (List UInt8))(labels:Int):Option (Ls×Bool):=
 (
 bif(w.length:Int) != (LC (3+labels))then
  some true
 else
  (idx w 0).bind λx=>
  some (! (x == ([113,117,101,117,101]:List UInt8)))).bind λq=>
 bif q then
 some ((⟨[],[],0⟩:Ls),false)
 else
 (idx w 2).bind λx1=>
 (dt x1).bind λx2=>
 (idx w 1).bind λx3=>
 (loop (oh w) (x2.2,(⟨x3,[],x2.1⟩:Ls),3)).bind λq2=>
 some (q2.2,q2.1)
def ahD:Spec fam:=⟨[.v (.slice (.str)) [],ge],[.v (.st 2) [1],gt],λa=>kN a.1 a.2.1⟩
def nY(t:Lg×Lg×Bool×Int)(x3:Ls×Bool)(k:Int):Option (Int ⊕ Int):=
 (
 bif decide (k<(t.2.1.Lh.length:Int))then
  (MZ k t.2.1.Lh.length).bind λi3=>
  (t.2.1.Lh[i3]?).bind λx4=>
  some (Op.bytesLess x4.LB x3.1.LB)
 else
  some false).bind λq1=>
 bif q1 then
 some (.inl (LC (k+1)))
 else
 some (.inr k)
def gV(l:List (List UInt8))(t:Lg×Lg×Bool×Int):Option ((Lg×Lg×Bool×Int) ⊕ ((Lg×Int) ⊕ (Lg×Lg×Bool))):=
 bif decide (t.2.2.2<(l.length:Int))then
 (
  (MZ t.2.2.2 l.length).bind λi=>
  (l[i]?).bind λx=>
  (kJ x).bind λw=>
  bif(w.length:Int) == 0 then
  some (.inl (t.1,t.2.1,t.2.2.1))
  else
  bif(t.2.1.Lm.length:Int) == 0 then
   (MZ 0 w.length).bind λi1=>
   (w[i1]?).bind λx1=>
   bif ! (x1 == ([108,97,98,101,108,115]:List UInt8))then
   some (.inr ((⟨[],[]⟩:Lg),6))
   else
   bif decide ((w.length:Int)>3)then
    some (.inr ((⟨[],[]⟩:Lg),4))
   else
    (OV 1 (w.length:Int) w.length).bind λp=>
    (app 16 [([]:List UInt8)] (sub w p.1 p.2)).bind λl1=>
    some (.inl (t.1,(⟨l1,t.2.1.Lh⟩:Lg),t.2.2.1))
  else
   (
   bif(t.2.1.Lh.length:Int) == 16 then
    (MZ 0 w.length).bind λi2=>
    (w[i2]?).bind λx2=>
    some (x2 == ([113,117,101,117,101]:List UInt8))
   else
    some false).bind λq=>
   bif q then
   some (.inr ((⟨[],[]⟩:Lg),4))
   else
   (kN w (t.2.1.Lm.length:Int)).bind λx3=>
   bif ! x3.2 then
    some (.inr ((⟨[],[]⟩:Lg),6))
   else
    (loop (nY t x3) 0).bind λk1=>
    (
    bif t.2.2.1 then
     some true
    else
     bif decide (k1<(t.2.1.Lh.length:Int))then
     (MZ k1 t.2.1.Lh.length).bind λi4=>
     (t.2.1.Lh[i4]?).bind λx5=>
     let twice:=x5.LB == x3.1.LB
     some twice
     else
     some false).bind λadO=>
    (OV 0 k1 t.2.1.Lh.length).bind λp1=>
    (app 48 [] (sub t.2.1.Lh p1.1 p1.2)).bind λl2=>
    (app 48 l2 [x3.1]).bind λl3=>
    (OV k1 (t.2.1.Lh.length:Int) t.2.1.Lh.length).bind λp2=>
    (app 48 l3 (sub t.2.1.Lh p2.1 p2.2)).bind λl4=>
    some (.inl (t.1,(⟨t.2.1.Lm,l4⟩:Lg),adO)):Option ((Lg×Lg×Bool) ⊕ (Lg×Int))).bind λq0=>
 match q0 with
 | .inl q2=>
  some (.inl (q2.1,q2.2.1,q2.2.2,LC (t.2.2.2+1)))
 | .inr q3=>
  some (.inr (.inl (q3.1,q3.2)))
 else
 some (.inr (.inr (t.1,t.2.1,t.2.2.1)))
def ko(s:List UInt8):Option (Lg×Int):=
 bif decide ((s.length:Int)>2000)then
 some ((⟨[],[]⟩:Lg),5)
 else
 (jK s 10).bind λl=>
 (loop (gV l) ((⟨[],[]⟩:Lg),(⟨[],[]⟩:Lg),false,0)).bind λq0=>
 match q0 with
 | .inl q4=>
  some (q4.1,q4.2)
 | .inr q5=>
  bif(q5.2.1.Lm.length:Int) == 0 then
  some ((⟨[],[]⟩:Lg),6)
  else
  bif q5.2.2 then
   some ((⟨[],[]⟩:Lg),7)
  else
   some (q5.2.1,0)
def aiA:Spec fam:=⟨[ne],[.v (.st 3) [0,1],ge],λa=>ko a.1⟩
def eZ(s:JG)(x:Lg×Int)(t1:JG×Output×Int):Option ((JG×Output×Int) ⊕ ((JG×Output) ⊕ (JG×Output))):=
 bif decide (t1.2.2<(s.Lv.length:Int))then
 (
  (idx s.Lv t1.2.2).bind λx6=>
  (aF x6).bind λx7=>
  bif x7 then
  (idx s.Lv t1.2.2).bind λx8=>
  (bn x.1 x8.Ls).bind λx9=>
  some (! x9)
  else
  some false).bind λq2=>
 bif q2 then
  (aH s 14).bind λx10=>
  some (.inr (.inl (x10.1,x10.2)))
 else
  some (.inl (t1.1,t1.2.1,LC (t1.2.2+1)))
 else
 some (.inr (.inr (t1.1,t1.2.1)))
def fj(s:JG)(x:Lg×Int)(t:JG×Output×Int):Option ((JG×Output×Int) ⊕ ((JG×Output) ⊕ (JG×Output))):=
 bif decide (t.2.2<(s.Lg.Lm.length:Int))then
 (MZ t.2.2 x.1.Lm.length).bind λi=>
 (x.1.Lm[i]?).bind λx3=>
 (idx s.Lg.Lm t.2.2).bind λx4=>
 bif ! (x3 == x4)then
  (aH s 14).bind λx5=>
  some (.inr (.inl (x5.1,x5.2)))
 else
  some (.inl (t.1,t.2.1,LC (t.2.2+1)))
 else
 some (.inr (.inr (t.1,t.2.1)))
def iS(s:JG)(text:List UInt8):Option (JG×Output):=
 (ko text).bind λx=>
 (
 bif x.2 == 0 then
  (bw x.1).bind λe=>
  some e
 else
  some x.2).bind λe1=>
 bif e1 != 0 then
 (aH s e1).bind λx1=>
 some (x1.1,x1.2)
 else
 bif decide ((x.1.Lm.length:Int)<(s.Lg.Lm.length:Int))then
  (aH s 14).bind λx2=>
  some (x2.1,x2.2)
 else
  (loop (fj s x) ((⟨⟨[],[]⟩,[],[],[],[],[],0,0,0⟩:JG),(⟨0,[],[],[],0⟩:Output),0)).bind λq0=>
  match q0 with
  | .inl q=>
  some (q.1,q.2)
  | .inr q1=>
  (loop (eZ s x) (q1.1,q1.2,0)).bind λq0=>
  match q0 with
  | .inl q3=>
   some (q3.1,q3.2)
  | .inr q4=>
   some ((⟨⟨x.1.Lm,x.1.Lh⟩,s.Lu,s.Lv,s.Kl,s.LH,s.LJ,s.Now,s.L8,s.Seq⟩:JG),(⟨0,[],[],[],0⟩:Output))
def anf:Spec fam:=⟨[f0,ne],[f0,QR],λa=>iS a.1 a.2.1⟩
def eE(s:JG)(N8:Int)(t:LG×Int):Option ((LG×Int) ⊕ ((LG×Bool) ⊕ LG)):=
 bif decide (t.2<(s.Lu.length:Int))then
 (idx s.Lu t.2).bind λx=>
 bif x.Id == N8 then
  (idx s.Lu t.2).bind λx1=>
  some (.inr (.inl (x1,true)))
 else
  some (.inl (t.1,LC (t.2+1)))
 else
 some (.inr (.inr (t.1)))
def bo(s:JG)(N8:Int):Option (LG×Bool):=
 (loop (eE s N8) ((⟨0,0,0,⟨0,0⟩,0,0,false⟩:LG),0)).bind λq0=>
 match q0 with
 | .inl q=>
 some (q.1,q.2)
 | .inr q1=>
 some ((⟨0,0,0,⟨0,0⟩,0,0,false⟩:LG),false)
def ank:Spec fam:=⟨[f0,ge],[Q0,gt],λa=>bo a.1 a.2.1⟩
def iw(n:Int):Option Bool:=
 bif decide (n≥0)then
 some (decide (n≤1073741824))
 else
 some false
def aiz:Spec fam:=⟨[ge],[gt],λa=>iw a.1⟩
def fu(s:JG)(n:LG)(k:Int):Option (Int ⊕ Int):=
 (
 bif decide (k<(s.Lu.length:Int))then
  (idx s.Lu k).bind λx=>
  some (decide (x.Id<n.Id))
 else
  some false).bind λq=>
 bif q then
 some (.inl (LC (k+1)))
 else
 some (.inr k)
def dL(s:JG)(n:LG):Option JG:=
 (loop (fu s n) 0).bind λk1=>
 (slc s.Lu 0 k1).bind λl=>
 (app 64 [] l).bind λl1=>
 (app 64 l1 [n]).bind λl2=>
 (
 (
  bif decide (k1<(s.Lu.length:Int))then
  (idx s.Lu k1).bind λx1=>
  some (x1.Id == n.Id)
  else
  some false).bind λq1=>
 bif q1 then
  some (LC (k1+1))
 else
  some k1).bind λk2=>
 (slc s.Lu k2 (s.Lu.length:Int)).bind λl3=>
 (app 64 l2 l3).bind λl4=>
 some (⟨⟨s.Lg.Lm,s.Lg.Lh⟩,l4,s.Lv,s.Kl,s.LH,s.LJ,s.Now,s.L8,s.Seq⟩:JG)
def aiy:Spec fam:=⟨[f0,Q0],[.v (.st 10) [2]],λa=>dL a.1 a.2.1⟩
def gH(s:JG)(n:LG):Option (JG×Int):=
 (
 bif decide (n.Id<0)then
  some true
 else
  bif decide (n.Id>999)then
  some true
  else
  bif decide (n.Ll<0)then
   some true
  else
   bif decide (n.Ll≥(s.Lg.Lm.length:Int))then
   some true
   else
   bif decide (n.Om<0)then
    some true
   else
    bif decide (n.Om>99)then
    some true
    else
    (iw n.Cap.Mem).bind λx=>
    bif ! x then
     some true
    else
     (iw n.Cap.LA).bind λx1=>
     some (! x1)).bind λq=>
 bif q then
 some (s,1)
 else
 (bo s n.Id).bind λx2=>
 (
  bif x2.2 then
  some x2.1.Up
  else
  some false).bind λq1=>
 bif q1 then
  some (s,7)
 else
  (
  bif ! x2.2 then
   some (decide ((s.Lu.length:Int)≥12))
  else
   some false).bind λq2=>
  bif q2 then
  some (s,4)
  else
  (dL s (⟨n.Id,n.Ll,n.Om,⟨n.Cap.Mem,n.Cap.LA⟩,s.Now,0,true⟩:LG)).bind λx3=>
  some (x3,0)
def ane:Spec fam:=⟨[f0,Q0],[f0,ge],λa=>gH a.1 a.2.1⟩
def dX(s:JG)(N8:Int)(t:Lx×Int):Option ((Lx×Int) ⊕ ((Lx×Bool) ⊕ Lx)):=
 bif decide (t.2<(s.Kl.length:Int))then
 (idx s.Kl t.2).bind λx=>
 bif x.Id == N8 then
  (idx s.Kl t.2).bind λx1=>
  some (.inr (.inl (x1,true)))
 else
  some (.inl (t.1,LC (t.2+1)))
 else
 some (.inr (.inr (t.1)))
def bv(s:JG)(N8:Int):Option (Lx×Bool):=
 (loop (dX s N8) ((⟨0,0,0,⟨0,0⟩,0,0,false,0⟩:Lx),0)).bind λq0=>
 match q0 with
 | .inl q=>
 some (q.1,q.2)
 | .inr q1=>
 some ((⟨0,0,0,⟨0,0⟩,0,0,false,0⟩:Lx),false)
def anW:Spec fam:=⟨[f0,ge],[QK,gt],λa=>bv a.1 a.2.1⟩
def dY(s:JG)(N8:Int)(t:LM×Int):Option ((LM×Int) ⊕ ((LM×Bool) ⊕ LM)):=
 bif decide (t.2<(s.Lv.length:Int))then
 (idx s.Lv t.2).bind λx=>
 bif x.Id == N8 then
  (idx s.Lv t.2).bind λx1=>
  some (.inr (.inl (x1,true)))
 else
  some (.inl (t.1,LC (t.2+1)))
 else
 some (.inr (.inr (t.1)))
def aK(s:JG)(N8:Int):Option (LM×Bool):=
 (loop (dY s N8) ((⟨0,0,[],0,0,⟨0,0⟩,[],0,0,[],[],[],[]⟩:LM),0)).bind λq0=>
 match q0 with
 | .inl q=>
 some (q.1,q.2)
 | .inr q1=>
 some ((⟨0,0,[],0,0,⟨0,0⟩,[],0,0,[],[],[],[]⟩:LM),false)
def anV:Spec fam:=⟨[f0,ge],[QF,gt],λa=>aK a.1 a.2.1⟩
def i_(s:JG)(a:LM)(k:Int):Option (Int ⊕ Int):=
 (
 bif decide (k<(s.Lv.length:Int))then
  (idx s.Lv k).bind λx=>
  some (decide (x.Id<a.Id))
 else
  some false).bind λq=>
 bif q then
 some (.inl (LC (k+1)))
 else
 some (.inr k)
def aO(s:JG)(a:LM):Option JG:=
 (loop (i_ s a) 0).bind λk1=>
 (slc s.Lv 0 k1).bind λl=>
 (app 200 [] l).bind λl1=>
 (app 200 l1 [a]).bind λl2=>
 (
 (
  bif decide (k1<(s.Lv.length:Int))then
  (idx s.Lv k1).bind λx1=>
  some (x1.Id == a.Id)
  else
  some false).bind λq1=>
 bif q1 then
  some (LC (k1+1))
 else
  some k1).bind λk2=>
 (slc s.Lv k2 (s.Lv.length:Int)).bind λl3=>
 (app 200 l2 l3).bind λl4=>
 some (⟨⟨s.Lg.Lm,s.Lg.Lh⟩,s.Lu,l4,s.Kl,s.LH,s.LJ,s.Now,s.L8,s.Seq⟩:JG)
def ais:Spec fam:=⟨[f0,QF],[.v (.st 10) [3]],λa=>aO a.1 a.2.1⟩
def jT(a:LM):Option (List Ask):=
 some [(⟨0,0,⟨a.Lp.Mem,a.Lp.LA⟩,1,(-1),(-1),0⟩:Ask)]
def air:Spec fam:=⟨[QF],[ac],λa=>jT a.1⟩
def gI(s:JG)(N8:Int)(t:List Lx×Int):Option ((List Lx×Int) ⊕ List Lx):=
 bif decide (t.2<(s.Kl.length:Int))then
 (
  (idx s.Kl t.2).bind λx=>
  bif x.Id != N8 then
  (idx s.Kl t.2).bind λx1=>
  (app 72 t.1 [x1]).bind λl=>
  some l
  else
  some t.1).bind λl1=>
 some (.inl (l1,LC (t.2+1)))
 else
 some (.inr t.1)
def dR(s:JG)(N8:Int):Option JG:=
 (loop (gI s N8) ([],0)).bind λl2=>
 some (⟨⟨s.Lg.Lm,s.Lg.Lh⟩,s.Lu,s.Lv,l2,s.LH,s.LJ,s.Now,s.L8,s.Seq⟩:JG)
def ain:Spec fam:=⟨[f0,ge],[.v (.st 10) [4]],λa=>dR a.1 a.2.1⟩
def eM(l:List Int)(n:Int)(t:List Int×Int):Option ((List Int×Int) ⊕ List Int):=
 bif decide (t.2<(l.length:Int))then
 (
  (idx l t.2).bind λx=>
  bif x != n then
  (idx l t.2).bind λx1=>
  (app 8 t.1 [x1]).bind λl1=>
  some l1
  else
  some t.1).bind λout=>
 some (.inl (out,LC (t.2+1)))
 else
 some (.inr t.1)
def cH(l:List Int)(n:Int):Option (List Int×Bool):=
 (loop (eM l n) ([],0)).bind λPO=>
 some (PO,decide ((PO.length:Int)<(l.length:Int)))
def ail:Spec fam:=⟨[pp,ge],[f8,gt],λa=>cH a.1 a.2.1⟩
def g_(s:JG)(N8:Int)(t1:List Nt×Int):Option ((List Nt×Int) ⊕ List Nt):=
 bif decide (t1.2<(s.LH.length:Int))then
 (
  (idx s.LH t1.2).bind λx3=>
  bif x3.LM != N8 then
  (idx s.LH t1.2).bind λx4=>
  (app 24 t1.1 [x4]).bind λl2=>
  some l2
  else
  some t1.1).bind λslots=>
 some (.inl (slots,LC (t1.2+1)))
 else
 some (.inr t1.1)
def gJ(s:JG)(N8:Int)(t:List Lx×List Int×Int):Option ((List Lx×List Int×Int) ⊕ ((List Lx×List Int))):=
 bif decide (t.2.2<(s.Kl.length:Int))then
 (
  (idx s.Kl t.2.2).bind λx=>
  bif x.LM == N8 then
  (idx s.Kl t.2.2).bind λx1=>
  (app 8 t.2.1 [x1.Id]).bind λl=>
  some (t.1,l)
  else
  (idx s.Kl t.2.2).bind λx2=>
  (app 72 t.1 [x2]).bind λl1=>
  some (l1,t.2.1)).bind λq=>
 some (.inl (q.1,q.2,LC (t.2.2+1)))
 else
 some (.inr (t.1,t.2.1))
def dQ(s:JG)(N8:Int):Option (JG×List Int):=
 (loop (gJ s N8) ([],[],0)).bind λq1=>
 (loop (g_ s N8) ([],0)).bind λadP=>
 some ((⟨⟨s.Lg.Lm,s.Lg.Lh⟩,s.Lu,s.Lv,q1.1,adP,s.LJ,s.Now,s.L8,s.Seq⟩:JG),q1.2)
def ahJ:Spec fam:=⟨[f0,ge],[.v (.st 10) [4,5],f8],λa=>dQ a.1 a.2.1⟩
def b_(ids:List Int)(t:JG×Int):Option ((JG×Int) ⊕ JG):=
 bif decide (t.2<(ids.length:Int))then
 (
  (idx ids t.2).bind λx=>
  (bv t.1 x).bind λx1=>
  bif ! x1.2 then
  some t.1
  else
  (aK t.1 x1.1.LM).bind λx2=>
  bif x1.1.Lp then
   (jT x2.1).bind λx3=>
   (aO t.1 (⟨x2.1.Id,1,x2.1.Ls,x2.1.User,x2.1.LD,⟨x2.1.Lp.Mem,x2.1.Lp.LA⟩,x3,t.1.Now,0,[],[],[],[]⟩:LM)).bind λx4=>
   (dQ x4 x1.1.LM).bind λx5=>
   some x5.1
  else
   (dR t.1 x1.1.Id).bind λx6=>
   (cH x2.1.MC x1.1.Id).bind λx7=>
   (
   bif ! x7.2 then
    (app 8 [] x2.1.Np).bind λl=>
    (app 8 l [x1.1.Id]).bind λl1=>
    some (⟨x2.1.Id,x2.1.JG,x2.1.Ls,x2.1.User,x2.1.LD,⟨x2.1.Lp.Mem,x2.1.Lp.LA⟩,x2.1.Mq,x2.1.NV,x2.1.Nc,x7.1,l1,x2.1.Told,x2.1.NW⟩:LM)
   else
    some (⟨x2.1.Id,x2.1.JG,x2.1.Ls,x2.1.User,x2.1.LD,⟨x2.1.Lp.Mem,x2.1.Lp.LA⟩,x2.1.Mq,x2.1.NV,x2.1.Nc,x7.1,x2.1.Np,x2.1.Told,x2.1.NW⟩:LM)).bind λa=>
   (aO x6 a).bind λx8=>
   some x8).bind λs1=>
 some (.inl (s1,LC (t.2+1)))
 else
 some (.inr t.1)
def bB(s:JG)(ids:List Int):Option JG:=
 (loop (b_ ids) (s,0)).bind λs2=>
 some s2
def aiJ:Spec fam:=⟨[f0,pp],[f0],λa=>bB a.1 a.2.1⟩
def j9(s:JG)(node:Int)(t:List Int×Int):Option ((List Int×Int) ⊕ List Int):=
 bif decide (t.2<(s.Kl.length:Int))then
 (
  (idx s.Kl t.2).bind λx=>
  bif x.LG == node then
  (idx s.Kl t.2).bind λx1=>
  (app 8 t.1 [x1.Id]).bind λl=>
  some l
  else
  some t.1).bind λl1=>
 some (.inl (l1,LC (t.2+1)))
 else
 some (.inr t.1)
def fJ(s:JG)(node:Int):Option (List Int):=
 (loop (j9 s node) ([],0)).bind λl2=>
 some l2
def aix:Spec fam:=⟨[f0,ge],[f8],λa=>fJ a.1 a.2.1⟩
def li(s:JG)(N8:Int)(aaQ:Int):Option (JG×Int):=
 (bo s N8).bind λx=>
 bif ! x.2 then
 some (s,2)
 else
 bif ! x.1.Up then
  some (s,18)
 else
  bif decide (aaQ<0)then
  some (s,15)
  else
  bif decide (aaQ<x.1.Nc)then
   some (s,15)
  else
   bif decide ((LC (aaQ - x.1.Nc))>1)then
   some (s,1)
   else
   (dL s (⟨x.1.Id,x.1.Ll,x.1.Om,⟨x.1.Cap.Mem,x.1.Cap.LA⟩,s.Now,aaQ,x.1.Up⟩:LG)).bind λx1=>
   some (x1,0)
def aiw:Spec fam:=⟨[f0,ge,ge],[f0,ge],λa=>li a.1 a.2.1 a.2.2.1⟩
def dP(s:JG)(node:Int)(t:Nt×Int):Option ((Nt×Int) ⊕ ((Nt×Bool) ⊕ Nt)):=
 bif decide (t.2<(s.LH.length:Int))then
 (idx s.LH t.2).bind λx=>
 bif x.LG == node then
  (idx s.LH t.2).bind λx1=>
  some (.inr (.inl (x1,true)))
 else
  some (.inl (t.1,LC (t.2+1)))
 else
 some (.inr (.inr (t.1)))
def kq(s:JG)(node:Int):Option (Nt×Bool):=
 (loop (dP s node) ((⟨0,0,0⟩:Nt),0)).bind λq0=>
 match q0 with
 | .inl q=>
 some (q.1,q.2)
 | .inr q1=>
 some ((⟨0,0,0⟩:Nt),false)
def ahe:Spec fam:=⟨[f0,ge],[Qd,gt],λa=>kq a.1 a.2.1⟩
def eY(s:JG)(node:Int)(t:List Nt×Int):Option ((List Nt×Int) ⊕ List Nt):=
 bif decide (t.2<(s.LH.length:Int))then
 (
  (idx s.LH t.2).bind λx=>
  bif x.LG != node then
  (idx s.LH t.2).bind λx1=>
  (app 24 t.1 [x1]).bind λl=>
  some l
  else
  some t.1).bind λl1=>
 some (.inl (l1,LC (t.2+1)))
 else
 some (.inr t.1)
def cZ(s:JG)(node:Int):Option JG:=
 (loop (eY s node) ([],0)).bind λl2=>
 some (⟨⟨s.Lg.Lm,s.Lg.Lh⟩,s.Lu,s.Lv,s.Kl,l2,s.LJ,s.Now,s.L8,s.Seq⟩:JG)
def aii:Spec fam:=⟨[f0,ge],[.v (.st 10) [5]],λa=>cZ a.1 a.2.1⟩
def aW(a:Vec)(b:Vec):Option Bool:=
 bif decide (a.Mem≤b.Mem)then
 some (decide (a.LA≤b.LA))
 else
 some false
def aha:Spec fam:=⟨[t6,t6],[gt],λa=>aW a.1 a.2.1⟩
end
end Go.Fx.D
