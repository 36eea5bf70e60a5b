/-
  The functions of the program that this law reaches, as functions over plain data (printed by a program). Conditions: none.
-/
import Derived.Test.YtdickabkndfjhaaGreatFxD
import Derived.Test.YtdickabkndfjhaaGreatA
namespace Go.Fx.D
open Go Go.Fx Go.Proofs
set_option linter.unusedVariables false
noncomputable section
abbrev ge:Kd:=.v (.int .i64) []
abbrev gt:Kd:=.v .bool []
abbrev f0:Kd:=.v (.st 10) []
abbrev f8:Kd:=.v (.slice (.int .i64)) [0]
abbrev f9:Kd:=.v (.slice (.str)) [0]
abbrev ne:Kd:=.v .str []
abbrev pp:Kd:=.v (.st 0) []
abbrev t6:Kd:=.v (.slice (.int .i64)) []
abbrev t7:Kd:=.box (.st 10) []
abbrev t8:Kd:=.box (.st 0) []
abbrev ac:Kd:=.v (.slice (.st 5)) [0]
abbrev QQ:Kd:=.v (.slice (.st 7)) [0]
abbrev QJ:Kd:=.box (.st 10) [0,1,2,3,4,5,6]
abbrev QX:Kd:=.box (.st 15) [20,23,24,25,26,27,28]
abbrev QZ:Kd:=.v (.slice (.st 5)) []
abbrev QW:Kd:=.v (.int .u64) []
abbrev QY:Kd:=.box (.st 7) []
abbrev QV:Kd:=.v (.st 10) [0,1001,2,1003,4,5,6]
abbrev QU:Kd:=.box (.st 18) [11,12,13]
abbrev QG:Kd:=.box (.st 10) [0,1001,2,1003,4,5,6]
abbrev QK:Kd:=.v (.st 7) []
abbrev QC:Kd:=.v (.slice (.st 16)) [0]
abbrev QD:Kd:=.box (.st 3) [1001]
abbrev QE:Kd:=.v (.slice (.st 8)) [0]
abbrev QF:Kd:=.v (.st 6) []
abbrev QH:Kd:=.v (.int .u32) []
abbrev QI:Kd:=.v (.st 3) []
abbrev QL:Kd:=.v (.slice (.st 9)) [0]
abbrev QM:Kd:=.v (.slice (.st 6)) [0]
abbrev QO:Kd:=.row (.int .i64) false
abbrev QP:Kd:=.box (.st 3) [0,1]
abbrev QR:Kd:=.box (.st 6) [7,10,11,12,13]
abbrev QS:Kd:=.v (.st 13) [1,2,3]
abbrev QT:Kd:=.v (.st 5) []
abbrev QA:Kd:=.box (.st 2) [1]
abbrev Q0:Kd:=.box (.st 13) [1,2,3]
abbrev Q1:Kd:=.v (.st 4) []
abbrev Q2:Kd:=.row (.st 5) false
abbrev Q3:Kd:=.box (.st 5) []
abbrev Q4:Kd:=.row (.st 7) false
abbrev Q5:Kd:=.v (.slice (.st 9)) []
abbrev Q6:Kd:=.box (.st 6) []
abbrev Q7:Kd:=.v (.slice (.st 0)) [0]
abbrev Q8:Kd:=.v (.st 15) [20,23,24,25,26,27,28]
abbrev Q9:Kd:=.v (.slice (.st 7)) []
abbrev Qa:Kd:=.v (.st 6) [7,10,11,12,13,9999]
abbrev Qb:Kd:=.row (.st 501) false
abbrev Qc:Kd:=.v (.st 17) []
abbrev Qd:Kd:=.row (.st 8) false
abbrev Qe:Kd:=.v (.st 8) []
def Qg (a:Ks)(b:List Nat)(c:List (Nat×Ks))(d:Hint):Hint:=.b (.l a b c d)
def Qf (x:Hint):Hint:=.s .z x
def Qh:Hint:=(Qf (.s (Qf ((Qg [(8,ge)] [4,5,8] [(1,[(4,ge)]),(2,[])] .z))) .z))
def Qi:Hint:=(Qf (.s .z (.s ((Qg [(5,ge)] [5,22] [(2,[(5,ge)])] (.s (.s (.j [] [(0,[(22,gt)])] .z) .z) .z))) (Qf (.s .z (.s (.j [5,50] [(0,[(5,ge)])] (.s (.j [] [(0,[(50,gt)])] .z) .z)) .z))))))
def Qj:Hint:=(.s (.j [5] [(0,[(5,gt)])] .z) .z)
def Qk:Hint:=(Qf ((Qg [(5,ge)] [4,5] [(1,[(4,gt)]),(2,[])] .z)))
def Ql:Hint:=(.s (.j [] [(0,[(39,gt)])] .z) .z)
def Qm:Hint:=(.s (.j [] [(0,[(32,gt)])] .z) .z)
def Qn:Hint:=(Qf (.s .z (.s (Qf ((Qg [(5,f8),(6,ge)] [5,6] [(2,[(5,f8)])] (Qf (.s (.j [5] [(0,[(5,f8)])] .z) .z))))) .z)))
def Qo:Hint:=(Qf (.s .z (.s (Qf ((Qg [(5,t8),(6,ge)] [5,6] [(2,[(5,t8)])] (Qf (.s (.j [5] [(0,[(5,t8)])] .z) .z))))) .z)))
def Qp:Hint:=(.s (.j [] [(0,[(40,gt)])] .z) .z)
def Qq:Hint:=(.s (.j [] [(0,[(21,gt)])] .z) .z)
def Qr:Hint:=(.s (.j [] [(0,[(30,gt)])] .z) .z)
def Qs:Hint:=(Qf (.s .z (.s (.j [5] [(0,[(5,ge)])] .z) .z)))
def Qt:Hint:=(Qf (.s .z (.s ((Qg [(0,ne),(3,f9)] [0,3] [(2,[(3,f9)])] .z)) .z)))
def Qu:Hint:=(.j [0,2] [(0,[(0,QW),(2,ge)])] .z)
def Qv:Hint:=(.s (.j [] [(0,[(22,gt)])] .z) .z)
def Qw:Hint:=(.s (.j [] [(0,[(25,gt)])] .z) .z)
def Qx:Hint:=(.s (.j [] [(0,[(48,gt)])] .z) .z)
def Qy:Ks:=[(6,t7),(7,ge),(8,QY)]
def Qz:Ks:=[(3,t7),(6,QJ),(8,QY)]
def XQ:Hint:=(Qf ((Qg [(3,ge)] [2,3] [(1,[(2,ge)]),(2,[])] .z)))
def XJ:Ks:=[(6,ac),(7,gt)]
def XX:Hint:=(Qf (.s (.s (.j [] [(0,[(8,gt)])] .z) .z) .z))
def XZ:Hint:=(.s (.s (.j [] [(0,[(78,gt)])] .z) .z) .z)
def XW:Hint:=(.s (.s (.j [] [(0,[(75,gt)])] .z) .z) .z)
def XY:Hint:=(Qf (.s (.j [3] [(0,[(3,f9)])] .z) .z))
def XV:Hint:=(.s (.j [] [(0,[(100,gt)])] .z) .z)
def XU:Hint:=(.s (.j [] [(0,[(37,gt)])] .z) .z)
def XG:Hint:=(.s (.j [] [(0,[(85,gt)])] .z) .z)
def XK:Hint:=(.s (.j [] [(0,[(16,gt)])] .z) .z)
def XB:Hint:=(.s (.j [] [(0,[(33,gt)])] .z) .z)
def XC:Hint:=(.s (.j [] [(0,[(28,gt)])] .z) .z)
def XD:Hint:=(.s (.j [] [(0,[(74,gt)])] .z) .z)
def XE:Hint:=(.s (.j [] [(0,[(55,gt)])] .z) .z)
def XF:Hint:=(.s (.j [] [(0,[(68,gt)])] .z) .z)
def XH:Hint:=(.s (.j [] [(0,[(38,gt)])] .z) .z)
def XI:Hint:=(.s (.j [] [(0,[(46,gt)])] .z) .z)
def XL:Hint:=(.s (.j [] [(0,[(26,gt)])] .z) .z)
def XM:Hint:=(.s (.j [] [(0,[(23,gt)])] .z) .z)
def XN:Hint:=(.s (.j [] [(0,[(41,gt)])] .z) .z)
def XO:Hint:=(.s (.j [] [(0,[(89,gt)])] .z) .z)
def XP:Hint:=(.s (.j [] [(0,[(59,gt)])] .z) .z)
def XR:Hint:=(.s (.j [] [(0,[(17,gt)])] .z) .z)
def XS:Hint:=(.s (.j [] [(0,[(67,gt)])] .z) .z)
def cu(k:L8)(c:Lv):Option L8:=
 let e:=OE (λx=>c.Id == x.k) k.Ng (⟨c.Id,0⟩:Nl)
 let e1:=OE (λx2=>c.Id == x2.k) k.leaf (⟨c.Id,[]⟩:Md)
 let e2:=OE (λx3=>e1.v == x3.k) k.over (⟨e1.v,0⟩:LH)
 some (⟨⟨⟨k.s.Lf.Lp,k.s.Lf.Lg⟩,k.s.Ls,k.s.Lr,k.s.Lc,k.s.LG,k.s.LU,k.s.Now,k.s.L9,k.s.Seq⟩,k.label,NP (λx4=>e1.v == x4.k) k.over (⟨e1.v,Lx (e2.v - c.LV.Mem)⟩:LH),k.leaf,NP (λx1=>c.Id == x1.k) k.Ng (⟨c.Id,Lx (e.v+1)⟩:Nl),Lx (k.gone+c.LV.Mem)⟩:L8)
def anx:Spec fam:=⟨[QU,QK],[],λa=>cu a.1 a.2.1⟩
def gT(v:Vec):Option Bool:=
 bif decide (v.Mem≥0)then
 bif decide (v.Mem≤1125899906842624)then
  bif decide (v.Lu≥0)then
  some (decide (v.Lu≤1125899906842624))
  else
  some false
 else
  some false
 else
 some false
def agN:Spec fam:=⟨[pp],[gt],λa=>gT a.1⟩
def pL(v:Vec):Option (Vec×Int):=
 (gT v).bind λx=>
 bif ! x then
 some ((⟨0,0⟩:Vec),11)
 else
 some (v,0)
def agM:Spec fam:=⟨[pp],[pp,ge],λa=>pL a.1⟩
def oP(a:Vec)(b:Vec):Option (Vec×Int):=
 (
 (gT a).bind λx=>
 bif ! x then
  some true
 else
  (gT b).bind λx1=>
  some (! x1)).bind λq=>
 bif q then
 some ((⟨0,0⟩:Vec),1)
 else
 (pL (⟨Lx (a.Mem+b.Mem),Lx (a.Lu+b.Lu)⟩:Vec)).bind λx2=>
 some (x2.1,x2.2)
def ahb:Spec fam:=⟨[pp,pp],[pp,ge],λa=>oP a.1 a.2.1⟩
def nY(l:List Vec)(t:Vec×Int):Option ((Vec×Int) ⊕ Vec):=
 bif decide (t.2<(l.length:Int))then
 (idx l t.2).bind λx=>
 (oP t.1 x).bind λx1=>
 some (.inl (x1.1,Lx (t.2+1)))
 else
 some (.inr t.1)
def qM(l:List Vec):Option Vec:=
 (loop (nY l) ((⟨0,0⟩:Vec),0)).bind λout=>
 some out
def ahN:Spec fam:=⟨[.v (.slice (.st 0)) []],[pp],λa=>qM a.1⟩
def mE(s:JF)(label:Int)(t:List Vec×Int):Option ((List Vec×Int) ⊕ List Vec):=
 bif decide (t.2<(s.Ls.length:Int))then
 (
  (idx s.Ls t.2).bind λx=>
  (
  bif x.Up then
   some (x.Ll == label)
  else
   some false).bind λq=>
  bif q then
  (app 16 t.1 [x.Cap]).bind λl=>
  some l
  else
  some t.1).bind λl1=>
 some (.inl (l1,Lx (t.2+1)))
 else
 some (.inr t.1)
def lV(s:JF)(label:Int):Option Vec:=
 (loop (mE s label) ([],0)).bind λl2=>
 (qM l2).bind λx1=>
 some x1
def amL:Spec fam:=⟨[f0,ge],[pp],λa=>lV a.1 a.2.1⟩
def fc(v:View)(c:Lv)(t:LD×Int):Option ((LD×Int) ⊕ ((LD×Bool) ⊕ LD)):=
 bif decide (t.2<(v.s.Lr.length:Int))then
 (idx v.s.Lr t.2).bind λx=>
 bif x.Id == c.LD then
  some (.inr (.inl (x,true)))
 else
  some (.inl (t.1,Lx (t.2+1)))
 else
 some (.inr (.inr (t.1)))
def lw(v:View)(c:Lv):Option (LD×Bool):=
 (loop (fc v c) ((⟨0,0,[],0,0,⟨0,0⟩,[],0,0,[],[],[],[]⟩:LD),0)).bind λq0=>
 match q0 with
 | .inl q=>
 some (q.1,q.2)
 | .inr q1=>
 some ((⟨0,0,[],0,0,⟨0,0⟩,[],0,0,[],[],[],[]⟩:LD),false)
def ahd:Spec fam:=⟨[Qc,QK],[QF,gt],λa=>lw a.1 a.2.1⟩
def lg(s:List UInt8)(prefix_:List UInt8):Option Bool:=
 bif decide ((s.length:Int)≥(prefix_.length:Int))then
 (slc s 0 (prefix_.length:Int)).bind λs1=>
 some (s1 == prefix_)
 else
 some false
def agp:Spec fam:=⟨[ne,ne],[gt],λa=>lg a.1 a.2.1⟩
def kN(s:List UInt8)(prefix_:List UInt8):Option Bool:=
 (lg s prefix_).bind λx=>
 some x
def agO:Spec fam:=⟨[ne,ne],[gt],λa=>kN a.1 a.2.1⟩
def kR(v:View)(a:LD):Option Bool:=
 (
 bif a.Lm == v.Ld then
  some true
 else
  (cat v.Ld ([46]:List UInt8)).bind λs=>
  (kN a.Lm s).bind λx=>
  some x).bind λbelow=>
 bif below then
 bif v.user == (-1)then
  some true
 else
  some (a.User == v.user)
 else
 some false
def ahc:Spec fam:=⟨[Qc,QF],[gt],λa=>kR a.1 a.2.1⟩
def j8(v:View)(t:Vec×Int):Option ((Vec×Int) ⊕ Vec):=
 bif decide (t.2<(v.s.Lc.length:Int))then
 (
  (idx v.s.Lc t.2).bind λx=>
  (lw v x).bind λx1=>
  (
  bif x1.2 then
   bif x.Ll == v.label then
   (kR v x1.1).bind λx2=>
   some x2
   else
   some false
  else
   some false).bind λq=>
  bif q then
  (oP t.1 x.LV).bind λx3=>
  some x3.1
  else
  some t.1).bind λout=>
 some (.inl (out,Lx (t.2+1)))
 else
 some (.inr t.1)
def mb(v:View):Option Vec:=
 (loop (j8 v) ((⟨0,0⟩:Vec),0)).bind λPI=>
 some PI
def ahS:Spec fam:=⟨[Qc],[pp],λa=>mb a.1⟩
def jK(s:JF)(Ld:List UInt8)(label:Int):Option Vec:=
 (mb (⟨⟨⟨s.Lf.Lp,s.Lf.Lg⟩,s.Ls,s.Lr,s.Lc,s.LG,s.LU,s.Now,s.L9,s.Seq⟩,Ld,label,(-1)⟩:View)).bind λx=>
 some x
def amO:Spec fam:=⟨[f0,ne,ge],[pp],λa=>jK a.1 a.2.1 a.2.2.1⟩
def d_(s:List UInt8)(c:Int)(i1:Int):Option (Int ⊕ (Int ⊕ Unit)):=
 bif decide (i1≥0)then
 (idx s i1).bind λch=>
 bif(ch.toNat:Int) == c then
  some (.inr (.inl i1))
 else
  some (.inl (Lx (i1 - 1)))
 else
 some (.inr (.inr ()))
def aL(s:List UInt8)(c:Int):Option Int:=
 let i:=Lx ((s.length:Int) - 1)
 (loop (d_ s c) i).bind λq0=>
 match q0 with
 | .inl q=>
 some q
 | .inr _=>
 some (-1)
def af6:Spec fam:=⟨[ne,.v (.int .u8) []],[ge],λa=>aL a.1 a.2.1⟩
def oE(t1:Int×Int×Int):Option ((Int×Int×Int) ⊕ Int):=
 bif decide (t1.2.2>0)then
 (
  bif(RJ .i64 t1.2.2 1) != 0 then
  let pow:=IntKind.u32.wrap (t1.1*t1.2.1)
  some pow
  else
  some t1.1).bind λanU=>
 let sq:=IntKind.u32.wrap (t1.2.1*t1.2.1)
 some (.inl (anU,sq,Pg .i64 t1.2.2 1))
 else
 some (.inr t1.1)
def oF(sep:List UInt8)(t:Int×Int):Option ((Int×Int) ⊕ Int):=
 bif decide (t.2≥0)then
 (idx sep t.2).bind λch=>
 let hash:=IntKind.u32.wrap ((IntKind.u32.wrap (t.1*16777619))+(IntKind.u32.wrap (ch.toNat:Int)))
 some (.inl (hash,Lx (t.2 - 1)))
 else
 some (.inr t.1)
def lP(sep:List UInt8):Option (Int×Int):=
 let i:=Lx ((sep.length:Int) - 1)
 (loop (oF sep) (0,i)).bind λakM=>
 (loop oE (1,16777619,(sep.length:Int))).bind λpow2=>
 some (akM,pow2)
def afY:Spec fam:=⟨[ne],[QH,QH],λa=>lP a.1⟩
def md(s:List UInt8)(sep:List UInt8)(x:Int×Int)(t1:Int×Int):Option ((Int×Int) ⊕ (Int ⊕ Unit)):=
 bif decide (t1.2≥0)then
 (idx s t1.2).bind λch1=>
 let h2:=IntKind.u32.wrap ((IntKind.u32.wrap (t1.1*16777619))+(IntKind.u32.wrap (ch1.toNat:Int)))
 (idx s (Lx (t1.2+(sep.length:Int)))).bind λch2=>
 let h3:=IntKind.u32.wrap (h2 - (IntKind.u32.wrap (x.2*(IntKind.u32.wrap (ch2.toNat:Int)))))
 (
  bif h3 == x.1 then
  (slc s t1.2 (Lx (t1.2+(sep.length:Int)))).bind λs2=>
  some (s2 == sep)
  else
  some false).bind λq1=>
 bif q1 then
  some (.inr (.inl (t1.2)))
 else
  some (.inl (h3,Lx (t1.2 - 1)))
 else
 some (.inr (.inr ()))
def me(s:List UInt8)(last:Int)(t:Int×Int):Option ((Int×Int) ⊕ Int):=
 bif decide (t.2≥last)then
 (idx s t.2).bind λch=>
 let h:=IntKind.u32.wrap ((IntKind.u32.wrap (t.1*16777619))+(IntKind.u32.wrap (ch.toNat:Int)))
 some (.inl (h,Lx (t.2 - 1)))
 else
 some (.inr t.1)
def hF(s:List UInt8)(sep:List UInt8):Option Int:=
 (lP sep).bind λx=>
 let last:=Lx ((s.length:Int) - (sep.length:Int))
 let i:=Lx ((s.length:Int) - 1)
 (loop (me s last) (0,i)).bind λh1=>
 (
 bif h1 == x.1 then
  (slc s last (s.length:Int)).bind λs1=>
  some (s1 == sep)
 else
  some false).bind λq=>
 bif q then
 some last
 else
 (loop (md s sep x) (h1,Lx (last - 1))).bind λq0=>
 match q0 with
 | .inl q2=>
  some q2
 | .inr _=>
  some (-1)
def af5:Spec fam:=⟨[ne,ne],[ge],λa=>hF a.1 a.2.1⟩
def eG(s:List UInt8)(substr:List UInt8):Option Int:=
 bif(substr.length:Int) == 0 then
 some (s.length:Int)
 else
 bif(substr.length:Int) == 1 then
  (idx substr 0).bind λch=>
  (aL s (ch.toNat:Int)).bind λx=>
  some x
 else
  bif(substr.length:Int) == (s.length:Int)then
  bif substr == s then
   some 0
  else
   some (-1)
  else
  bif decide ((substr.length:Int)>(s.length:Int))then
   some (-1)
  else
   (hF s substr).bind λx1=>
   some x1
def agq:Spec fam:=⟨[ne,ne],[ge],λa=>eG a.1 a.2.1⟩
def lm(Ld:List UInt8):Option (List UInt8×Bool):=
 (eG Ld ([46]:List UInt8)).bind λi=>
 bif decide (i<0)then
 some (([]:List UInt8),false)
 else
 (slc Ld 0 i).bind λs=>
 some (s,true)
def agS:Spec fam:=⟨[ne],[ne,gt],λa=>lm a.1⟩
def ou(t:List UInt8×List (List UInt8)):Option ((List UInt8×List (List UInt8)) ⊕ List (List UInt8)):=
 bif ! (t.1 == ([]:List UInt8))then
 (app 16 t.2 [t.1]).bind λl=>
 (lm t.1).bind λx=>
 some (.inl (x.1,l))
 else
 some (.inr t.2)
def uu(Ld:List UInt8):Option (List (List UInt8)):=
 (loop ou (Ld,[])).bind λout=>
 some out
def agL:Spec fam:=⟨[ne],[f9],λa=>uu a.1⟩
def Bl(s:List Cap):Option (List Cap):=
 bif s.isEmpty then
 none
 else
 (app 16 [] s).bind λl=>
 some l
def qk(s:List Cap):Option (List Cap):=app 16 [] s
def apx:Hint:=.z
def ahE:Spec fam:=⟨[.v (.slice (.st 1)) []],[.v (.slice (.st 1)) [0]],λa=>qk a.1⟩
def Iy:Spec fam:=⟨[.v (.slice (.st 1)) []],[.v (.slice (.st 1)) [0]],λa=>Bl a.1⟩
def lG(s:List Lm)(f:(M7 fam [.st 2]→Option Bool))(t:Int):Option (Int ⊕ (Int ⊕ Unit)):=
 bif decide (t<(s.length:Int))then
 (idx s t).bind λx=>
 (f (x,())).bind λr=>
 bif r then
  some (.inr (.inl t))
 else
  some (.inl (Lx (t+1)))
 else
 some (.inr (.inr ()))
def rN(s:List Lm)(f:(M7 fam [.st 2]→Option Bool)):Option Int:=
 (loop (lG s f) 0).bind λq0=>
 match q0 with
 | .inl q=>
 some q
 | .inr _=>
 some (-1)
def agn:Spec fam:=⟨[.v (.slice (.st 2)) [],.fn [.st 2] .bool],[ge],λa=>rN a.1 a.2.1⟩
def mW(q:Lm)(p:List UInt8):Option Bool:=
 some (q.LC == p)
def agm:Spec fam:=⟨[.v (.st 2) [],.rp .str],[gt],λa=>mW a.1 a.2.1⟩
def pJ(c:Lf)(Ld:List UInt8):Option (Lm×Bool):=
 (rN c.Lg (λa'=>mW a'.1 Ld)).bind λi=>
 bif decide (i<0)then
 some ((⟨[],[],0⟩:Lm),false)
 else
 (idx c.Lg i).bind λx=>
 (qk x.MR).bind λx1=>
 some ((⟨x.LC,x1,x.User⟩:Lm),true)
def agK:Spec fam:=⟨[QI,ne],[.v (.st 2) [1],gt],λa=>pJ a.1 a.2.1⟩
def qb(x:Int)(y:Int):Option (Int×Int):=
 let w0:=IntKind.u64.wrap ((RJ .u64 x 4294967295)*(RJ .u64 y 4294967295))
 let t:=IntKind.u64.wrap ((IntKind.u64.wrap ((Pg .u64 x 32)*(RJ .u64 y 4294967295)))+(Pg .u64 w0 32))
 let w1:=IntKind.u64.wrap ((RJ .u64 t 4294967295)+(IntKind.u64.wrap ((RJ .u64 x 4294967295)*(Pg .u64 y 32))))
 let hi:=IntKind.u64.wrap ((IntKind.u64.wrap ((IntKind.u64.wrap ((Pg .u64 x 32)*(Pg .u64 y 32)))+(Pg .u64 t 32)))+(Pg .u64 w1 32))
 some (hi,IntKind.u64.wrap (x*y))
def af4:Spec fam:=⟨[QW,QW],[QW,QW],λa=>qb a.1 a.2.1⟩
def vK(x:Int):Option Int:=
 (
 bif decide (x≥4294967296)then
  some (Pg .u64 x 32,32)
 else
  some (x,0)).bind λq=>
 (
 bif decide (q.1≥65536)then
  some (Pg .u64 q.1 16,Lx (q.2+16))
 else
  some (q.1,q.2)).bind λq1=>
 (
 bif decide (q1.1≥256)then
  some (Pg .u64 q1.1 8,Lx (q1.2+8))
 else
  some (q1.1,q1.2)).bind λq2=>
 (idx ([0,1,2,2,3,3,3,3,4,4,4,4,4,4,4,4,5,5,5,5,5,5,5,5,5,5,5,5,5,5,5,5,6,6,6,6,6,6,6,6,6,6,6,6,6,6,6,6,6,6,6,6,6,6,6,6,6,6,6,6,6,6,6,6,7,7,7,7,7,7,7,7,7,7,7,7,7,7,7,7,7,7,7,7,7,7,7,7,7,7,7,7,7,7,7,7,7,7,7,7,7,7,7,7,7,7,7,7,7,7,7,7,7,7,7,7,7,7,7,7,7,7,7,7,7,7,7,7,8,8,8,8,8,8,8,8,8,8,8,8,8,8,8,8,8,8,8,8,8,8,8,8,8,8,8,8,8,8,8,8,8,8,8,8,8,8,8,8,8,8,8,8,8,8,8,8,8,8,8,8,8,8,8,8,8,8,8,8,8,8,8,8,8,8,8,8,8,8,8,8,8,8,8,8,8,8,8,8,8,8,8,8,8,8,8,8,8,8,8,8,8,8,8,8,8,8,8,8,8,8,8,8,8,8,8,8,8,8,8,8,8,8,8,8,8,8,8,8,8,8,8,8,8,8,8,8]:List UInt8) (IntKind.u8.wrap q2.1)).bind λch=>
 let n:=Lx (q2.2+(Lx (ch.toNat:Int)))
 some n
def aht:Spec fam:=⟨[QW],[ge],λa=>vK a.1⟩
def oG(x:Int):Option Int:=
 (vK x).bind λx1=>
 some (Lx (64 - x1))
def afX:Spec fam:=⟨[QW],[ge],λa=>oG a.1⟩
def yP(V8:Int)(yn0:Int)(un0:Int)(t1:Int×Int):Option ((Int×Int) ⊕ Int):=
 (
 bif decide (t1.2≥4294967296)then
  some true
 else
  some (decide ((IntKind.u64.wrap (t1.2*yn0))>(IntKind.u64.wrap ((IntKind.u64.wrap (4294967296*t1.1))+un0))))).bind λq2=>
 bif q2 then
 bif decide ((IntKind.u64.wrap (t1.1+V8))≥4294967296)then
  some (.inr (IntKind.u64.wrap (t1.2 - 1)))
 else
  some (.inl (IntKind.u64.wrap (t1.1+V8),IntKind.u64.wrap (t1.2 - 1)))
 else
 some (.inr t1.2)
def yQ(V8:Int)(yn0:Int)(un1:Int)(t:Int×Int):Option ((Int×Int) ⊕ Int):=
 (
 bif decide (t.1≥4294967296)then
  some true
 else
  some (decide ((IntKind.u64.wrap (t.1*yn0))>(IntKind.u64.wrap ((IntKind.u64.wrap (4294967296*t.2))+un1))))).bind λq=>
 bif q then
 bif decide ((IntKind.u64.wrap (t.2+V8))≥4294967296)then
  some (.inr (IntKind.u64.wrap (t.1 - 1)))
 else
  some (.inl (IntKind.u64.wrap (t.1 - 1),IntKind.u64.wrap (t.2+V8)))
 else
 some (.inr t.1)
def sj(hi:Int)(lo:Int)(y:Int):Option (Int×Int):=
 bif y == 0 then
 none
 else
 bif decide (y≤hi)then
  none
 else
  bif hi == 0 then
  (nz y).bind λ_=>
  (nz y).bind λ_=>
  some (IntKind.u64.wrap (Int.tdiv lo y),Int.tmod lo y)
  else
  (oG y).bind λx=>
  (nn (IntKind.u64.wrap x)).bind λ_=>
  let V8:=Pg .u64 (Rw .u64 y (IntKind.u64.wrap x)) 32
  let yn0:=RJ .u64 (Rw .u64 y (IntKind.u64.wrap x)) 4294967295
  (nn (IntKind.u64.wrap x)).bind λ_=>
  (nn (IntKind.u64.wrap (64 - (IntKind.u64.wrap x)))).bind λ_=>
  let aac:=orK .u64 (Rw .u64 hi (IntKind.u64.wrap x)) (Pg .u64 lo (IntKind.u64.wrap (64 - (IntKind.u64.wrap x))))
  (nn (IntKind.u64.wrap x)).bind λ_=>
  let un1:=Pg .u64 (Rw .u64 lo (IntKind.u64.wrap x)) 32
  let un0:=RJ .u64 (Rw .u64 lo (IntKind.u64.wrap x)) 4294967295
  (nz V8).bind λ_=>
  let anT:=IntKind.u64.wrap (aac - (IntKind.u64.wrap ((IntKind.u64.wrap (Int.tdiv aac V8))*V8)))
  (loop (yQ V8 yn0 un1) (IntKind.u64.wrap (Int.tdiv aac V8),anT)).bind λq1=>
  let aad:=IntKind.u64.wrap ((IntKind.u64.wrap ((IntKind.u64.wrap (aac*4294967296))+un1)) - (IntKind.u64.wrap (q1*(Rw .u64 y (IntKind.u64.wrap x)))))
  (nz V8).bind λ_=>
  let aix:=IntKind.u64.wrap (aad - (IntKind.u64.wrap ((IntKind.u64.wrap (Int.tdiv aad V8))*V8)))
  (loop (yP V8 yn0 un0) (aix,IntKind.u64.wrap (Int.tdiv aad V8))).bind λq0=>
  (nn (IntKind.u64.wrap x)).bind λ_=>
  let quo:=IntKind.u64.wrap ((IntKind.u64.wrap (q1*4294967296))+q0)
  let rem:=Pg .u64 (IntKind.u64.wrap ((IntKind.u64.wrap ((IntKind.u64.wrap (aad*4294967296))+un0)) - (IntKind.u64.wrap (q0*(Rw .u64 y (IntKind.u64.wrap x)))))) (IntKind.u64.wrap x)
  some (quo,rem)
def af3:Spec fam:=⟨[QW,QW,QW],[QW,QW],λa=>sj a.1 a.2.1 a.2.2.1⟩
def pN(n:Int)(bp:Int):Option Int:=
 (qb (IntKind.u64.wrap n) (IntKind.u64.wrap bp)).bind λx=>
 (sj x.1 x.2 10000).bind λx1=>
 some (Lx x1.1)
def agl:Spec fam:=⟨[ge,ge],[ge],λa=>pN a.1 a.2.1⟩
def pY(a:Vec)(bp:Int):Option (Vec×Int):=
 (
 (gT a).bind λx=>
 bif ! x then
  some true
 else
  bif decide (bp<0)then
  some true
  else
  some (decide (bp>1000000))).bind λq=>
 bif q then
 some ((⟨0,0⟩:Vec),1)
 else
 (pN a.Mem bp).bind λx1=>
 (pN a.Lu bp).bind λx2=>
 (pL (⟨x1,x2⟩:Vec)).bind λx3=>
 some (x3.1,x3.2)
def agJ:Spec fam:=⟨[pp,ge],[pp,ge],λa=>pY a.1 a.2.1⟩
def nh(s:JF)(label:Int)(part:(M7 fam [.st 1]→Option Int))(up:List (List UInt8))(t:Vec×Vec×Int):Option ((Vec×Vec×Int) ⊕ (Vec ⊕ (Vec×Vec))):=
 bif decide (t.2.2≥0)then
 (MZ t.2.2 up.length).bind λi1=>
 (up[i1]?).bind λx2=>
 (pJ s.Lf x2).bind λx3=>
 (
  bif ! x3.2 then
  some true
  else
  bif decide (label<0)then
   some true
  else
   some (decide (label≥(x3.1.MR.length:Int)))).bind λq=>
 bif q then
  some (.inr (.inl (⟨0,0⟩:Vec)))
 else
  (MZ label x3.1.MR.length).bind λi2=>
  (x3.1.MR[i2]?).bind λx4=>
  (part (x4,())).bind λr=>
  (pY t.2.1 r).bind λx5=>
  some (.inl (t.1,x5.1,Lx (t.2.2 - 1)))
 else
 some (.inr (.inr (t.1,t.2.1)))
def oC(s:JF)(Ld:List UInt8)(label:Int)(part:(M7 fam [.st 1]→Option Int)):Option Vec:=
 (uu Ld).bind λup=>
 (pJ s.Lf Ld).bind λx=>
 bif ! x.2 then
 some (⟨0,0⟩:Vec)
 else
 (lV s label).bind λx1=>
 let i:=Lx ((up.length:Int) - 2)
 (loop (nh s label part up) ((⟨0,0⟩:Vec),x1,i)).bind λq0=>
 match q0 with
 | .inl q1=>
  some q1
 | .inr q2=>
  some q2.2
def ag9:Spec fam:=⟨[f0,ne,ge,.fn [.st 1] (.int .i64)],[pp],λa=>oC a.1 a.2.1 a.2.2.1 a.2.2.2.1⟩
def nU(c:Cap):Option Int:=
 some c.Oe
def ag8:Spec fam:=⟨[.v (.st 1) []],[ge],λa=>nU a.1⟩
def mY(s:JF)(Ld:List UInt8)(label:Int):Option Vec:=
 (oC s Ld label (λa'=>nU a'.1)).bind λx=>
 some x
def ahQ:Spec fam:=⟨[f0,ne,ge],[pp],λa=>mY a.1 a.2.1 a.2.2.1⟩
def nJ(a:LD):Option Bool:=
 bif a.JF == 1 then
 some true
 else
 some (a.JF == 2)
def ahP:Spec fam:=⟨[QF],[gt],λa=>nJ a.1⟩
def bF(s:List Int)(f:(M7 fam [.int .i64]→Option Bool))(t:Int):Option (Int ⊕ (Int ⊕ Unit)):=
 bif decide (t<(s.length:Int))then
 (idx s t).bind λx=>
 (f (x,())).bind λr=>
 bif r then
  some (.inr (.inl t))
 else
  some (.inl (Lx (t+1)))
 else
 some (.inr (.inr ()))
def fX(s:List Int)(f:(M7 fam [.int .i64]→Option Bool)):Option Int:=
 (loop (bF s f) 0).bind λq0=>
 match q0 with
 | .inl q=>
 some q
 | .inr _=>
 some (-1)
def afW:Spec fam:=⟨[t6,.fn [.int .i64] .bool],[ge],λa=>fX a.1 a.2.1⟩
def eC(s:List Int)(f:(M7 fam [.int .i64]→Option Bool)):Option Bool:=
 (fX s f).bind λx=>
 some (decide (x≥0))
def af2:Spec fam:=⟨[t6,.fn [.int .i64] .bool],[gt],λa=>eC a.1 a.2.1⟩
def nS(n:Int)(p:Int)(p1:Int):Option Bool:=
 bif decide (n<p)then
 some true
 else
 some (decide (n>p1))
def af0:Spec fam:=⟨[ge,.rp (.int .i64),.rp (.int .i64)],[gt],λa=>nS a.1 a.2.1 a.2.2.1⟩
def qA(least:Int)(most:Int)(l:List Int):Option Bool:=
 (eC l (λa'=>nS a'.1 least most)).bind λx=>
 some (! x)
def agk:Spec fam:=⟨[ge,ge,t6],[gt],λa=>qA a.1 a.2.1 a.2.2.1⟩
def l_(l:List Ask)(label:Int)(t:Vec×Int):Option ((Vec×Int) ⊕ Vec):=
 bif decide (t.2<(l.length:Int))then
 (
  (idx l t.2).bind λx=>
  (
  bif x.Ll == label then
   (qA 0 1125899906842624 [x.LV.Mem,x.LV.Lu]).bind λx1=>
   bif x1 then
   (qA 0 50 [x.Mw]).bind λx2=>
   some x2
   else
   some false
  else
   some false).bind λq=>
  bif q then
  some (⟨Lx (t.1.Mem+(Lx (x.LV.Mem*x.Mw))),Lx (t.1.Lu+(Lx (x.LV.Lu*x.Mw)))⟩:Vec)
  else
  some t.1).bind λout=>
 some (.inl (out,Lx (t.2+1)))
 else
 some (.inr t.1)
def n_(l:List Ask)(label:Int):Option Vec:=
 (loop (l_ l label) ((⟨0,0⟩:Vec),0)).bind λPI=>
 some PI
def agI:Spec fam:=⟨[QZ,ge],[pp],λa=>n_ a.1 a.2.1⟩
def kQ(v:View)(t:Vec×Int):Option ((Vec×Int) ⊕ Vec):=
 bif decide (t.2<(v.s.Lr.length:Int))then
 (
  (idx v.s.Lr t.2).bind λx=>
  (
  (nJ x).bind λx1=>
  bif x1 then
   (kR v x).bind λx2=>
   some x2
  else
   some false).bind λq=>
  bif q then
  (n_ x.Mr v.label).bind λx3=>
  (oP t.1 x3).bind λx4=>
  some x4.1
  else
  some t.1).bind λout=>
 some (.inl (out,Lx (t.2+1)))
 else
 some (.inr t.1)
def mv(v:View):Option Vec:=
 (loop (kQ v) ((⟨0,0⟩:Vec),0)).bind λPI=>
 some PI
def ag7:Spec fam:=⟨[Qc],[pp],λa=>mv a.1⟩
def lN(s:JF)(Ld:List UInt8)(label:Int):Option Vec:=
 (mv (⟨⟨⟨s.Lf.Lp,s.Lf.Lg⟩,s.Ls,s.Lr,s.Lc,s.LG,s.LU,s.Now,s.L9,s.Seq⟩,Ld,label,(-1)⟩:View)).bind λx=>
 some x
def ahO:Spec fam:=⟨[f0,ne,ge],[pp],λa=>lN a.1 a.2.1 a.2.2.1⟩
def nW(c:Lf)(Ld:List UInt8)(t:List (List UInt8)×Int):Option ((List (List UInt8)×Int) ⊕ List (List UInt8)):=
 bif decide (t.2<(c.Lg.length:Int))then
 (
  (idx c.Lg t.2).bind λx=>
  (lm x.LC).bind λx1=>
  (
  bif x1.2 then
   some (x1.1 == Ld)
  else
   some false).bind λq=>
  bif q then
  (app 16 t.1 [x.LC]).bind λl=>
  some l
  else
  some t.1).bind λout=>
 some (.inl (out,Lx (t.2+1)))
 else
 some (.inr t.1)
def qX(c:Lf)(Ld:List UInt8):Option (List (List UInt8)):=
 (loop (nW c Ld) ([],0)).bind λPI=>
 some PI
def ahg:Spec fam:=⟨[QI,ne],[f9],λa=>qX a.1 a.2.1⟩
def oH(c:Cap):Option Int:=
 some c.Most
def agR:Spec fam:=⟨[.v (.st 1) []],[ge],λa=>oH a.1⟩
def p8(s:JF)(Ld:List UInt8)(label:Int):Option Vec:=
 (oC s Ld label (λa'=>oH a'.1)).bind λx=>
 some x
def ahf:Spec fam:=⟨[f0,ne,ge],[pp],λa=>p8 a.1 a.2.1 a.2.2.1⟩
def l8(l:List Int)(t:Int×Int):Option ((Int×Int) ⊕ Int):=
 bif decide (t.2<(l.length:Int))then
 (idx l t.2).bind λx=>
 some (.inl (Mj t.1 x,Lx (t.2+1)))
 else
 some (.inr t.1)
def jl(first:Int)(l:List Int):Option Int:=
 (loop (l8 l) (first,0)).bind λadF=>
 some adF
def agQ:Spec fam:=⟨[ge,t6],[ge],λa=>jl a.1 a.2.1⟩
def jR(n:Int):Option Int:=
 (
 bif decide (n<0)then
  some true
 else
  some (decide (n>1125899906842624))).bind λq=>
 bif q then
 some 0
 else
 some n
def agP:Spec fam:=⟨[ge],[ge],λa=>jR a.1⟩
def mF(want:List Int)(most:List Int)(n:Int)(t1:List Int×Int×Int):Option ((List Int×Int×Int) ⊕ List Int):=
 bif decide (t1.2.2<n)then
 (idx want t1.2.2).bind λx9=>
 (jR x9).bind λx10=>
 (idx most t1.2.2).bind λPK=>
 (jR PK).bind λUc=>
 (jl x10 [Uc]).bind λUy=>
 (MZ t1.2.2 t1.1.length).bind λi2=>
 (t1.1[i2]?).bind λWm=>
 (jl (imax (Lx (Uy - Wm)) 0) [t1.2.1]).bind λmore=>
 (MZ t1.2.2 t1.1.length).bind λi3=>
 (t1.1[i3]?).bind λXr=>
 (MZ t1.2.2 t1.1.length).bind λi4=>
 (t1.1[i4]?).bind λx16=>
 some (.inl (List.set t1.1 i4 (Lx (Xr+more)),Lx (t1.2.1 - more),Lx (t1.2.2+1)))
 else
 some (.inr t1.1)
def mL(least:List Int)(want:List Int)(most:List Int)(n:Int)(t:List Int×Int×Int):Option ((List Int×Int×Int) ⊕ ((List Int×Int))):=
 bif decide (t.2.2<n)then
 (idx least t.2.2).bind λx=>
 (jR x).bind λx1=>
 (idx want t.2.2).bind λx2=>
 (jR x2).bind λx3=>
 (idx most t.2.2).bind λx4=>
 (jR x4).bind λx5=>
 (jl x1 [x3,x5,t.2.1]).bind λx6=>
 (MZ t.2.2 t.1.length).bind λi=>
 (t.1[i]?).bind λx7=>
 (MZ t.2.2 (List.set t.1 i x6).length).bind λi1=>
 ((List.set t.1 i x6)[i1]?).bind λx8=>
 some (.inl (List.set t.1 i x6,Lx (t.2.1 - x8),Lx (t.2.2+1)))
 else
 some (.inr (t.1,t.2.1))
def o9(total:Int)(least:List Int)(want:List Int)(most:List Int):Option (List Int):=
 (jl (least.length:Int) [(want.length:Int),(most.length:Int)]).bind λn=>
 (V9 8 n n 0).bind λl=>
 (jR total).bind λleft=>
 (loop (mL least want most n) (l,left,0)).bind λq=>
 (loop (mF want most n) (q.1,q.2,0)).bind λout=>
 some out
def ahe:Spec fam:=⟨[ge,t6,t6,t6],[f8],λa=>o9 a.1 a.2.1 a.2.2.1 a.2.2.2.1⟩
def jg(s:JF)(label:Int)(deep:Int)(self:JF→(List UInt8)→Int→Int→Int→Option (List MC))(kids:List (List UInt8))(x5:List Int)(t1:List MC×Int):Option ((List MC×Int) ⊕ List MC):=
 bif decide (t1.2<(x5.length:Int))then
 (MZ t1.2 x5.length).bind λi1=>
 (x5[i1]?).bind λx6=>
 (MZ t1.2 kids.length).bind λi2=>
 (kids[i2]?).bind λx7=>
 (self s x7 label x6 (Lx (deep+1))).bind λx8=>
 (app 24 t1.1 x8).bind λl3=>
 some (.inl (l3,Lx (t1.2+1)))
 else
 some (.inr t1.1)
def lq(s:JF)(label:Int)(kids:List (List UInt8))(t:Nu×Int):Option ((Nu×Int) ⊕ Nu):=
 bif decide (t.2<(kids.length:Int))then
 (MZ t.2 kids.length).bind λi=>
 (kids[i]?).bind λx=>
 (mY s x label).bind λx1=>
 (jK s x label).bind λx2=>
 (lN s x label).bind λx3=>
 (p8 s x label).bind λx4=>
 (OQ t.2 (t.1.r0.length:Int) t.1.r0.length).bind λp=>
 (OQ 0 1 [x1.Mem,Lx (x2.Mem+x3.Mem),x4.Mem].length).bind λp1=>
 (OQ t.2 (t.1.r1.length:Int) t.1.r1.length).bind λp2=>
 (OQ 1 2 [x1.Mem,Lx (x2.Mem+x3.Mem),x4.Mem].length).bind λp3=>
 (OQ t.2 (t.1.r2.length:Int) t.1.r2.length).bind λp4=>
 (OQ 2 3 [x1.Mem,Lx (x2.Mem+x3.Mem),x4.Mem].length).bind λp5=>
 some (.inl ((⟨Rn t.1.r0 p.1 p.2 (sub [x1.Mem,Lx (x2.Mem+x3.Mem),x4.Mem] p1.1 p1.2),Rn t.1.r1 p2.1 p2.2 (sub [x1.Mem,Lx (x2.Mem+x3.Mem),x4.Mem] p3.1 p3.2),Rn t.1.r2 p4.1 p4.2 (sub [x1.Mem,Lx (x2.Mem+x3.Mem),x4.Mem] p5.1 p5.2)⟩:Nu),Lx (t.2+1)))
 else
 some (.inr t.1)
def lL(self:JF→(List UInt8)→Int→Int→Int→Option (List MC))(s:JF)(Ld:List UInt8)(label:Int)(mem:Int)(deep:Int):Option (List MC):=
 (qX s.Lf Ld).bind λkids=>
 (
 bif(kids.length:Int) == 0 then
  some true
 else
  some (decide (deep>4))).bind λq=>
 bif q then
 some [(⟨Ld,mem⟩:MC)]
 else
 (V9 8 (kids.length:Int) (kids.length:Int) 0).bind λl=>
 (V9 8 (kids.length:Int) (kids.length:Int) 0).bind λl1=>
 (V9 8 (kids.length:Int) (kids.length:Int) 0).bind λl2=>
 (loop (lq s label kids) ((⟨l,l1,l2⟩:Nu),0)).bind λrows=>
 (o9 mem rows.r0 rows.r1 rows.r2).bind λx5=>
 (loop (jg s label deep self kids x5) ([],0)).bind λout=>
 some out
def eK:Nat→JF→(List UInt8)→Int→Int→Int→Option (List MC)
 | 0=>λ_ _ _ _ _=>none
 | n+1=>lL (eK n)
def q9(a0:JF)(a1:List UInt8)(a2:Int)(a3:Int)(a4:Int):Option (List MC):=eK 64 a0 a1 a2 a3 a4
def apA:Hint:=(Qf (.s .z (.s (.s (.j [25,26,27,28,29,30,31] [(0,[(31,gt)])] .z) .z) (Qf (.s (Qf (.b (.u 4 .z))) (.s (Qf ((Qg [(12,.box (.st 19) [5003,0,1,2]),(51,ge)] [12,14,15,16,17,51,52,53,54,55,56,57,58,59,60,61,62,63,64,65,66,67,68,69,70,71,72,73,74,75,76,77,78,79,80,81,82,83,84,85,86,87,88,89,90,91,92,93,94,95,96] [(4,[(12,.box (.st 19) [5003,0,1,2])])] (Qf (.s .z (.s (.b (Qf (.s .z (Qf (.b (.u 4 .z)))))) .z)))))) (Qf (.s (Qf ((Qg [(18,QC),(109,ge)] [18,19,20,109] [(8,[(18,QC)])] .z))) .z))))))))
def ahT:Spec fam:=⟨[f0,ne,ge,ge,ge],[QC],λa=>q9 a.1 a.2.1 a.2.2.1 a.2.2.2.1 a.2.2.2.2.1⟩
def rq(n:Nat):Spec fam:=⟨[.v (.st 10) [],.v .str [],.v (.int .i64) [],.v (.int .i64) [],.v (.int .i64) []],[.v (.slice (.st 16)) [0]],λa=>eK n a.1 a.2.1 a.2.2.1 a.2.2.2.1 a.2.2.2.2.1⟩
def kW(s:JF)(label:Int):Option (List MC):=
 (lV s label).bind λx=>
 (q9 s ([114,111,111,116]:List UInt8) label x.Mem 1).bind λx1=>
 some x1
def amP:Spec fam:=⟨[f0,ge],[QC],λa=>kW a.1 a.2.1⟩
def mV(s:List LD)(f:(M7 fam [.st 6]→Option Bool))(t:Int):Option (Int ⊕ (Int ⊕ Unit)):=
 bif decide (t<(s.length:Int))then
 (idx s t).bind λx=>
 (f (x,())).bind λr=>
 bif r then
  some (.inr (.inl t))
 else
  some (.inl (Lx (t+1)))
 else
 some (.inr (.inr ()))
def vd(s:List LD)(f:(M7 fam [.st 6]→Option Bool)):Option Int:=
 (loop (mV s f) 0).bind λq0=>
 match q0 with
 | .inl q=>
 some q
 | .inr _=>
 some (-1)
def ahz:Spec fam:=⟨[.v (.slice (.st 6)) [],.fn [.st 6] .bool],[ge],λa=>vd a.1 a.2.1⟩
def ph(a:LD)(p:Int):Option Bool:=
 some (a.Id == p)
def ahy:Spec fam:=⟨[QF,.rp (.int .i64)],[gt],λa=>ph a.1 a.2.1⟩
def o5(s:JF)(N_:Int):Option Int:=
 (vd s.Lr (λa'=>ph a'.1 N_)).bind λx=>
 some x
def amy:Spec fam:=⟨[f0,ge],[ge],λa=>o5 a.1 a.2.1⟩
def BK(s:List Ask):Option (List Ask):=
 bif s.isEmpty then
 none
 else
 (app 64 [] s).bind λl=>
 some l
def u6(s:List Ask):Option (List Ask):=app 64 [] s
def aps:Hint:=.z
def aha:Spec fam:=⟨[QZ],[ac],λa=>u6 a.1⟩
def HI:Spec fam:=⟨[.v (.slice (.st 5)) []],[.v (.slice (.st 5)) [0]],λa=>BK a.1⟩
def ms(l:List Int):Option (List Int):=
 (V9 8 (l.length:Int) (l.length:Int) 0).bind λl1=>
 some (Rn l1 0 l1.length l)
def ag_:Spec fam:=⟨[t6],[f8],λa=>ms a.1⟩
def qg(a:LD):Option LD:=
 (u6 a.Mr).bind λx=>
 (ms a.Mv).bind λx1=>
 (ms a.Nr).bind λx2=>
 (ms a.Told).bind λx3=>
 (ms a.N7).bind λx4=>
 some (⟨a.Id,a.JF,a.Lm,a.User,a.LA,⟨a.Lj.Mem,a.Lj.Lu⟩,x,a.NZ,a.Nf,x1,x2,x3,x4⟩:LD)
def ahR:Spec fam:=⟨[QF],[Qa],λa=>qg a.1⟩
def pz(s:JF)(N_:Int):Option (LD×Bool):=
 (o5 s N_).bind λi=>
 bif decide (i<0)then
 some ((⟨0,0,[],0,0,⟨0,0⟩,[],0,0,[],[],[],[]⟩:LD),false)
 else
 (idx s.Lr i).bind λx=>
 (qg x).bind λx1=>
 some (x1,true)
def amN:Spec fam:=⟨[f0,ge],[Qa,gt],λa=>pz a.1 a.2.1⟩
def lZ(s:JF)(label:Int)(t1:L8×Int):Option ((L8×Int) ⊕ L8):=
 bif decide (t1.2<(s.Lc.length:Int))then
 (
  (idx s.Lc t1.2).bind λx4=>
  bif x4.Ll != label then
  some t1.1
  else
  (pz s x4.LD).bind λx5=>
  bif x4.ME != 0 then
   (cu (⟨⟨⟨t1.1.s.Lf.Lp,t1.1.s.Lf.Lg⟩,t1.1.s.Ls,t1.1.s.Lr,t1.1.s.Lc,t1.1.s.LG,t1.1.s.LU,t1.1.s.Now,t1.1.s.L9,t1.1.s.Seq⟩,t1.1.label,t1.1.over,NP (λx6=>x4.Id == x6.k) t1.1.leaf (⟨x4.Id,x5.1.Lm⟩:Md),t1.1.Ng,t1.1.gone⟩:L8) x4).bind λx7=>
   some x7
  else
   some (⟨⟨⟨t1.1.s.Lf.Lp,t1.1.s.Lf.Lg⟩,t1.1.s.Ls,t1.1.s.Lr,t1.1.s.Lc,t1.1.s.LG,t1.1.s.LU,t1.1.s.Now,t1.1.s.L9,t1.1.s.Seq⟩,t1.1.label,t1.1.over,NP (λx6=>x4.Id == x6.k) t1.1.leaf (⟨x4.Id,x5.1.Lm⟩:Md),t1.1.Ng,t1.1.gone⟩:L8)).bind λk1=>
 some (.inl (k1,Lx (t1.2+1)))
 else
 some (.inr t1.1)
def l7(s:JF)(label:Int)(x:List MC)(t:L8×Int):Option ((L8×Int) ⊕ L8):=
 bif decide (t.2<(x.length:Int))then
 (MZ t.2 x.length).bind λi=>
 (x[i]?).bind λx1=>
 (jK s x1.LC label).bind λx2=>
 some (.inl ((⟨⟨⟨t.1.s.Lf.Lp,t.1.s.Lf.Lg⟩,t.1.s.Ls,t.1.s.Lr,t.1.s.Lc,t.1.s.LG,t.1.s.LU,t.1.s.Now,t.1.s.L9,t.1.s.Seq⟩,t.1.label,NP (λx3=>x1.LC == x3.k) t.1.over (⟨x1.LC,Lx (x2.Mem - x1.Mem)⟩:LH),t.1.leaf,t.1.Ng,t.1.gone⟩:L8),Lx (t.2+1)))
 else
 some (.inr t.1)
def oD(s:JF)(label:Int):Option L8:=
 (kW s label).bind λx=>
 (loop (l7 s label x) ((⟨⟨⟨s.Lf.Lp,s.Lf.Lg⟩,s.Ls,s.Lr,s.Lc,s.LG,s.LU,s.Now,s.L9,s.Seq⟩,label,[],[],[],0⟩:L8),0)).bind λk=>
 (loop (lZ s label) (k,0)).bind λk2=>
 some k2
def anB:Spec fam:=⟨[f0,ge],[.nb (.st 18) [11,12,13]],λa=>oD a.1 a.2.1⟩
def eV(k:L8)(Ld:List UInt8)(x:Vec)(x1:Vec)(x2:LD)(t1:Int):Option (Int ⊕ (Int ⊕ Unit)):=
 bif decide (t1<(x2.Mr.length:Int))then
 (idx x2.Mr t1).bind λx4=>
 (
  bif x4.Ll == k.label then
  some (decide ((Lx (x.Mem+x4.LV.Mem))≤x1.Mem))
  else
  some false).bind λq1=>
 bif q1 then
  (lN k.s Ld k.label).bind λx5=>
  some (.inr (.inl (Mj x5.Mem (Lx (x1.Mem - x.Mem)))))
 else
  some (.inl (Lx (t1+1)))
 else
 some (.inr (.inr ()))
def jG(k:L8)(Ld:List UInt8)(x:Vec)(x1:Vec)(t:Int):Option (Int ⊕ (Int ⊕ Unit)):=
 bif decide (t<(k.s.Lr.length:Int))then
 (
  (idx k.s.Lr t).bind λx2=>
  (
  (nJ x2).bind λx3=>
  bif ! x3 then
   some true
  else
   some (! (x2.Lm == Ld))).bind λq=>
  bif q then
  some (.inl ())
  else
  (loop (eV k Ld x x1 x2) 0).bind λq0=>
  match q0 with
  | .inl q2=>
   some (.inr q2)
  | .inr _=>
   some (.inl ()):Option (Unit ⊕ Int)).bind λq0=>
 match q0 with
 | .inl _=>
  some (.inl (Lx (t+1)))
 | .inr q3=>
  some (.inr (.inl q3))
 else
 some (.inr (.inr ()))
def iB(k:L8)(Ld:List UInt8):Option (Int×L8):=
 (jK k.s Ld k.label).bind λx=>
 (mY k.s Ld k.label).bind λx1=>
 (loop (jG k Ld x x1) 0).bind λq0=>
 match q0 with
 | .inl q4=>
 some (q4,k)
 | .inr _=>
 some (0,k)
def amM:Spec fam:=⟨[QU,ne],[ge],λa=>iB a.1 a.2.1⟩
def fE(x:List MC)(t:L8×Int×Int):Option ((L8×Int×Int) ⊕ ((L8×Int))):=
 bif decide (t.2.2<(x.length:Int))then
 (MZ t.2.2 x.length).bind λi=>
 (x[i]?).bind λx1=>
 (iB t.1 x1.LC).bind λx2=>
 let sum:=Lx (t.2.1+x2.1)
 some (.inl (x2.2,sum,Lx (t.2.2+1)))
 else
 some (.inr (t.1,t.2.1))
def ju(k:L8):Option (Int×L8):=
 (kW k.s k.label).bind λx=>
 (loop (fE x) (k,0,0)).bind λq=>
 (lV q.1.s q.1.label).bind λx3=>
 (jK q.1.s ([114,111,111,116]:List UInt8) q.1.label).bind λx4=>
 some (Lx (q.2 - (imax (Lx (x3.Mem - x4.Mem)) 0)),q.1)
def anA:Spec fam:=⟨[QU],[ge],λa=>ju a.1⟩
def i9(vals:List Int)(t:Int):Option (Int ⊕ (Int ⊕ Unit)):=
 bif decide (t<(vals.length:Int))then
 (idx vals t).bind λx=>
 bif x != 0 then
  some (.inr (.inl x))
 else
  some (.inl (Lx (t+1)))
 else
 some (.inr (.inr ()))
def pc(vals:List Int):Option Int:=
 (loop (i9 vals) 0).bind λq0=>
 match q0 with
 | .inl q=>
 some q
 | .inr _=>
 some 0
def amK:Spec fam:=⟨[t6],[ge],λa=>pc a.1⟩
def mJ(x:Int):Option Bool:=
 some (x != x)
def ahM:Spec fam:=⟨[ge],[gt],λa=>mJ a.1⟩
def ll(x:Int)(y:Int):Option Int:=
 (mJ x).bind λacM=>
 (mJ y).bind λYF=>
 bif acM then
 bif YF then
  some 0
 else
  some (-1)
 else
 bif YF then
  some 1
 else
  bif decide (x<y)then
  some (-1)
  else
  bif decide (x>y)then
   some 1
  else
   some 0
def amJ:Spec fam:=⟨[ge,ge],[ge],λa=>ll a.1 a.2.1⟩
def kE(x:List UInt8):Option Bool:=
 some (! (x == x))
def ahL:Spec fam:=⟨[ne],[gt],λa=>kE a.1⟩
def jz(x:List UInt8)(y:List UInt8):Option Int:=
 (kE x).bind λacM=>
 (kE y).bind λYF=>
 bif acM then
 bif YF then
  some 0
 else
  some (-1)
 else
 bif YF then
  some 1
 else
  bif Op.bytesLess x y then
  some (-1)
  else
  bif ! (SG x y)then
   some 1
  else
   some 0
def amI:Spec fam:=⟨[ne,ne],[ge],λa=>jz a.1 a.2.1⟩
def bM(k:L8)(_ob:Obj)(found:List UInt8)(e4:L6):Option (List UInt8):=
 (
 bif found == ([]:List UInt8)then
  some true
 else
  let e5:=OE (λx6=>found == x6.k) k.over (⟨found,0⟩:LH)
  let e6:=OE (λx7=>e4.k == x7.k) k.over (⟨e4.k,0⟩:LH)
  (ll e5.v e6.v).bind λx8=>
  (jz e4.k found).bind λx9=>
  (pc [x8,x9]).bind λx10=>
  some (decide (x10<0))).bind λq2=>
 bif q2 then
 some e4.k
 else
 some found
def fG(k:L8)(t:List L6×Int):Option ((List L6×Int) ⊕ List L6):=
 bif decide (t.2<(k.s.Lc.length:Int))then
 (
  (idx k.s.Lc t.2).bind λx=>
  let e:=OE (λx1=>x.Id == x1.k) k.leaf (⟨x.Id,[]⟩:Md)
  let is:=P7 (λx1=>x.Id == x1.k) k.leaf
  (
  bif ! is then
   some true
  else
   let e1:=OE (λx2=>x.Id == x2.k) k.Ng (⟨x.Id,0⟩:Nl)
   bif decide (e1.v>0)then
   some true
   else
   let e2:=OE (λx3=>e.v == x3.k) k.over (⟨e.v,0⟩:LH)
   some (decide (e2.v≤0))).bind λq=>
  bif q then
  some t.1
  else
  let e3:=OE (λx4=>e.v == x4.k) t.1 (⟨e.v,⟨0,0,0,⟨0,0⟩,0,0,false,0⟩⟩:L6)
  let has:=P7 (λx4=>e.v == x4.k) t.1
  (
   bif ! has then
   some true
   else
   bif e3.v.Lj then
    bif ! x.Lj then
    some true
    else
    bif e3.v.Lj == x.Lj then
     some (decide (x.Id>e3.v.Id))
    else
     some false
   else
    bif e3.v.Lj == x.Lj then
    some (decide (x.Id>e3.v.Id))
    else
    some false).bind λq1=>
  bif q1 then
   some (NP (λx5=>e.v == x5.k) t.1 (⟨e.v,⟨x.Id,x.LD,x.LB,⟨x.LV.Mem,x.LV.Lu⟩,x.LA,x.Ll,x.Lj,x.ME⟩⟩:L6))
  else
   some t.1).bind λbest=>
 some (.inl (best,Lx (t.2+1)))
 else
 some (.inr t.1)
def jD(k:L8):Option (Lv×Bool×L8):=
 (loop (fG k) ([],0)).bind λUY=>
 (rng (ω:=Obj) (λ_=>some ([]:List UInt8)) (bM k) UY).bind λWQ=>
 let e7:=OE (λPK=>WQ == PK.k) UY (⟨WQ,⟨0,0,0,⟨0,0⟩,0,0,false,0⟩⟩:L6)
 let is1:=P7 (λPK=>WQ == PK.k) UY
 some (e7.v,is1,k)
def anz:Spec fam:=⟨[QU],[QK,gt],λa=>jD a.1⟩
def qT(need:Int×L8)(t:L8×List Int):Option ((L8×List Int) ⊕ List Int):=
 bif decide (t.1.gone<need.1)then
 (jD t.1).bind λx=>
 bif ! x.2.1 then
  some (.inr t.2)
 else
  (cu x.2.2 x.1).bind λx1=>
  (app 8 t.2 [x.1.Id]).bind λl=>
  some (.inl (x1,l))
 else
 some (.inr t.2)
def mi(s:JF)(label:Int):Option (List Int):=
 (oD s label).bind λk=>
 (ju k).bind λneed=>
 (loop (qT need) (need.2,[])).bind λout=>
 some out
def h10:Hint:=(Qf (.s .z (Qf (.s .z (.s ((Qg [(5,QU),(7,f8)] [5,7,8] [(2,[(7,f8)])] .z)) .z)))))
def anR:Spec fam:=⟨[f0,ge],[f8],λa=>mi a.1 a.2.1⟩
def n8(s:List Lv)(f:(M7 fam [.st 7]→Option Bool))(t:Int):Option (Int ⊕ (Int ⊕ Unit)):=
 bif decide (t<(s.length:Int))then
 (idx s t).bind λx=>
 (f (x,())).bind λr=>
 bif r then
  some (.inr (.inl t))
 else
  some (.inl (Lx (t+1)))
 else
 some (.inr (.inr ()))
def iY(s:List Lv)(f:(M7 fam [.st 7]→Option Bool)):Option Int:=
 (loop (n8 s f) 0).bind λq0=>
 match q0 with
 | .inl q=>
 some q
 | .inr _=>
 some (-1)
def ano:Spec fam:=⟨[Q9,.fn [.st 7] .bool],[ge],λa=>iY a.1 a.2.1⟩
def vM(s:List Lv):Option (List Lv):=
 bif s.isEmpty then
 none
 else
 (app 72 [] s).bind λl=>
 some l
def mr(s:List Lv):Option (List Lv):=app 72 [] s
def h97:Hint:=.z
def amt:Spec fam:=⟨[Q9],[QQ],λa=>mr a.1⟩
def JZ:Spec fam:=⟨[.v (.slice (.st 7)) []],[.v (.slice (.st 7)) [0]],λa=>vM a.1⟩
def nA(s:List (List UInt8)):Option (List (List UInt8)):=
 bif s.isEmpty then
 none
 else
 (app 16 [] s).bind λl=>
 some l
def eN(s:List (List UInt8)):Option (List (List UInt8)):=app 16 [] s
def apz:Hint:=.z
def ahG:Spec fam:=⟨[.v (.slice (.str)) []],[f9],λa=>eN a.1⟩
def H_:Spec fam:=⟨[.v (.slice (.str)) []],[.v (.slice (.str)) [0]],λa=>nA a.1⟩
def uG(s:List Lm):Option (List Lm):=
 bif s.isEmpty then
 none
 else
 (app 48 [] s).bind λl=>
 some l
def oV(s:List Lm):Option (List Lm):=app 48 [] s
def apy:Hint:=.z
def ahF:Spec fam:=⟨[.v (.slice (.st 2)) []],[.v (.slice (.st 2)) [0]],λa=>oV a.1⟩
def IB:Spec fam:=⟨[.v (.slice (.st 2)) []],[.v (.slice (.st 2)) [0]],λa=>uG a.1⟩
def zV(s:List LB):Option (List LB):=
 bif s.isEmpty then
 none
 else
 (app 64 [] s).bind λl=>
 some l
def tp(s:List LB):Option (List LB):=app 64 [] s
def apw:Hint:=.z
def ahD:Spec fam:=⟨[.v (.slice (.st 4)) []],[.v (.slice (.st 4)) [0]],λa=>tp a.1⟩
def GT:Spec fam:=⟨[.v (.slice (.st 4)) []],[.v (.slice (.st 4)) [0]],λa=>zV a.1⟩
def A7(s:List Nv):Option (List Nv):=
 bif s.isEmpty then
 none
 else
 (app 24 [] s).bind λl=>
 some l
def sP(s:List Nv):Option (List Nv):=app 24 [] s
def apv:Hint:=.z
def ahC:Spec fam:=⟨[.v (.slice (.st 8)) []],[QE],λa=>sP a.1⟩
def Gu:Spec fam:=⟨[.v (.slice (.st 8)) []],[.v (.slice (.st 8)) [0]],λa=>A7 a.1⟩
def As(s:List MW):Option (List MW):=
 bif s.isEmpty then
 none
 else
 (app 48 [] s).bind λl=>
 some l
def tf(s:List MW):Option (List MW):=app 48 [] s
def apu:Hint:=.z
def ahB:Spec fam:=⟨[Q5],[QL],λa=>tf a.1⟩
def Ho:Spec fam:=⟨[.v (.slice (.st 9)) []],[.v (.slice (.st 9)) [0]],λa=>As a.1⟩
def wz(s:List LD):Option (List LD):=
 bif s.isEmpty then
 none
 else
 (app 200 [] s).bind λl=>
 some l
def qx(s:List LD):Option (List LD):=app 200 [] s
def apt:Hint:=.z
def ahA:Spec fam:=⟨[.v (.slice (.st 6)) []],[QM],λa=>qx a.1⟩
def G_:Spec fam:=⟨[.v (.slice (.st 6)) []],[.v (.slice (.st 6)) [0]],λa=>wz a.1⟩
def nf(x9:List LD)(t1:List LD×Nat×Int):Option ((List LD×Nat×Int) ⊕ (List LD×Nat×Int)):=
 bif decide (t1.2.2<(x9.length:Int))then
 (MZ t1.2.2 t1.1.length).bind λi2=>
 bif Nat.ble t1.2.1 i2 then
  (t1.1[i2]?).bind λx10=>
  (qg x10).bind λPK=>
  (MZ t1.2.2 t1.1.length).bind λi3=>
  bif Nat.beq i3 t1.2.1 then
  (t1.1[i3]?).bind λUc=>
  some (.inl (List.set t1.1 i3 PK,t1.2.1+1,Lx (t1.2.2+1)))
  else
  none
 else
  none
 else
 some (.inr (t1.1,t1.2.1,t1.2.2))
def m9(x1:List Lm)(t:List Lm×Nat×Int):Option ((List Lm×Nat×Int) ⊕ (List Lm×Nat×Int)):=
 bif decide (t.2.2<(x1.length:Int))then
 (MZ t.2.2 t.1.length).bind λi=>
 bif Nat.ble t.2.1 i then
  (t.1[i]?).bind λx2=>
  (qk x2.MR).bind λx3=>
  (MZ t.2.2 t.1.length).bind λi1=>
  bif Nat.beq i1 t.2.1 then
  (t.1[i1]?).bind λx4=>
  some (.inl (List.set t.1 i1 (⟨x4.LC,x3,x4.User⟩:Lm),t.2.1+1,Lx (t.2.2+1)))
  else
  none
 else
  none
 else
 some (.inr (t.1,t.2.1,t.2.2))
def qp(s:JF):Option JF:=
 (eN s.Lf.Lp).bind λx=>
 (oV s.Lf.Lg).bind λx1=>
 (loop (m9 x1) (x1,0,0)).bind λq=>
 bif Nat.ble q.1.length q.2.1 then
 (tp s.Ls).bind λx5=>
 (mr s.Lc).bind λx6=>
 (sP s.LG).bind λx7=>
 (tf s.LU).bind λx8=>
 (qx s.Lr).bind λx9=>
 (loop (nf x9) (x9,0,0)).bind λq1=>
 bif Nat.ble q1.1.length q1.2.1 then
  some (⟨⟨x,q.1⟩,x5,q1.1,x6,x7,x8,s.Now,s.L9,s.Seq⟩:JF)
 else
  none
 else
 none
def amB:Spec fam:=⟨[f0],[QV],λa=>qp a.1⟩
def q_(c:Lv)(p:Int):Option Bool:=
 some (c.Id == p)
def amA:Spec fam:=⟨[QK,.rp (.int .i64)],[gt],λa=>q_ a.1 a.2.1⟩
def qY(s:List Ask)(f:(M7 fam [.st 5]→Option Bool))(t:Int):Option (Int ⊕ (Int ⊕ Unit)):=
 bif decide (t<(s.length:Int))then
 (idx s t).bind λx=>
 (f (x,())).bind λr=>
 bif r then
  some (.inr (.inl t))
 else
  some (.inl (Lx (t+1)))
 else
 some (.inr (.inr ()))
def qH(s:List Ask)(f:(M7 fam [.st 5]→Option Bool)):Option Int:=
 (loop (qY s f) 0).bind λq0=>
 match q0 with
 | .inl q=>
 some q
 | .inr _=>
 some (-1)
def agi:Spec fam:=⟨[QZ,.fn [.st 5] .bool],[ge],λa=>qH a.1 a.2.1⟩
def wg(del:(M7 fam [.st 5]→Option Bool))(t:List Ask×Int×Int):Option ((List Ask×Int×Int) ⊕ ((List Ask×Int))):=
 bif decide (t.2.2<(t.1.length:Int))then
 (
  (MZ t.2.2 t.1.length).bind λi1=>
  (t.1[i1]?).bind λx=>
  (del (x,())).bind λr=>
  bif ! r then
  (MZ t.2.1 t.1.length).bind λi2=>
  (t.1[i2]?).bind λx1=>
  some (List.set t.1 i2 x,Lx (t.2.1+1))
  else
  some (t.1,t.2.1)).bind λq=>
 some (.inl (q.1,q.2,Lx (t.2.2+1)))
 else
 some (.inr (t.1,t.2.1))
def ol(s:List Ask)(del:(M7 fam [.st 5]→Option Bool)):Option (List Ask):=
 (qH s del).bind λi=>
 bif i == (-1)then
 some s
 else
 (loop (wg del) (s,i,Lx (i+1))).bind λq1=>
 (OQ q1.2 (q1.1.length:Int) q1.1.length).bind λp=>
 (OQ 0 q1.2 (Rn q1.1 p.1 p.2 (List.replicate p.2 (⟨0,0,⟨0,0⟩,0,0,0,0⟩:Ask))).length).bind λp1=>
 some (List.take p1.2 (Rn q1.1 p.1 p.2 (List.replicate p.2 (⟨0,0,⟨0,0⟩,0,0,0,0⟩:Ask))))
def agF:Spec fam:=⟨[ac,.fn [.st 5] .bool],[ac],λa=>ol a.1 a.2.1⟩
def vz(l:List Ask):Option (List Ask):=
 (V9 64 (l.length:Int) (l.length:Int) (⟨0,0,⟨0,0⟩,0,0,0,0⟩:Ask)).bind λl1=>
 some (Rn l1 0 l1.length l)
def agE:Spec fam:=⟨[QZ],[ac],λa=>vz a.1⟩
def vS(x:Ask)(p:Ask):Option Bool:=
 some (x.LA == p.LA)
def agD:Spec fam:=⟨[QT,.rp (.st 5)],[gt],λa=>vS a.1 a.2.1⟩
def sJ(s:List Ask)(i:Int)(v:List Ask):Option (List Ask):=
 (OQ i (s.length:Int) s.length).bind λp=>
 bif(v.length:Int) == 0 then
 some s
 else
 bif i == (s.length:Int)then
  (app 64 s v).bind λl=>
  some l
 else
  none
def agC:Spec fam:=⟨[ac,ge,QZ],[ac],λa=>sJ a.1 a.2.1 a.2.2.1⟩
def uN(a:Ask)(out:List Ask)(k:Int):Option (Int ⊕ Int):=
 (
 bif decide (k<(out.length:Int))then
  (MZ k out.length).bind λi=>
  (out[i]?).bind λx1=>
  some (decide (x1.LA<a.LA))
 else
  some false).bind λq=>
 bif q then
 some (.inl (Lx (k+1)))
 else
 some (.inr k)
def vA(l:List Ask)(a:Ask):Option (List Ask×Int):=
 (vz l).bind λx=>
 (ol x (λa'=>vS a'.1 a)).bind λout=>
 bif a.Mw == 0 then
 some (out,0)
 else
 bif decide ((out.length:Int)≥8)then
  some ([],4)
 else
  (loop (uN a out) 0).bind λk1=>
  (sJ out k1 [(⟨a.LA,a.Ll,⟨a.LV.Mem,a.LV.Lu⟩,a.Mw,a.LB,a.Oj,0⟩:Ask)]).bind λx2=>
  some (x2,0)
def ag4:Spec fam:=⟨[QZ,QT],[ac,ge],λa=>vA a.1 a.2.1⟩
def pS(a:LD):Option (List Ask):=
 (vA [] (⟨0,0,⟨a.Lj.Mem,a.Lj.Lu⟩,1,(-1),(-1),0⟩:Ask)).bind λx=>
 some x.1
def ahx:Spec fam:=⟨[QF],[ac],λa=>pS a.1⟩
def mB(c:Lv)(p:Int)(p1:List Int):Option (Bool×List Int):=
 (
 bif c.LD == p then
  (app 8 p1 [c.Id]).bind λl=>
  some l
 else
  some p1).bind λq=>
 some (c.LD == p,q)
def ag3:Spec fam:=⟨[QK,.rp (.int .i64),.box (.slice (.int .i64)) [0]],[gt],λa=>mB a.1 a.2.1 a.2.2.1⟩
def lC(s:List Nv)(f:(M7 fam [.st 8]→Option Bool))(t:Int):Option (Int ⊕ (Int ⊕ Unit)):=
 bif decide (t<(s.length:Int))then
 (idx s t).bind λx=>
 (f (x,())).bind λr=>
 bif r then
  some (.inr (.inl t))
 else
  some (.inl (Lx (t+1)))
 else
 some (.inr (.inr ()))
def lI(s:List Nv)(f:(M7 fam [.st 8]→Option Bool)):Option Int:=
 (loop (lC s f) 0).bind λq0=>
 match q0 with
 | .inl q=>
 some q
 | .inr _=>
 some (-1)
def agB:Spec fam:=⟨[.v (.slice (.st 8)) [],.fn [.st 8] .bool],[ge],λa=>lI a.1 a.2.1⟩
def lA(del:(M7 fam [.st 8]→Option Bool))(t:List Nv×Int×Int):Option ((List Nv×Int×Int) ⊕ ((List Nv×Int))):=
 bif decide (t.2.2<(t.1.length:Int))then
 (
  (MZ t.2.2 t.1.length).bind λi1=>
  (t.1[i1]?).bind λx=>
  (del (x,())).bind λr=>
  bif ! r then
  (MZ t.2.1 t.1.length).bind λi2=>
  (t.1[i2]?).bind λx1=>
  some (List.set t.1 i2 x,Lx (t.2.1+1))
  else
  some (t.1,t.2.1)).bind λq=>
 some (.inl (q.1,q.2,Lx (t.2.2+1)))
 else
 some (.inr (t.1,t.2.1))
def ng(s:List Nv)(del:(M7 fam [.st 8]→Option Bool)):Option (List Nv):=
 (lI s del).bind λi=>
 bif i == (-1)then
 some s
 else
 (loop (lA del) (s,i,Lx (i+1))).bind λq1=>
 (OQ q1.2 (q1.1.length:Int) q1.1.length).bind λp=>
 (OQ 0 q1.2 (Rn q1.1 p.1 p.2 (List.replicate p.2 (⟨0,0,0⟩:Nv))).length).bind λp1=>
 some (List.take p1.2 (Rn q1.1 p.1 p.2 (List.replicate p.2 (⟨0,0,0⟩:Nv))))
def ag2:Spec fam:=⟨[QE,.fn [.st 8] .bool],[QE],λa=>ng a.1 a.2.1⟩
def tY(x:Nv)(p:Int):Option Bool:=
 some (x.LD == p)
def ag1:Spec fam:=⟨[Qe,.rp (.int .i64)],[gt],λa=>tY a.1 a.2.1⟩
def mD(s:List Lv)(p:Int)(t:List Int×Int):Option ((List Int×Int) ⊕ ((List Int×Int) ⊕ List Int)):=
 bif decide (t.2<(s.length:Int))then
 (MZ t.2 s.length).bind λi=>
 (s[i]?).bind λx=>
 (mB x p t.1).bind λx1=>
 bif x1.1 then
  some (.inr (.inl (x1.2,t.2)))
 else
  some (.inl (x1.2,Lx (t.2+1)))
 else
 some (.inr (.inr (t.1)))
def rb(s:List Lv)(f:Unit)(p:Int)(p1:List Int):Option (Int×List Lv×List Int):=
 (loop (mD s p) (p1,0)).bind λq0=>
 match q0 with
 | .inl q=>
 some (q.2,s,q.1)
 | .inr s1=>
 some ((-1),s,s1)
def Hl:Spec fam:=⟨[.row (.st 7) false,.cl 201 2,.rp (.int .i64),.box (.slice (.int .i64)) [0]],[.v (.int .i64) []],λa=>rb a.1 a.2.1 a.2.2.1 a.2.2.2.1⟩
def jX(p:Int)(t:List Lv×List Int×Int×Int):Option ((List Lv×List Int×Int×Int) ⊕ ((List Lv×List Int×Int))):=
 bif decide (t.2.2.2<(t.1.length:Int))then
 (
  (MZ t.2.2.2 t.1.length).bind λi1=>
  (t.1[i1]?).bind λx=>
  (mB x p t.2.1).bind λx1=>
  bif ! x1.1 then
  (MZ t.2.2.1 t.1.length).bind λi2=>
  (t.1[i2]?).bind λx2=>
  some (List.set t.1 i2 x,x1.2,Lx (t.2.2.1+1))
  else
  some (t.1,x1.2,t.2.2.1)).bind λq=>
 some (.inl (q.1,q.2.1,q.2.2,Lx (t.2.2.2+1)))
 else
 some (.inr (t.1,t.2.1,t.2.2.1))
def mc(s:List Lv)(del:Unit)(p:Int)(p1:List Int):Option (List Lv×List Int):=
 (rb s () p p1).bind λi=>
 bif i.1 == (-1)then
 some (i.2.1,i.2.2)
 else
 (loop (jX p) (i.2.1,i.2.2,i.1,Lx (i.1+1))).bind λq1=>
 (OQ q1.2.2 (q1.1.length:Int) q1.1.length).bind λp2=>
 (OQ 0 q1.2.2 (Rn q1.1 p2.1 p2.2 (List.replicate p2.2 (⟨0,0,0,⟨0,0⟩,0,0,false,0⟩:Lv))).length).bind λp3=>
 some (List.take p3.2 (Rn q1.1 p2.1 p2.2 (List.replicate p2.2 (⟨0,0,0,⟨0,0⟩,0,0,false,0⟩:Lv))),q1.2.1)
def HN:Spec fam:=⟨[.v (.slice (.st 7)) [0],.cl 201 2,.rp (.int .i64),.box (.slice (.int .i64)) [0]],[.v (.slice (.st 7)) [0]],λa=>mc a.1 a.2.1 a.2.2.1 a.2.2.2.1⟩
def oA(s:JF)(N_:Int):Option (JF×List Int):=
 (mc s.Lc () N_ []).bind λx=>
 (ng s.LG (λa'=>tY a'.1 N_)).bind λx1=>
 some ((⟨⟨s.Lf.Lp,s.Lf.Lg⟩,s.Ls,s.Lr,x.1,x1,s.LU,s.Now,s.L9,s.Seq⟩:JF),x.2)
def ahw:Spec fam:=⟨[QV,ge],[QV,f8],λa=>oA a.1 a.2.1⟩
def rh(s:JF)(i:Int):Option JF:=
 (MZ i s.Lr.length).bind λi1=>
 (s.Lr[i1]?).bind λx=>
 (pS x).bind λx1=>
 (MZ i s.Lr.length).bind λi2=>
 bif Nat.beq i2 i1 then
 (s.Lr[i2]?).bind λx2=>
 (oA (⟨⟨s.Lf.Lp,s.Lf.Lg⟩,s.Ls,List.set s.Lr i2 (⟨x.Id,1,x.Lm,x.User,x.LA,⟨x.Lj.Mem,x.Lj.Lu⟩,x1,s.Now,0,[],[],[],[]⟩:LD),s.Lc,s.LG,s.LU,s.Now,s.L9,s.Seq⟩:JF) x.Id).bind λx3=>
 some x3.1
 else
 none
def amx:Spec fam:=⟨[QV,ge],[QV],λa=>rh a.1 a.2.1⟩
def om(s:List Lv)(i:Int)(j:Int):Option (List Lv):=del s i j
def amw:Spec fam:=⟨[QQ,ge,ge],[QQ],λa=>om a.1 a.2.1 a.2.2.1⟩
def dj(s:List Int)(v:Int)(t:Int):Option (Int ⊕ (Int ⊕ Unit)):=
 bif decide (t<(s.length:Int))then
 (idx s t).bind λx=>
 bif v == x then
  some (.inr (.inl t))
 else
  some (.inl (Lx (t+1)))
 else
 some (.inr (.inr ()))
def bw(s:List Int)(v:Int):Option Int:=
 (loop (dj s v) 0).bind λq0=>
 match q0 with
 | .inl q=>
 some q
 | .inr _=>
 some (-1)
def amv:Spec fam:=⟨[t6,ge],[ge],λa=>bw a.1 a.2.1⟩
def cz(s:List Int)(i:Int)(j:Int):Option (List Int):=del s i j
def amu:Spec fam:=⟨[f8,ge,ge],[f8],λa=>cz a.1 a.2.1 a.2.2.1⟩
def k_(ids:List Int)(t:JF×Int):Option ((JF×Int) ⊕ JF):=
 bif decide (t.2<(ids.length:Int))then
 (
  (idx ids t.2).bind λx1=>
  (iY t.1.Lc (λa'=>q_ a'.1 x1)).bind λk=>
  bif decide (k<0)then
  some t.1
  else
  (MZ k t.1.Lc.length).bind λi=>
  (t.1.Lc[i]?).bind λx2=>
  (o5 t.1 x2.LD).bind λi1=>
  (
   bif decide (i1≥0)then
   some x2.Lj
   else
   some false).bind λq=>
  bif q then
   (rh t.1 i1).bind λx3=>
   some x3
  else
   (om t.1.Lc k (Lx (k+1))).bind λx4=>
   bif decide (i1<0)then
   some (⟨⟨t.1.Lf.Lp,t.1.Lf.Lg⟩,t.1.Ls,t.1.Lr,x4,t.1.LG,t.1.LU,t.1.Now,t.1.L9,t.1.Seq⟩:JF)
   else
   (MZ i1 t.1.Lr.length).bind λi2=>
   (t.1.Lr[i2]?).bind λx5=>
   (
    (bw x5.Mv x1).bind λj=>
    bif decide (j≥0)then
    (cz x5.Mv j (Lx (j+1))).bind λx6=>
    some (⟨x5.Id,x5.JF,x5.Lm,x5.User,x5.LA,⟨x5.Lj.Mem,x5.Lj.Lu⟩,x5.Mr,x5.NZ,x5.Nf,x6,x5.Nr,x5.Told,x5.N7⟩:LD)
    else
    (app 8 x5.Nr [x1]).bind λl=>
    some (⟨x5.Id,x5.JF,x5.Lm,x5.User,x5.LA,⟨x5.Lj.Mem,x5.Lj.Lu⟩,x5.Mr,x5.NZ,x5.Nf,x5.Mv,l,x5.Told,x5.N7⟩:LD)).bind λa=>
   (MZ i1 t.1.Lr.length).bind λi3=>
   bif Nat.beq i3 i2 then
    (t.1.Lr[i3]?).bind λx7=>
    some (⟨⟨t.1.Lf.Lp,t.1.Lf.Lg⟩,t.1.Ls,List.set t.1.Lr i3 a,x4,t.1.LG,t.1.LU,t.1.Now,t.1.L9,t.1.Seq⟩:JF)
   else
    none).bind λs1=>
 some (.inl (s1,Lx (t.2+1)))
 else
 some (.inr t.1)
def mf(s:JF)(ids:List Int):Option JF:=
 (qp s).bind λx=>
 (loop (k_ ids) (x,0)).bind λs2=>
 (qp s2).bind λx8=>
 some x8
def h36:Hint:=(Qf (.s .z (.s (Qf ((Qg [(2,QG),(16,ge)] [2,6,7,8,9,10,11,13,16,40] [(2,[(2,QG)])] (Qf (.s .z (.s (.j [2,6,7,8,9,10,11,40] [(0,[(2,QG)])] (.b (Qf (.s .z (Qf (.s .z (Qf (.s Qp (Qf (.s .z (Qf (.s (.j [10,11] [(0,[(10,QR)])] .z) .z)))))))))))) .z)))))) .z)))
def anq:Spec fam:=⟨[f0,t6],[QV],λa=>mf a.1 a.2.1⟩
def oY(x:Lv)(p:Lv):Option Bool:=
 some (x.Id == p.Id)
def ams:Spec fam:=⟨[QK,.rp (.st 7)],[gt],λa=>oY a.1 a.2.1⟩
def nQ(c:Lv)(label:Int)(now:Int):Option Bool:=
 bif c.Ll == label then
 bif c.ME != 0 then
  some (decide ((Lx (now - c.ME))≥3))
 else
  some false
 else
 some false
def amr:Spec fam:=⟨[QK,ge,ge],[gt],λa=>nQ a.1 a.2.1 a.2.2.1⟩
def ma(s:List MC)(f:(M7 fam [.st 16]→Option Bool))(t:Int):Option (Int ⊕ (Int ⊕ Unit)):=
 bif decide (t<(s.length:Int))then
 (idx s t).bind λx=>
 (f (x,())).bind λr=>
 bif r then
  some (.inr (.inl t))
 else
  some (.inl (Lx (t+1)))
 else
 some (.inr (.inr ()))
def mA(s:List MC)(f:(M7 fam [.st 16]→Option Bool)):Option Int:=
 (loop (ma s f) 0).bind λq0=>
 match q0 with
 | .inl q=>
 some q
 | .inr _=>
 some (-1)
def ahv:Spec fam:=⟨[.v (.slice (.st 16)) [],.fn [.st 16] .bool],[ge],λa=>mA a.1 a.2.1⟩
def n7(x:MC)(p:LD):Option Bool:=
 some (x.LC == p.Lm)
def ahu:Spec fam:=⟨[.v (.st 16) [],.rp (.st 6)],[gt],λa=>n7 a.1 a.2.1⟩
def lz(s:JF)(c:Lv)(t:Int×Int):Option ((Int×Int) ⊕ Int):=
 bif decide (t.2<(s.Lc.length:Int))then
 (
  (idx s.Lc t.2).bind λx2=>
  (
  bif c.Lj then
   bif x2.LD == c.LD then
   bif x2.Id != c.Id then
    some (x2.Ll == c.Ll)
   else
    some false
   else
   some false
  else
   some false).bind λq=>
  bif q then
  let used:=Lx (t.1 - x2.LV.Mem)
  some used
  else
  some t.1).bind λafO=>
 some (.inl (afO,Lx (t.2+1)))
 else
 some (.inr t.1)
def lO(s:JF)(c:Lv):Option Bool:=
 (pz s c.LD).bind λx=>
 (jK s x.1.Lm c.Ll).bind λx1=>
 (loop (lz s c) (x1.Mem,0)).bind λafN=>
 (kW s c.Ll).bind λl=>
 (mA l (λa'=>n7 a'.1 x.1)).bind λi=>
 bif decide (i≥0)then
 (MZ i l.length).bind λi1=>
 (l[i1]?).bind λx3=>
 some (decide (afN>x3.Mem))
 else
 some false
def ait:Spec fam:=⟨[f0,QK],[gt],λa=>lO a.1 a.2.1⟩
def jP(label:Int)(x1:Lv)(s1:JF):Option JF:=
 (iY s1.Lc (λa'=>oY a'.1 x1)).bind λi=>
 (
 bif decide (i<0)then
  some true
 else
  (MZ i s1.Lc.length).bind λi1=>
  (s1.Lc[i1]?).bind λx2=>
  (nQ x2 label s1.Now).bind λx3=>
  some (! x3)).bind λq=>
 bif q then
 some s1
 else
 (lO s1 x1).bind λx4=>
 bif x4 then
  (mf s1 [x1.Id]).bind λx5=>
  some x5
 else
  (MZ i s1.Lc.length).bind λi2=>
  (s1.Lc[i2]?).bind λx6=>
  some (⟨⟨s1.Lf.Lp,s1.Lf.Lg⟩,s1.Ls,s1.Lr,List.set s1.Lc i2 (⟨x6.Id,x6.LD,x6.LB,⟨x6.LV.Mem,x6.LV.Lu⟩,x6.LA,x6.Ll,x6.Lj,0⟩:Lv),s1.LG,s1.LU,s1.Now,s1.L9,s1.Seq⟩:JF)
def mC(s:JF)(label:Int):Option JF:=
 (mr s.Lc).bind λx=>
 (ZK (jP label) x s).bind λs2=>
 some s2
def k37:Ks:=[(2,QG)]
def apE:List Nat:=[2,6,7,13,14,15,16,17,18,19,20,21,22,23,24,25,26,27,28,29,30,31,32,33,34,35,36,37,38,39,40,41,42,43,44,45,46]
def h37:Hint:=(.b (Qf (.b (.s (.j [23,24,25,26,27,28,29,30,31,32,33,34,35,36,37] [(0,[(23,gt)])] .z) .z))))
def anp:Spec fam:=⟨[QV,ge],[QV],λa=>mC a.1 a.2.1⟩
def nR(x:Lv)(p:Int):Option Bool:=
 some (x.Id == p)
def anm:Spec fam:=⟨[QK,.rp (.int .i64)],[gt],λa=>nR a.1 a.2.1⟩
def qC(s:List Lv)(f:(M7 fam [.st 7]→Option Bool)):Option Bool:=
 (iY s f).bind λx=>
 some (decide (x≥0))
def anl:Spec fam:=⟨[Q9,.fn [.st 7] .bool],[gt],λa=>qC a.1 a.2.1⟩
def ox(x:Lv)(p:Lv):Option Bool:=
 some (x.Id == p.Id)
def ank:Spec fam:=⟨[QK,.rp (.st 7)],[gt],λa=>ox a.1 a.2.1⟩
def fy(s:List Int):Option (List Int):=VL s
def anj:Spec fam:=⟨[QO],[],λa=>fy a.1⟩
def jb(s:JF)(t3:JF)(t4:List Int×Int):Option ((List Int×Int) ⊕ List Int):=
 bif decide (t4.2<(s.Lc.length:Int))then
 (
  (idx s.Lc t4.2).bind λx5=>
  (qC t3.Lc (λa'=>ox a'.1 x5)).bind λx6=>
  bif ! x6 then
  (app 8 t4.1 [x5.Id]).bind λl=>
  some l
  else
  some t4.1).bind λgone=>
 some (.inl (gone,Lx (t4.2+1)))
 else
 some (.inr t4.1)
def ji(x2:List Int)(t1:JF×Int):Option ((JF×Int) ⊕ JF):=
 bif decide (t1.2<(x2.length:Int))then
 (MZ t1.2 x2.length).bind λi=>
 (x2[i]?).bind λx3=>
 (iY t1.1.Lc (λa'=>nR a'.1 x3)).bind λi1=>
 (MZ i1 t1.1.Lc.length).bind λi2=>
 (t1.1.Lc[i2]?).bind λx4=>
 some (.inl ((⟨⟨t1.1.Lf.Lp,t1.1.Lf.Lg⟩,t1.1.Ls,t1.1.Lr,List.set t1.1.Lc i2 (⟨x4.Id,x4.LD,x4.LB,⟨x4.LV.Mem,x4.LV.Lu⟩,x4.LA,x4.Ll,x4.Lj,imax t1.1.Now 1⟩:Lv),t1.1.LG,t1.1.LU,t1.1.Now,t1.1.L9,t1.1.Seq⟩:JF),Lx (t1.2+1)))
 else
 some (.inr t1.1)
def jc(s:JF)(t:JF×Int):Option ((JF×Int) ⊕ JF):=
 bif decide (t.2<(s.Lf.Lp.length:Int))then
 (mC t.1 t.2).bind λx1=>
 (mi x1 t.2).bind λx2=>
 (loop (ji x2) (x1,0)).bind λt2=>
 some (.inl (t2,Lx (t.2+1)))
 else
 some (.inr t.1)
def lJ(s:JF):Option (JF×List Int):=
 (mf s []).bind λx=>
 (loop (jc s) (x,0)).bind λt3=>
 (loop (jb s t3) ([],0)).bind λakN=>
 (fy akN).bind λx7=>
 some (t3,x7)
def anP:Spec fam:=⟨[f0],[QV,f8],λa=>lJ a.1⟩
def iD(x2:Lm)(x3:Lm)(k:Int):Option (Int ⊕ (Bool ⊕ Unit)):=
 bif decide (k<(x2.MR.length:Int))then
 (idx x2.MR k).bind λx4=>
 (idx x3.MR k).bind λx5=>
 bif ! ((x4.Oe == x5.Oe)&&(x4.Most == x5.Most))then
  some (.inr (.inl false))
 else
  some (.inl (Lx (k+1)))
 else
 some (.inr (.inr ()))
def ie(a:Lf)(b:Lf)(i1:Int):Option (Int ⊕ (Bool ⊕ Unit)):=
 bif decide (i1<(a.Lg.length:Int))then
 (idx a.Lg i1).bind λx2=>
 (idx b.Lg i1).bind λx3=>
 (
  bif ! (x2.LC == x3.LC)then
  some true
  else
  bif x2.User != x3.User then
   some true
  else
   some ((x2.MR.length:Int) != (x3.MR.length:Int))).bind λq2=>
 bif q2 then
  some (.inr (.inl false))
 else
  (loop (iD x2 x3) 0).bind λq0=>
  match q0 with
  | .inl q3=>
  some (.inr (.inl q3))
  | .inr _=>
  some (.inl (Lx (i1+1)))
 else
 some (.inr (.inr ()))
def il(a:Lf)(b:Lf)(i:Int):Option (Int ⊕ (Bool ⊕ Unit)):=
 bif decide (i<(a.Lp.length:Int))then
 (idx a.Lp i).bind λx=>
 (idx b.Lp i).bind λx1=>
 bif ! (x == x1)then
  some (.inr (.inl false))
 else
  some (.inl (Lx (i+1)))
 else
 some (.inr (.inr ()))
def kK(a:Lf)(b:Lf):Option Bool:=
 (
 bif(a.Lp.length:Int) != (b.Lp.length:Int)then
  some true
 else
  some ((a.Lg.length:Int) != (b.Lg.length:Int))).bind λq=>
 bif q then
 some false
 else
 (loop (il a b) 0).bind λq0=>
 match q0 with
 | .inl q1=>
  some q1
 | .inr _=>
  (loop (ie a b) 0).bind λq0=>
  match q0 with
  | .inl q4=>
  some q4
  | .inr _=>
  some true
def h46:Hint:=(Qf (.s Qw (.s Qk (.s (Qf ((Qg [(6,ge)] [4,6,7,8,9,81] [(1,[(4,gt)]),(4,[])] (Qf (.s (.b (Qf (.s (.s (.j [] [(0,[(81,gt)])] .z) .z) (Qf ((Qg [(9,ge)] [4,9] [(1,[(4,gt)]),(6,[])] .z)))))) .z))))) .z))))
def anf:Spec fam:=⟨[QI,QI],[gt],λa=>kK a.1 a.2.1⟩
def gA(a:List Int)(b:List Int)(i:Int):Option (Int ⊕ (Bool ⊕ Unit)):=
 bif decide (i<(a.length:Int))then
 (idx a i).bind λx=>
 (idx b i).bind λx1=>
 bif x != x1 then
  some (.inr (.inl false))
 else
  some (.inl (Lx (i+1)))
 else
 some (.inr (.inr ()))
def cE(a:List Int)(b:List Int):Option Bool:=
 bif(a.length:Int) != (b.length:Int)then
 some false
 else
 (loop (gA a b) 0).bind λq0=>
 match q0 with
 | .inl q=>
  some q
 | .inr _=>
  some true
def aiq:Spec fam:=⟨[t6,t6],[gt],λa=>cE a.1 a.2.1⟩
def ir(a:LD)(b:LD)(i:Int):Option (Int ⊕ (Bool ⊕ Unit)):=
 bif decide (i<(a.Mr.length:Int))then
 (idx a.Mr i).bind λx=>
 (idx b.Mr i).bind λx1=>
 bif ! ((x.LA == x1.LA)&&((x.Ll == x1.Ll)&&(((x.LV.Mem == x1.LV.Mem)&&(x.LV.Lu == x1.LV.Lu))&&((x.Mw == x1.Mw)&&((x.LB == x1.LB)&&((x.Oj == x1.Oj)&&(x.RX == x1.RX)))))))then
  some (.inr (.inl false))
 else
  some (.inl (Lx (i+1)))
 else
 some (.inr (.inr ()))
def kx(a:LD)(b:LD):Option Bool:=
 (
 bif a.Id != b.Id then
  some true
 else
  bif a.JF != b.JF then
  some true
  else
  bif ! (a.Lm == b.Lm)then
   some true
  else
   bif a.User != b.User then
   some true
   else
   bif a.LA != b.LA then
    some true
   else
    bif ! ((a.Lj.Mem == b.Lj.Mem)&&(a.Lj.Lu == b.Lj.Lu))then
    some true
    else
    bif a.NZ != b.NZ then
     some true
    else
     bif a.Nf != b.Nf then
     some true
     else
     some ((a.Mr.length:Int) != (b.Mr.length:Int))).bind λq=>
 bif q then
 some false
 else
 (loop (ir a b) 0).bind λq0=>
 match q0 with
 | .inl q1=>
  some q1
 | .inr _=>
  (cE a.Mv b.Mv).bind λx2=>
  bif x2 then
  (cE a.Nr b.Nr).bind λx3=>
  bif x3 then
   (cE a.Told b.Told).bind λx4=>
   bif x4 then
   (cE a.N7 b.N7).bind λx5=>
   some x5
   else
   some false
  else
   some false
  else
  some false
def ane:Spec fam:=⟨[QF,QF],[gt],λa=>kx a.1 a.2.1⟩
def gK(a:JF)(b:JF)(t4:Bool×Int):Option ((Bool×Int) ⊕ Bool):=
 bif decide (t4.2<(a.LU.length:Int))then
 (
  bif t4.1 then
  (idx a.LU t4.2).bind λx10=>
  (idx b.LU t4.2).bind λPK=>
  let ac0:=(x10.Id == PK.Id)&&((x10.Ll == PK.Ll)&&((x10.From == PK.From)&&((x10.Until == PK.Until)&&((x10.Need.Mem == PK.Need.Mem)&&(x10.Need.Lu == PK.Need.Lu)))))
  some ac0
  else
  some false).bind λaam=>
 some (.inl (aam,Lx (t4.2+1)))
 else
 some (.inr t4.1)
def gk(a:JF)(b:JF)(t3:Bool×Int):Option ((Bool×Int) ⊕ Bool):=
 bif decide (t3.2<(a.LG.length:Int))then
 (
  bif t3.1 then
  (idx a.LG t3.2).bind λx8=>
  (idx b.LG t3.2).bind λx9=>
  let ok8:=(x8.LB == x9.LB)&&((x8.LD == x9.LD)&&(x8.LA == x9.LA))
  some ok8
  else
  some false).bind λok9=>
 some (.inl (ok9,Lx (t3.2+1)))
 else
 some (.inr t3.1)
def gm(a:JF)(b:JF)(t2:Bool×Int):Option ((Bool×Int) ⊕ Bool):=
 bif decide (t2.2<(a.Lc.length:Int))then
 (
  bif t2.1 then
  (idx a.Lc t2.2).bind λx6=>
  (idx b.Lc t2.2).bind λx7=>
  let ok5:=(x6.Id == x7.Id)&&((x6.LD == x7.LD)&&((x6.LB == x7.LB)&&(((x6.LV.Mem == x7.LV.Mem)&&(x6.LV.Lu == x7.LV.Lu))&&((x6.LA == x7.LA)&&((x6.Ll == x7.Ll)&&((x6.Lj == x7.Lj)&&(x6.ME == x7.ME)))))))
  some ok5
  else
  some false).bind λok6=>
 some (.inl (ok6,Lx (t2.2+1)))
 else
 some (.inr t2.1)
def gv(a:JF)(b:JF)(t1:Bool×Int):Option ((Bool×Int) ⊕ Bool):=
 bif decide (t1.2<(a.Lr.length:Int))then
 (
  bif t1.1 then
  (idx a.Lr t1.2).bind λx3=>
  (idx b.Lr t1.2).bind λx4=>
  (kx x3 x4).bind λx5=>
  some x5
  else
  some false).bind λok3=>
 some (.inl (ok3,Lx (t1.2+1)))
 else
 some (.inr t1.1)
def gE(a:JF)(b:JF)(t:Bool×Int):Option ((Bool×Int) ⊕ Bool):=
 bif decide (t.2<(a.Ls.length:Int))then
 (
  bif t.1 then
  (idx a.Ls t.2).bind λx1=>
  (idx b.Ls t.2).bind λx2=>
  let ok:=(x1.Id == x2.Id)&&((x1.Ll == x2.Ll)&&((x1.Oj == x2.Oj)&&(((x1.Cap.Mem == x2.Cap.Mem)&&(x1.Cap.Lu == x2.Cap.Lu))&&((x1.NZ == x2.NZ)&&((x1.Nf == x2.Nf)&&(x1.Up == x2.Up))))))
  some ok
  else
  some false).bind λok1=>
 some (.inl (ok1,Lx (t.2+1)))
 else
 some (.inr t.1)
def jL(a:JF)(b:JF):Option Bool:=
 (
 (kK a.Lf b.Lf).bind λx=>
 bif ! x then
  some true
 else
  bif a.Now != b.Now then
  some true
  else
  bif a.L9 != b.L9 then
   some true
  else
   bif a.Seq != b.Seq then
   some true
   else
   bif(a.Ls.length:Int) != (b.Ls.length:Int)then
    some true
   else
    bif(a.Lr.length:Int) != (b.Lr.length:Int)then
    some true
    else
    bif(a.Lc.length:Int) != (b.Lc.length:Int)then
     some true
    else
     bif(a.LG.length:Int) != (b.LG.length:Int)then
     some true
     else
     some ((a.LU.length:Int) != (b.LU.length:Int))).bind λq=>
 bif q then
 some false
 else
 (loop (gE a b) (true,0)).bind λok2=>
 (loop (gv a b) (ok2,0)).bind λok4=>
 (loop (gm a b) (ok4,0)).bind λok7=>
 (loop (gk a b) (ok7,0)).bind λaan=>
 (loop (gK a b) (aan,0)).bind λacZ=>
 some acZ
def anN:Spec fam:=⟨[f0,f0],[gt],λa=>jL a.1 a.2.1⟩
def kH:Option JF:=
 some (⟨⟨[([]:List UInt8)],[(⟨([114,111,111,116]:List UInt8),[(⟨10000,10000⟩:Cap)],10000⟩:Lm)]⟩,[],[],[],[],[],0,0,0⟩:JF)
noncomputable def anH:Spec fam:=⟨[],[.v (.st 10) [0,1,2,3,4,5,6]],λ_=>kH⟩
def jF:Option Bool:=
 (kH).bind λx=>
 (lJ x).bind λx1=>
 (jL x x1.1).bind λx2=>
 bif x2 then
 bif(x1.2.length:Int) == 0 then
  (mi x 0).bind λx3=>
  bif(x3.length:Int) == 0 then
  some ((x1.1.Lf.Lg.length:Int) == 1)
  else
  some false
 else
  some false
 else
 some false
def h5:Hint:=.z
noncomputable def sp5:Spec fam:=⟨[],[gt],λ_=>jF⟩
def cP(x:Script):Option Bool:=
 bif decide ((x.Ns.length:Int)≤30)then
 some (decide ((x.Ux.length:Int)≤80))
 else
 some false
def h6:Hint:=.z
def sp6:Spec fam:=⟨[.v (.st 12) []],[gt],λa=>cP a.1⟩
def cM(at_:Int)(n:Int):Option Int:=
 (nz n).bind λ_=>
 (
 bif decide ((Int.tmod at_ n)<0)then
  let k:=Lx ((Int.tmod at_ n)+n)
  some k
 else
  some (Int.tmod at_ n)).bind λk1=>
 some k1
def anG:Spec fam:=⟨[ge,ge],[ge],λa=>cM a.1 a.2.1⟩
def mP(s:JF)(marks:List Int)(t:List Lv×Int):Option ((List Lv×Int) ⊕ List Lv):=
 (
 bif decide (t.2<(marks.length:Int))then
  bif decide (t.2<10)then
  some (decide ((t.1.length:Int)>0))
  else
  some false
 else
  some false).bind λq=>
 bif q then
 (idx marks t.2).bind λx=>
 (cM x (t.1.length:Int)).bind λx1=>
 (idx marks t.2).bind λx2=>
 (cM (Lx (Int.tdiv x2 7)) (Lx (s.Now+1))).bind λx3=>
 (MZ x1 t.1.length).bind λi=>
 (t.1[i]?).bind λx4=>
 some (.inl (List.set t.1 i (⟨x4.Id,x4.LD,x4.LB,⟨x4.LV.Mem,x4.LV.Lu⟩,x4.LA,x4.Ll,x4.Lj,Lx (1+x3)⟩:Lv),Lx (t.2+1)))
 else
 some (.inr t.1)
def jE(s:JF)(marks:List Int)(more:Int):Option JF:=
 (app 72 [] s.Lc).bind λl=>
 (loop (mP s marks) (l,0)).bind λl1=>
 (cM more 6).bind λx5=>
 some (⟨⟨s.Lf.Lp,s.Lf.Lg⟩,s.Ls,s.Lr,l1,s.LG,s.LU,Lx ((Lx (s.Now+1))+x5),s.L9,s.Seq⟩:JF)
def h7:Hint:=(Qf (.s .z (.s (Qf ((Qg [(7,Q4),(8,ge)] [7,8,25] [(2,[(7,Q4)])] (.s Qw .z)))) .z)))
def sp7:Spec fam:=⟨[f0,t6,ge],[.v (.st 10) [4]],λa=>jE a.1 a.2.1 a.2.2.1⟩
def iA(s:List UInt8)(i:Int):Option (Int ⊕ (Bool ⊕ Unit)):=
 bif decide (i<(s.length:Int))then
 (idx s i).bind λch=>
 (
  bif decide ((ch.toNat:Int)<97)then
  bif decide ((ch.toNat:Int)<48)then
   some ((ch.toNat:Int) != 45)
  else
   bif decide ((ch.toNat:Int)>57)then
   some ((ch.toNat:Int) != 45)
   else
   some false
  else
  bif decide ((ch.toNat:Int)>122)then
   bif decide ((ch.toNat:Int)<48)then
   some ((ch.toNat:Int) != 45)
   else
   bif decide ((ch.toNat:Int)>57)then
    some ((ch.toNat:Int) != 45)
   else
    some false
  else
   some false).bind λq1=>
 bif q1 then
  some (.inr (.inl false))
 else
  some (.inl (Lx (i+1)))
 else
 some (.inr (.inr ()))
def cS(s:List UInt8):Option Bool:=
 (
 bif decide ((s.length:Int)<1)then
  some true
 else
  some (decide ((s.length:Int)>12))).bind λq=>
 bif q then
 some false
 else
 (loop (iA s) 0).bind λq0=>
 match q0 with
 | .inl q2=>
  some q2
 | .inr _=>
  some true
def ahr:Spec fam:=⟨[ne],[gt],λa=>cS a.1⟩
def mZ(c:Lf)(i1:Int)(k:Int):Option (Int ⊕ (Int ⊕ Unit)):=
 bif decide (k<i1)then
 (idx c.Lp i1).bind λx3=>
 (idx c.Lp k).bind λx4=>
 bif x3 == x4 then
  some (.inr (.inl 7))
 else
  some (.inl (Lx (k+1)))
 else
 some (.inr (.inr ()))
def kt(c:Lf)(i1:Int):Option (Int ⊕ (Int ⊕ Unit)):=
 bif decide (i1<(c.Lp.length:Int))then
 (loop (mZ c i1) 1).bind λq0=>
 match q0 with
 | .inl q2=>
  some (.inr (.inl q2))
 | .inr _=>
  some (.inl (Lx (i1+1)))
 else
 some (.inr (.inr ()))
def ku(c:Lf)(i:Int):Option (Int ⊕ (Int ⊕ Unit)):=
 bif decide (i<(c.Lp.length:Int))then
 (idx c.Lp i).bind λx1=>
 (cS x1).bind λx2=>
 bif ! x2 then
  some (.inr (.inl 12))
 else
  some (.inl (Lx (i+1)))
 else
 some (.inr (.inr ()))
def ci(c:Lf):Option Int:=
 (
 bif decide ((c.Lp.length:Int)<1)then
  some true
 else
  bif decide ((c.Lp.length:Int)>3)then
  some true
  else
  some (decide ((c.Lg.length:Int)>16))).bind λq=>
 bif q then
 some 4
 else
 (idx c.Lp 0).bind λx=>
 bif ! (x == ([]:List UInt8))then
  some 12
 else
  (loop (ku c) 1).bind λq0=>
  match q0 with
  | .inl q1=>
  some q1
  | .inr _=>
  (loop (kt c) 1).bind λq0=>
  match q0 with
  | .inl q3=>
   some q3
  | .inr _=>
   some 0
def aip:Spec fam:=⟨[QI],[ge],λa=>ci a.1⟩
def dV(c:Lf)(Ld:List UInt8)(t:Lm×Int):Option ((Lm×Int) ⊕ ((Lm×Bool) ⊕ Lm)):=
 bif decide (t.2<(c.Lg.length:Int))then
 (idx c.Lg t.2).bind λx=>
 bif x.LC == Ld then
  (idx c.Lg t.2).bind λx1=>
  (app 16 [] x1.MR).bind λl=>
  some (.inr (.inl ((⟨x1.LC,l,x1.User⟩:Lm),true)))
 else
  some (.inl (t.1,Lx (t.2+1)))
 else
 some (.inr (.inr (t.1)))
def bP(c:Lf)(Ld:List UInt8):Option (Lm×Bool):=
 (loop (dV c Ld) ((⟨[],[],0⟩:Lm),0)).bind λq0=>
 match q0 with
 | .inl q=>
 some (q.1,q.2)
 | .inr q1=>
 some ((⟨[],[],0⟩:Lm),false)
def aik:Spec fam:=⟨[QI,ne],[.v (.st 2) [1],gt],λa=>bP a.1 a.2.1⟩
def la(Ld:List UInt8)(k1:Int):Option (Int ⊕ Int):=
 (
 bif decide (k1≥0)then
  (idx Ld k1).bind λch=>
  some ((ch.toNat:Int) != 46)
 else
  some false).bind λq=>
 bif q then
 some (.inl (Lx (k1 - 1)))
 else
 some (.inr k1)
def dH(Ld:List UInt8):Option (List UInt8):=
 let k:=Lx ((Ld.length:Int) - 1)
 (loop (la Ld) k).bind λk2=>
 bif decide (k2<0)then
 some ([]:List UInt8)
 else
 (slc Ld 0 k2).bind λs=>
 some s
def ahU:Spec fam:=⟨[ne],[ne],λa=>dH a.1⟩
def ca(s:List UInt8)(t:Int×Int×Int):Option ((Int×Int×Int) ⊕ (Bool ⊕ Int)):=
 bif decide (t.2.2≤(s.length:Int))then
 (
  (
  bif decide (t.2.2<(s.length:Int))then
   (idx s t.2.2).bind λch=>
   some ((ch.toNat:Int) != 46)
  else
   some false).bind λq=>
  bif q then
  some (.inl (t.1,t.2.1))
  else
  (
   (slc s t.1 t.2.2).bind λs1=>
   (cS s1).bind λx=>
   bif ! x then
   some true
   else
   bif t.2.1 == 0 then
    (slc s t.1 t.2.2).bind λs2=>
    some (! (s2 == ([114,111,111,116]:List UInt8)))
   else
    some false).bind λq1=>
  bif q1 then
   some (.inr false)
  else
   some (.inl (Lx (t.2.2+1),Lx (t.2.1+1))):Option ((Int×Int) ⊕ Bool)).bind λq0=>
 match q0 with
 | .inl q2=>
  some (.inl (q2.1,q2.2,Lx (t.2.2+1)))
 | .inr q3=>
  some (.inr (.inl q3))
 else
 some (.inr (.inr (t.2.1)))
def cY(s:List UInt8):Option Bool:=
 (loop (ca s) (0,0,0)).bind λq0=>
 match q0 with
 | .inl q4=>
 some q4
 | .inr n=>
 some (decide (n≤4))
def ahq:Spec fam:=⟨[ne],[gt],λa=>cY a.1⟩
def lh(x:Lm)(k:Int):Option (Int ⊕ (Int ⊕ Unit)):=
 bif decide (k<(x.MR.length:Int))then
 (idx x.MR k).bind λx5=>
 (
  bif decide (x5.Oe<0)then
  some true
  else
  bif decide (x5.Oe>10000)then
   some true
  else
   bif decide (x5.Most<0)then
   some true
   else
   bif decide (x5.Most>10000)then
    some true
   else
    some (decide (x5.Oe>x5.Most))).bind λq3=>
 bif q3 then
  some (.inr (.inl 1))
 else
  some (.inl (Lx (k+1)))
 else
 some (.inr (.inr ()))
def cD(c:Lf)(i:Int):Option Int:=
 (idx c.Lg i).bind λx=>
 (cY x.LC).bind λx1=>
 bif ! x1 then
 some 12
 else
 (
  bif decide (i>0)then
  (idx c.Lg (Lx (i - 1))).bind λx2=>
  some (SG x.LC x2.LC)
  else
  some false).bind λq=>
 bif q then
  some 7
 else
  (dH x.LC).bind λx3=>
  (bP c x3).bind λx4=>
  (
  bif decide (i>0)then
   some (! x4.2)
  else
   some false).bind λq1=>
  bif q1 then
  some 12
  else
  (
   bif decide (x.User<1)then
   some true
   else
   bif decide (x.User>1000000)then
    some true
   else
    some ((x.MR.length:Int) != (c.Lp.length:Int))).bind λq2=>
  bif q2 then
   some 1
  else
   (loop (lh x) 0).bind λq0=>
   match q0 with
   | .inl q4=>
   some q4
   | .inr _=>
   some 0
def aio:Spec fam:=⟨[QI,ge],[ge],λa=>cD a.1 a.2.1⟩
def iF(c:Lf)(Ld:List UInt8)(t:List (List UInt8)×Int):Option ((List (List UInt8)×Int) ⊕ List (List UInt8)):=
 bif decide (t.2<(c.Lg.length:Int))then
 (
  (
  bif ! (Ld == ([]:List UInt8))then
   (idx c.Lg t.2).bind λx=>
   (dH x.LC).bind λx1=>
   some (x1 == Ld)
  else
   some false).bind λq=>
  bif q then
  (idx c.Lg t.2).bind λx2=>
  (app 16 t.1 [x2.LC]).bind λl=>
  some l
  else
  some t.1).bind λl1=>
 some (.inl (l1,Lx (t.2+1)))
 else
 some (.inr t.1)
def cb(c:Lf)(Ld:List UInt8):Option (List (List UInt8)):=
 (loop (iF c Ld) ([],0)).bind λl2=>
 some l2
def amV:Spec fam:=⟨[QI,ne],[f9],λa=>cb a.1 a.2.1⟩
def iN(c:Lf)(kids:List (List UInt8))(k:Int)(t:Int×Int):Option ((Int×Int) ⊕ Int):=
 bif decide (t.2<(kids.length:Int))then
 (MZ t.2 kids.length).bind λi1=>
 (kids[i1]?).bind λx1=>
 (bP c x1).bind λx2=>
 (MZ k x2.1.MR.length).bind λi2=>
 (x2.1.MR[i2]?).bind λx3=>
 let n:=Lx (t.1+x3.Oe)
 some (.inl (n,Lx (t.2+1)))
 else
 some (.inr t.1)
def n9(c:Lf)(kids:List (List UInt8))(k:Int):Option (Int ⊕ (Bool ⊕ Unit)):=
 (
 bif decide (k<(c.Lp.length:Int))then
  some (decide ((kids.length:Int)>0))
 else
  some false).bind λq=>
 bif q then
 (loop (iN c kids k) (0,0)).bind λn1=>
 bif n1 != 10000 then
  some (.inr (.inl false))
 else
  some (.inl (Lx (k+1)))
 else
 some (.inr (.inr ()))
def d7(c:Lf)(i:Int):Option (Int ⊕ (Bool ⊕ Unit)):=
 bif decide (i<(c.Lg.length:Int))then
 (idx c.Lg i).bind λx=>
 (cb c x.LC).bind λkids=>
 (loop (n9 c kids) 0).bind λq0=>
 match q0 with
 | .inl q1=>
  some (.inr (.inl q1))
 | .inr _=>
  some (.inl (Lx (i+1)))
 else
 some (.inr (.inr ()))
def eF(c:Lf):Option Bool:=
 (loop (d7 c) 0).bind λq0=>
 match q0 with
 | .inl q2=>
 some q2
 | .inr _=>
 some true
def ain:Spec fam:=⟨[QI],[gt],λa=>eF a.1⟩
def dG(c:Lf)(k:Int):Option (Int ⊕ (Int ⊕ Unit)):=
 bif decide (k<(c.Lp.length:Int))then
 (idx c.Lg 0).bind λx5=>
 (idx x5.MR k).bind λx6=>
 bif ! ((x6.Oe == 10000)&&(x6.Most == 10000))then
  some (.inr (.inl 13))
 else
  some (.inl (Lx (k+1)))
 else
 some (.inr (.inr ()))
def dt(c:Lf)(i:Int):Option (Int ⊕ (Int ⊕ Unit)):=
 bif decide (i<(c.Lg.length:Int))then
 (cD c i).bind λx3=>
 bif x3 != 0 then
  (cD c i).bind λx4=>
  some (.inr (.inl x4))
 else
  some (.inl (Lx (i+1)))
 else
 some (.inr (.inr ()))
def bH(c:Lf):Option Int:=
 (ci c).bind λx=>
 bif x != 0 then
 (ci c).bind λx1=>
 some x1
 else
 (
  bif(c.Lg.length:Int) == 0 then
  some true
  else
  (idx c.Lg 0).bind λx2=>
  some (! (x2.LC == ([114,111,111,116]:List UInt8)))).bind λq=>
 bif q then
  some 12
 else
  (loop (dt c) 0).bind λq0=>
  match q0 with
  | .inl q1=>
  some q1
  | .inr _=>
  (loop (dG c) 0).bind λq0=>
  match q0 with
  | .inl q2=>
   some q2
  | .inr _=>
   (eF c).bind λx7=>
   bif ! x7 then
   some 13
   else
   some 0
def anb:Spec fam:=⟨[QI],[ge],λa=>bH a.1⟩
def aY(a:LD):Option Bool:=
 bif a.JF == 1 then
 some true
 else
 some (a.JF == 2)
def am_:Spec fam:=⟨[QF],[gt],λa=>aY a.1⟩
def eH(c:Lf)(Ld:List UInt8):Option Bool:=
 (bP c Ld).bind λx=>
 bif x.2 then
 (cb c Ld).bind λx1=>
 some ((x1.length:Int) == 0)
 else
 some false
def am9:Spec fam:=⟨[QI,ne],[gt],λa=>eH a.1 a.2.1⟩
def aI(s:JF)(e:Int):Option (JF×Output):=
 some (s,(⟨e,[],[],[],0⟩:Output))
def amY:Spec fam:=⟨[f0,ge],[f0,QS],λa=>aI a.1 a.2.1⟩
def lY(s:List UInt8)(c:Int)(t:List (List UInt8)×Int×Int):Option ((List (List UInt8)×Int×Int) ⊕ ((List (List UInt8)×Int))):=
 bif decide (t.2.2<(s.length:Int))then
 (
  (idx s t.2.2).bind λch=>
  bif(ch.toNat:Int) == c then
  (slc s t.2.1 t.2.2).bind λs1=>
  (app 16 t.1 [s1]).bind λl=>
  some (l,Lx (t.2.2+1))
  else
  some (t.1,t.2.1)).bind λq=>
 some (.inl (q.1,q.2,Lx (t.2.2+1)))
 else
 some (.inr (t.1,t.2.1))
def jk(s:List UInt8)(c:Int):Option (List (List UInt8)):=
 (loop (lY s c) ([],0,0)).bind λq1=>
 (
 bif decide (q1.2<(s.length:Int))then
  (slc s q1.2 (s.length:Int)).bind λs2=>
  (app 16 q1.1 [s2]).bind λl1=>
  some l1
 else
  some q1.1).bind λl2=>
 some l2
def aho:Spec fam:=⟨[ne,.v (.int .u8) []],[f9],λa=>jk a.1 a.2.1⟩
def gQ(l:List (List UInt8))(t:List (List UInt8)×Int):Option ((List (List UInt8)×Int) ⊕ List (List UInt8)):=
 bif decide (t.2<(l.length:Int))then
 (
  (MZ t.2 l.length).bind λi=>
  (l[i]?).bind λx=>
  bif ! (x == ([]:List UInt8))then
  (MZ t.2 l.length).bind λi1=>
  (l[i1]?).bind λx1=>
  (app 16 t.1 [x1]).bind λl1=>
  some l1
  else
  some t.1).bind λout=>
 some (.inl (out,Lx (t.2+1)))
 else
 some (.inr t.1)
def jZ(s:List UInt8):Option (List (List UInt8)):=
 (jk s 32).bind λl=>
 (loop (gQ l) ([],0)).bind λPI=>
 some PI
def ahn:Spec fam:=⟨[ne],[f9],λa=>jZ a.1⟩
def kq(s:List UInt8)(t:Int×Int):Option ((Int×Int) ⊕ ((Int×Bool) ⊕ Int)):=
 bif decide (t.2<(s.length:Int))then
 (
  (idx s t.2).bind λch1=>
  bif decide ((ch1.toNat:Int)<48)then
  some true
  else
  (idx s t.2).bind λch2=>
  some (decide ((ch2.toNat:Int)>57))).bind λq1=>
 bif q1 then
  some (.inr (.inl (0,false)))
 else
  (idx s t.2).bind λch3=>
  let n:=Lx ((Lx (t.1*10))+(Lx (IntKind.u8.wrap ((ch3.toNat:Int) - 48))))
  some (.inl (n,Lx (t.2+1)))
 else
 some (.inr (.inr (t.1)))
def cX(s:List UInt8):Option (Int×Bool):=
 (
 bif decide ((s.length:Int)<1)then
  some true
 else
  bif decide ((s.length:Int)>7)then
  some true
  else
  (idx s 0).bind λch=>
  bif(ch.toNat:Int) == 48 then
   some (decide ((s.length:Int)>1))
  else
   some false).bind λq=>
 bif q then
 some (0,false)
 else
 (loop (kq s) (0,0)).bind λq0=>
 match q0 with
 | .inl q2=>
  some (q2.1,q2.2)
 | .inr n1=>
  some (n1,true)
def ag0:Spec fam:=⟨[ne],[ge,gt],λa=>cX a.1⟩
def nL(s:List UInt8)(k:Int):Option (Int ⊕ Int):=
 (
 bif decide (k<(s.length:Int))then
  (idx s k).bind λch=>
  some ((ch.toNat:Int) != 47)
 else
  some false).bind λq=>
 bif q then
 some (.inl (Lx (k+1)))
 else
 some (.inr k)
def jQ(s:List UInt8):Option (Cap×Bool):=
 (loop (nL s) 0).bind λk1=>
 bif k1 == (s.length:Int)then
 some ((⟨0,0⟩:Cap),false)
 else
 (slc s 0 k1).bind λs1=>
 (cX s1).bind λx=>
 (slc s (Lx (k1+1)) (s.length:Int)).bind λs2=>
 (cX s2).bind λx1=>
 bif x.2 then
  some ((⟨x.1,x1.1⟩:Cap),x1.2)
 else
  some ((⟨x.1,x1.1⟩:Cap),false)
def agZ:Spec fam:=⟨[ne],[.v (.st 1) [],gt],λa=>jQ a.1⟩
def nN(w:List (List UInt8))(t:Bool×Lm×Int):Option ((Bool×Lm×Int) ⊕ ((Bool×Lm))):=
 (
 bif decide (t.2.2<(w.length:Int))then
  some t.1
 else
  some false).bind λq1=>
 bif q1 then
 (idx w t.2.2).bind λx4=>
 (jQ x4).bind λx5=>
 (app 16 t.2.1.MR [x5.1]).bind λl=>
 some (.inl (x5.2,(⟨t.2.1.LC,l,t.2.1.User⟩:Lm),Lx (t.2.2+1)))
 else
 some (.inr (t.1,t.2.1))
def jU(w:List (List UInt8))(labels:Int):Option (Lm×Bool):=
 (
 bif(w.length:Int) != (Lx (3+labels))then
  some true
 else
  (idx w 0).bind λx=>
  some (! (x == ([113,117,101,117,101]:List UInt8)))).bind λq=>
 bif q then
 some ((⟨[],[],0⟩:Lm),false)
 else
 (idx w 2).bind λx1=>
 (cX x1).bind λx2=>
 (idx w 1).bind λx3=>
 (loop (nN w) (x2.2,(⟨x3,[],x2.1⟩:Lm),3)).bind λq2=>
 some (q2.2,q2.1)
def ahm:Spec fam:=⟨[.v (.slice (.str)) [],ge],[.v (.st 2) [1],gt],λa=>jU a.1 a.2.1⟩
def nO(t:Lf×Lf×Bool×Int)(x3:Lm×Bool)(k:Int):Option (Int ⊕ Int):=
 (
 bif decide (k<(t.2.1.Lg.length:Int))then
  (MZ k t.2.1.Lg.length).bind λi3=>
  (t.2.1.Lg[i3]?).bind λx4=>
  some (Op.bytesLess x4.LC x3.1.LC)
 else
  some false).bind λq1=>
 bif q1 then
 some (.inl (Lx (k+1)))
 else
 some (.inr k)
def gP(l:List (List UInt8))(t:Lf×Lf×Bool×Int):Option ((Lf×Lf×Bool×Int) ⊕ ((Lf×Int) ⊕ (Lf×Lf×Bool))):=
 bif decide (t.2.2.2<(l.length:Int))then
 (
  (MZ t.2.2.2 l.length).bind λi=>
  (l[i]?).bind λx=>
  (jZ x).bind λw=>
  bif(w.length:Int) == 0 then
  some (.inl (t.1,t.2.1,t.2.2.1))
  else
  bif(t.2.1.Lp.length:Int) == 0 then
   (MZ 0 w.length).bind λi1=>
   (w[i1]?).bind λx1=>
   bif ! (x1 == ([108,97,98,101,108,115]:List UInt8))then
   some (.inr ((⟨[],[]⟩:Lf),6))
   else
   bif decide ((w.length:Int)>3)then
    some (.inr ((⟨[],[]⟩:Lf),4))
   else
    (OQ 1 (w.length:Int) w.length).bind λp=>
    (app 16 [([]:List UInt8)] (sub w p.1 p.2)).bind λl1=>
    some (.inl (t.1,(⟨l1,t.2.1.Lg⟩:Lf),t.2.2.1))
  else
   (
   bif(t.2.1.Lg.length:Int) == 16 then
    (MZ 0 w.length).bind λi2=>
    (w[i2]?).bind λx2=>
    some (x2 == ([113,117,101,117,101]:List UInt8))
   else
    some false).bind λq=>
   bif q then
   some (.inr ((⟨[],[]⟩:Lf),4))
   else
   (jU w (t.2.1.Lp.length:Int)).bind λx3=>
   bif ! x3.2 then
    some (.inr ((⟨[],[]⟩:Lf),6))
   else
    (loop (nO t x3) 0).bind λk1=>
    (
    bif t.2.2.1 then
     some true
    else
     bif decide (k1<(t.2.1.Lg.length:Int))then
     (MZ k1 t.2.1.Lg.length).bind λi4=>
     (t.2.1.Lg[i4]?).bind λx5=>
     let twice:=x5.LC == x3.1.LC
     some twice
     else
     some false).bind λadw=>
    (OQ 0 k1 t.2.1.Lg.length).bind λp1=>
    (app 48 [] (sub t.2.1.Lg p1.1 p1.2)).bind λl2=>
    (app 48 l2 [x3.1]).bind λl3=>
    (OQ k1 (t.2.1.Lg.length:Int) t.2.1.Lg.length).bind λp2=>
    (app 48 l3 (sub t.2.1.Lg p2.1 p2.2)).bind λl4=>
    some (.inl (t.1,(⟨t.2.1.Lp,l4⟩:Lf),adw)):Option ((Lf×Lf×Bool) ⊕ (Lf×Int))).bind λq0=>
 match q0 with
 | .inl q2=>
  some (.inl (q2.1,q2.2.1,q2.2.2,Lx (t.2.2.2+1)))
 | .inr q3=>
  some (.inr (.inl (q3.1,q3.2)))
 else
 some (.inr (.inr (t.1,t.2.1,t.2.2.1)))
def jM(s:List UInt8):Option (Lf×Int):=
 bif decide ((s.length:Int)>2000)then
 some ((⟨[],[]⟩:Lf),5)
 else
 (jk s 10).bind λl=>
 (loop (gP l) ((⟨[],[]⟩:Lf),(⟨[],[]⟩:Lf),false,0)).bind λq0=>
 match q0 with
 | .inl q4=>
  some (q4.1,q4.2)
 | .inr q5=>
  bif(q5.2.1.Lp.length:Int) == 0 then
  some ((⟨[],[]⟩:Lf),6)
  else
  bif q5.2.2 then
   some ((⟨[],[]⟩:Lf),7)
  else
   some (q5.2.1,0)
def aii:Spec fam:=⟨[ne],[.v (.st 3) [0,1],ge],λa=>jM a.1⟩
def eR(s:JF)(x:Lf×Int)(t1:JF×Output×Int):Option ((JF×Output×Int) ⊕ ((JF×Output) ⊕ (JF×Output))):=
 bif decide (t1.2.2<(s.Lr.length:Int))then
 (
  (idx s.Lr t1.2.2).bind λx6=>
  (aY x6).bind λx7=>
  bif x7 then
  (idx s.Lr t1.2.2).bind λx8=>
  (eH x.1 x8.Lm).bind λx9=>
  some (! x9)
  else
  some false).bind λq2=>
 bif q2 then
  (aI s 14).bind λx10=>
  some (.inr (.inl (x10.1,x10.2)))
 else
  some (.inl (t1.1,t1.2.1,Lx (t1.2.2+1)))
 else
 some (.inr (.inr (t1.1,t1.2.1)))
def eT(s:JF)(x:Lf×Int)(t:JF×Output×Int):Option ((JF×Output×Int) ⊕ ((JF×Output) ⊕ (JF×Output))):=
 bif decide (t.2.2<(s.Lf.Lp.length:Int))then
 (MZ t.2.2 x.1.Lp.length).bind λi=>
 (x.1.Lp[i]?).bind λx3=>
 (idx s.Lf.Lp t.2.2).bind λx4=>
 bif ! (x3 == x4)then
  (aI s 14).bind λx5=>
  some (.inr (.inl (x5.1,x5.2)))
 else
  some (.inl (t.1,t.2.1,Lx (t.2.2+1)))
 else
 some (.inr (.inr (t.1,t.2.1)))
def iv(s:JF)(text:List UInt8):Option (JF×Output):=
 (jM text).bind λx=>
 (
 bif x.2 == 0 then
  (bH x.1).bind λe=>
  some e
 else
  some x.2).bind λe1=>
 bif e1 != 0 then
 (aI s e1).bind λx1=>
 some (x1.1,x1.2)
 else
 bif decide ((x.1.Lp.length:Int)<(s.Lf.Lp.length:Int))then
  (aI s 14).bind λx2=>
  some (x2.1,x2.2)
 else
  (loop (eT s x) ((⟨⟨[],[]⟩,[],[],[],[],[],0,0,0⟩:JF),(⟨0,[],[],[],0⟩:Output),0)).bind λq0=>
  match q0 with
  | .inl q=>
  some (q.1,q.2)
  | .inr q1=>
  (loop (eR s x) (q1.1,q1.2,0)).bind λq0=>
  match q0 with
  | .inl q3=>
   some (q3.1,q3.2)
  | .inr q4=>
   some ((⟨⟨x.1.Lp,x.1.Lg⟩,s.Ls,s.Lr,s.Lc,s.LG,s.LU,s.Now,s.L9,s.Seq⟩:JF),(⟨0,[],[],[],0⟩:Output))
def am7:Spec fam:=⟨[f0,ne],[f0,QS],λa=>iv a.1 a.2.1⟩
def d5(s:JF)(N_:Int)(t:LB×Int):Option ((LB×Int) ⊕ ((LB×Bool) ⊕ LB)):=
 bif decide (t.2<(s.Ls.length:Int))then
 (idx s.Ls t.2).bind λx=>
 bif x.Id == N_ then
  (idx s.Ls t.2).bind λx1=>
  some (.inr (.inl (x1,true)))
 else
  some (.inl (t.1,Lx (t.2+1)))
 else
 some (.inr (.inr (t.1)))
def bR(s:JF)(N_:Int):Option (LB×Bool):=
 (loop (d5 s N_) ((⟨0,0,0,⟨0,0⟩,0,0,false⟩:LB),0)).bind λq0=>
 match q0 with
 | .inl q=>
 some (q.1,q.2)
 | .inr q1=>
 some ((⟨0,0,0,⟨0,0⟩,0,0,false⟩:LB),false)
def ana:Spec fam:=⟨[f0,ge],[Q1,gt],λa=>bR a.1 a.2.1⟩
def gY(n:Int):Option Bool:=
 bif decide (n≥0)then
 some (decide (n≤1073741824))
 else
 some false
def aif:Spec fam:=⟨[ge],[gt],λa=>gY a.1⟩
def fg(s:JF)(n:LB)(k:Int):Option (Int ⊕ Int):=
 (
 bif decide (k<(s.Ls.length:Int))then
  (idx s.Ls k).bind λx=>
  some (decide (x.Id<n.Id))
 else
  some false).bind λq=>
 bif q then
 some (.inl (Lx (k+1)))
 else
 some (.inr k)
def dn(s:JF)(n:LB):Option JF:=
 (loop (fg s n) 0).bind λk1=>
 (slc s.Ls 0 k1).bind λl=>
 (app 64 [] l).bind λl1=>
 (app 64 l1 [n]).bind λl2=>
 (
 (
  bif decide (k1<(s.Ls.length:Int))then
  (idx s.Ls k1).bind λx1=>
  some (x1.Id == n.Id)
  else
  some false).bind λq1=>
 bif q1 then
  some (Lx (k1+1))
 else
  some k1).bind λk2=>
 (slc s.Ls k2 (s.Ls.length:Int)).bind λl3=>
 (app 64 l2 l3).bind λl4=>
 some (⟨⟨s.Lf.Lp,s.Lf.Lg⟩,l4,s.Lr,s.Lc,s.LG,s.LU,s.Now,s.L9,s.Seq⟩:JF)
def aie:Spec fam:=⟨[f0,Q1],[.v (.st 10) [2]],λa=>dn a.1 a.2.1⟩
def gy(s:JF)(n:LB):Option (JF×Int):=
 (
 bif decide (n.Id<0)then
  some true
 else
  bif decide (n.Id>999)then
  some true
  else
  bif decide (n.Ll<0)then
   some true
  else
   bif decide (n.Ll≥(s.Lf.Lp.length:Int))then
   some true
   else
   bif decide (n.Oj<0)then
    some true
   else
    bif decide (n.Oj>99)then
    some true
    else
    (gY n.Cap.Mem).bind λx=>
    bif ! x then
     some true
    else
     (gY n.Cap.Lu).bind λx1=>
     some (! x1)).bind λq=>
 bif q then
 some (s,1)
 else
 (bR s n.Id).bind λx2=>
 (
  bif x2.2 then
  some x2.1.Up
  else
  some false).bind λq1=>
 bif q1 then
  some (s,7)
 else
  (
  bif ! x2.2 then
   some (decide ((s.Ls.length:Int)≥12))
  else
   some false).bind λq2=>
  bif q2 then
  some (s,4)
  else
  (dn s (⟨n.Id,n.Ll,n.Oj,⟨n.Cap.Mem,n.Cap.Lu⟩,s.Now,0,true⟩:LB)).bind λx3=>
  some (x3,0)
def am6:Spec fam:=⟨[f0,Q1],[f0,ge],λa=>gy a.1 a.2.1⟩
def dF(s:JF)(N_:Int)(t:Lv×Int):Option ((Lv×Int) ⊕ ((Lv×Bool) ⊕ Lv)):=
 bif decide (t.2<(s.Lc.length:Int))then
 (idx s.Lc t.2).bind λx=>
 bif x.Id == N_ then
  (idx s.Lc t.2).bind λx1=>
  some (.inr (.inl (x1,true)))
 else
  some (.inl (t.1,Lx (t.2+1)))
 else
 some (.inr (.inr (t.1)))
def a7(s:JF)(N_:Int):Option (Lv×Bool):=
 (loop (dF s N_) ((⟨0,0,0,⟨0,0⟩,0,0,false,0⟩:Lv),0)).bind λq0=>
 match q0 with
 | .inl q=>
 some (q.1,q.2)
 | .inr q1=>
 some ((⟨0,0,0,⟨0,0⟩,0,0,false,0⟩:Lv),false)
def anM:Spec fam:=⟨[f0,ge],[QK,gt],λa=>a7 a.1 a.2.1⟩
def dD(s:JF)(N_:Int)(t:LD×Int):Option ((LD×Int) ⊕ ((LD×Bool) ⊕ LD)):=
 bif decide (t.2<(s.Lr.length:Int))then
 (idx s.Lr t.2).bind λx=>
 bif x.Id == N_ then
  (idx s.Lr t.2).bind λx1=>
  some (.inr (.inl (x1,true)))
 else
  some (.inl (t.1,Lx (t.2+1)))
 else
 some (.inr (.inr (t.1)))
def aG(s:JF)(N_:Int):Option (LD×Bool):=
 (loop (dD s N_) ((⟨0,0,[],0,0,⟨0,0⟩,[],0,0,[],[],[],[]⟩:LD),0)).bind λq0=>
 match q0 with
 | .inl q=>
 some (q.1,q.2)
 | .inr q1=>
 some ((⟨0,0,[],0,0,⟨0,0⟩,[],0,0,[],[],[],[]⟩:LD),false)
def anL:Spec fam:=⟨[f0,ge],[QF,gt],λa=>aG a.1 a.2.1⟩
def iL(s:JF)(a:LD)(k:Int):Option (Int ⊕ Int):=
 (
 bif decide (k<(s.Lr.length:Int))then
  (idx s.Lr k).bind λx=>
  some (decide (x.Id<a.Id))
 else
  some false).bind λq=>
 bif q then
 some (.inl (Lx (k+1)))
 else
 some (.inr k)
def aO(s:JF)(a:LD):Option JF:=
 (loop (iL s a) 0).bind λk1=>
 (slc s.Lr 0 k1).bind λl=>
 (app 200 [] l).bind λl1=>
 (app 200 l1 [a]).bind λl2=>
 (
 (
  bif decide (k1<(s.Lr.length:Int))then
  (idx s.Lr k1).bind λx1=>
  some (x1.Id == a.Id)
  else
  some false).bind λq1=>
 bif q1 then
  some (Lx (k1+1))
 else
  some k1).bind λk2=>
 (slc s.Lr k2 (s.Lr.length:Int)).bind λl3=>
 (app 200 l2 l3).bind λl4=>
 some (⟨⟨s.Lf.Lp,s.Lf.Lg⟩,s.Ls,l4,s.Lc,s.LG,s.LU,s.Now,s.L9,s.Seq⟩:JF)
def ah8:Spec fam:=⟨[f0,QF],[.v (.st 10) [3]],λa=>aO a.1 a.2.1⟩
def jB(a:LD):Option (List Ask):=
 some [(⟨0,0,⟨a.Lj.Mem,a.Lj.Lu⟩,1,(-1),(-1),0⟩:Ask)]
def ah7:Spec fam:=⟨[QF],[ac],λa=>jB a.1⟩
def gN(s:JF)(N_:Int)(t:List Lv×Int):Option ((List Lv×Int) ⊕ List Lv):=
 bif decide (t.2<(s.Lc.length:Int))then
 (
  (idx s.Lc t.2).bind λx=>
  bif x.Id != N_ then
  (idx s.Lc t.2).bind λx1=>
  (app 72 t.1 [x1]).bind λl=>
  some l
  else
  some t.1).bind λl1=>
 some (.inl (l1,Lx (t.2+1)))
 else
 some (.inr t.1)
def dz(s:JF)(N_:Int):Option JF:=
 (loop (gN s N_) ([],0)).bind λl2=>
 some (⟨⟨s.Lf.Lp,s.Lf.Lg⟩,s.Ls,s.Lr,l2,s.LG,s.LU,s.Now,s.L9,s.Seq⟩:JF)
def ah3:Spec fam:=⟨[f0,ge],[.v (.st 10) [4]],λa=>dz a.1 a.2.1⟩
def dU(l:List Int)(n:Int)(t:List Int×Int):Option ((List Int×Int) ⊕ List Int):=
 bif decide (t.2<(l.length:Int))then
 (
  (idx l t.2).bind λx=>
  bif x != n then
  (idx l t.2).bind λx1=>
  (app 8 t.1 [x1]).bind λl1=>
  some l1
  else
  some t.1).bind λout=>
 some (.inl (out,Lx (t.2+1)))
 else
 some (.inr t.1)
def cq(l:List Int)(n:Int):Option (List Int×Bool):=
 (loop (dU l n) ([],0)).bind λPI=>
 some (PI,decide ((PI.length:Int)<(l.length:Int)))
def ah2:Spec fam:=⟨[t6,ge],[f8,gt],λa=>cq a.1 a.2.1⟩
def gx(s:JF)(N_:Int)(t1:List Nv×Int):Option ((List Nv×Int) ⊕ List Nv):=
 bif decide (t1.2<(s.LG.length:Int))then
 (
  (idx s.LG t1.2).bind λx3=>
  bif x3.LD != N_ then
  (idx s.LG t1.2).bind λx4=>
  (app 24 t1.1 [x4]).bind λl2=>
  some l2
  else
  some t1.1).bind λslots=>
 some (.inl (slots,Lx (t1.2+1)))
 else
 some (.inr t1.1)
def gR(s:JF)(N_:Int)(t:List Lv×List Int×Int):Option ((List Lv×List Int×Int) ⊕ ((List Lv×List Int))):=
 bif decide (t.2.2<(s.Lc.length:Int))then
 (
  (idx s.Lc t.2.2).bind λx=>
  bif x.LD == N_ then
  (idx s.Lc t.2.2).bind λx1=>
  (app 8 t.2.1 [x1.Id]).bind λl=>
  some (t.1,l)
  else
  (idx s.Lc t.2.2).bind λx2=>
  (app 72 t.1 [x2]).bind λl1=>
  some (l1,t.2.1)).bind λq=>
 some (.inl (q.1,q.2,Lx (t.2.2+1)))
 else
 some (.inr (t.1,t.2.1))
def dB(s:JF)(N_:Int):Option (JF×List Int):=
 (loop (gR s N_) ([],[],0)).bind λq1=>
 (loop (gx s N_) ([],0)).bind λadx=>
 some ((⟨⟨s.Lf.Lp,s.Lf.Lg⟩,s.Ls,s.Lr,q1.1,adx,s.LU,s.Now,s.L9,s.Seq⟩:JF),q1.2)
def ahs:Spec fam:=⟨[f0,ge],[.v (.st 10) [4,5],f8],λa=>dB a.1 a.2.1⟩
end
end Go.Fx.D
