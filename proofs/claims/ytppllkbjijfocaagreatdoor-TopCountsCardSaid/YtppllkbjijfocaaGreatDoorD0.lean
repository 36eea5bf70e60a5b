/-
  The functions of the program that this law reaches, as functions over plain data (printed by a program). Conditions: none.
-/
import Derived.Test.YtppllkbjijfocaaGreatDoorFxD
import Derived.Test.YtppllkbjijfocaaGreatDoorA
namespace Go.Fx.D
open Go Go.Fx Go.Proofs
set_option linter.unusedVariables false
noncomputable section
abbrev ge:Kd:=.v (.int .i64) []
abbrev gt:Kd:=.v .bool []
abbrev f0:Kd:=.v (.slice (.int .i64)) [0]
abbrev f8:Kd:=.v .str []
abbrev f9:Kd:=.v (.st 10) []
abbrev pp:Kd:=.box (.st 20) [0,2,4,5,6]
abbrev t6:Kd:=.v (.slice (.str)) [0]
abbrev t7:Kd:=.v (.st 0) []
abbrev t8:Kd:=.row (.st 2) false
abbrev ac:Kd:=.row (.st 6) false
abbrev QQ:Kd:=.v (.slice (.int .i64)) []
abbrev QJ:Kd:=.v (.st 10) [0,1001,2,1003,4,5,6]
abbrev QX:Kd:=.box (.st 14) [20,23,24,25,26,27,28]
abbrev QZ:Kd:=.box (.st 6) [7,10,11,12,13]
abbrev QW:Kd:=.box (.st 0) []
abbrev QY:Kd:=.v (.slice (.st 0)) [0]
abbrev QV:Kd:=.box (.st 10) [0,1001,2,1003,4,5,6]
abbrev QU:Kd:=.v (.slice (.st 7)) [0]
abbrev QG:Kd:=.v (.int .u64) []
abbrev QC:Kd:=.v (.slice (.st 5)) [0]
abbrev QD:Kd:=.box (.st 7) []
abbrev QE:Kd:=.box (.st 23) [11,12,13]
abbrev QF:Kd:=.v (.st 10) [0,1,2,3,4,5,6]
abbrev QH:Kd:=.box (.st 19) [0,2,4,5,6,7000]
abbrev QI:Kd:=.v (.st 7) []
abbrev QL:Kd:=.box (.st 19) [0,2,4,5,6]
abbrev QM:Kd:=.row (.int .i64) false
abbrev QN:Kd:=.v (.st 13) [1,2,3]
abbrev QO:Kd:=.box (.st 3) [1001]
abbrev QP:Kd:=.v (.st 6) []
abbrev QR:Kd:=.v (.slice (.st 6)) [0]
abbrev QT:Kd:=.box (.st 13) [1,2,3]
abbrev QA:Kd:=.v (.slice (.str)) []
abbrev Q0:Kd:=.v (.int .u32) []
abbrev Q1:Kd:=.v (.slice (.st 8)) [0]
abbrev Q2:Kd:=.v (.slice (.st 5)) []
abbrev Q3:Kd:=.v (.st 5) []
abbrev Q4:Kd:=.row .str false
abbrev Q5:Kd:=.v (.st 3) []
abbrev Q6:Kd:=.v (.slice (.st 9)) []
abbrev Q7:Kd:=.v (.st 6) [7,10,11,12,13]
abbrev Q8:Kd:=.box (.st 2) [1]
abbrev Q9:Kd:=.v (.slice (.st 9)) [0]
abbrev Qa:Kd:=.v (.slice (.st 6)) []
abbrev Qb:Kd:=.box (.st 3) [0,1]
abbrev Qc:Kd:=.v (.slice (.st 15)) [0]
abbrev Qd:Kd:=.v (.st 6) [7,10,11,12,13,9999]
abbrev Qe:Kd:=.v (.slice (.st 4)) [0]
abbrev Qf:Kd:=.v (.slice (.st 7)) []
abbrev Qg:Kd:=.v (.slice (.st 8)) []
abbrev Qh:Kd:=.v (.slice (.st 1)) []
abbrev Qi:Kd:=.v (.slice (.st 4)) []
abbrev Qj:Kd:=.v (.st 24) []
abbrev Qk:Kd:=.v (.st 4) []
abbrev Ql:Kd:=.v (.st 9) []
abbrev Qm:Kd:=.box (.st 18) [0,1]
abbrev Qn:Kd:=.box (.st 5) []
abbrev Qo:Kd:=.row (.st 5) false
abbrev Qp:Kd:=.v (.st 14) [20,23,24,25,26,27,28]
abbrev Qq:Kd:=.v (.slice (.st 0)) []
abbrev Qr:Kd:=.v (.st 8) []
abbrev Qs:Kd:=.row (.st 501) false
abbrev Qt:Kd:=.row (.st 500) false
abbrev Qu:Kd:=.v (.st 21) []
abbrev Qv:Kd:=.v (.st 16) []
abbrev Qw:Kd:=.row (.st 4) false
abbrev Qx:Kd:=.row (.st 9) false
abbrev Qy:Kd:=.row (.st 8) false
abbrev Qz:Kd:=.v (.st 1) []
def JJ (a:Ks)(b:List Nat)(c:List (Nat×Ks))(d:Hint):Hint:=.b (.l a b c d)
def JQ (x:Hint):Hint:=.s .z x
def JX:Hint:=(JQ (.s (JQ ((JJ [(8,ge)] [4,5,8] [(1,[(4,ge)]),(2,[])] .z))) .z))
def JZ:Hint:=(.s (.j [] [(0,[(33,gt)])] .z) .z)
def JW:Hint:=(JQ (.s (.r [9998]) .z))
def JY:Ks:=[(0,pp),(8,ge),(9,QD)]
def JV:Hint:=(.s (.j [] [(0,[(20,gt)])] .z) .z)
def JU:Hint:=(.s (.s (.j [] [(0,[(34,gt)])] .z) .z) .z)
def JG:Ks:=[(0,pp),(9,QD)]
def JK:Hint:=(.j [0,2] [(0,[(0,QG),(2,ge)])] .z)
def JB:Hint:=(.s (.j [] [(0,[(37,gt)])] .z) .z)
def JD:Hint:=(.s (.j [] [(0,[(26,gt)])] .z) .z)
def JE:Hint:=(.s (.j [] [(0,[(5,gt)])] .z) .z)
def JF:Hint:=((JJ [(20,ge),(21,ge)] [20,21,23] [(10,[(20,ge)])] .z))
def JH:Hint:=((JJ [(10,ge),(11,ge)] [10,11,12] [(2,[(10,ge)])] .z))
def JI:Hint:=((JJ [(14,ge),(15,ge)] [14,15,16] [(6,[(14,ge)])] .z))
def JL:Hint:=(JQ (.s .z (.s (.j [5] [(0,[(5,ge)])] .z) .z)))
def JM:Hint:=(.b (JQ (.s (.j [] [(0,[(22,gt)])] .z) .z)))
def JN:Hint:=(.j [20,21] [(0,[(20,ge),(21,ge)])] .z)
def JO:Hint:=(.s (.j [] [(0,[(185,gt)])] .z) .z)
def JP:Hint:=(.s (.j [] [(0,[(199,gt)])] .z) .z)
def JR:Hint:=(.s (.j [] [(0,[(213,gt)])] .z) .z)
def JS:Hint:=(.s (.j [] [(0,[(104,gt)])] .z) .z)
def JT:Hint:=(.s (.j [] [(0,[(28,gt)])] .z) .z)
def J0:Hint:=(.s (.j [] [(0,[(10,gt)])] .z) .z)
def J1:Hint:=(.s (.j [] [(0,[(16,gt)])] .z) .z)
def J2:Hint:=(.s (.j [] [(0,[(74,gt)])] .z) .z)
def J3:Hint:=(.s (.j [] [(0,[(25,gt)])] .z) .z)
def lS:Option Gp:=
 some (⟨⟨[([]:List UInt8)],[(⟨([114,111,111,116]:List UInt8),[(⟨10000,10000⟩:Cap)],10000⟩:Ja)]⟩,[],[],[],[],[],0,0,0⟩:Gp)
def h7:Hint:=.z
noncomputable def sp7:Spec fam:=⟨[],[QF],λ_=>lS⟩
def jA(s:List (List UInt8)):Option (List (List UInt8)):=
 bif s.isEmpty then
 none
 else
 (app 16 [] s).bind λl=>
 some l
def aW(s:List (List UInt8)):Option (List (List UInt8)):=app 16 [] s
def h85:Hint:=.z
def alm:Spec fam:=⟨[QA],[t6],λa=>aW a.1⟩
def Gu:Spec fam:=⟨[.v (.slice (.str)) []],[.v (.slice (.str)) [0]],λa=>jA a.1⟩
def xC(s:List Ja):Option (List Ja):=
 bif s.isEmpty then
 none
 else
 (app 48 [] s).bind λl=>
 some l
def iN(s:List Ja):Option (List Ja):=app 48 [] s
def h86:Hint:=.z
def alk:Spec fam:=⟨[.v (.slice (.st 2)) []],[.v (.slice (.st 2)) [0]],λa=>iN a.1⟩
def Gq:Spec fam:=⟨[.v (.slice (.st 2)) []],[.v (.slice (.st 2)) [0]],λa=>xC a.1⟩
def zS(s:List Cap):Option (List Cap):=
 bif s.isEmpty then
 none
 else
 (app 16 [] s).bind λl=>
 some l
def ip(s:List Cap):Option (List Cap):=app 16 [] s
def h87:Hint:=.z
def alj:Spec fam:=⟨[Qh],[.v (.slice (.st 1)) [0]],λa=>ip a.1⟩
def G8:Spec fam:=⟨[.v (.slice (.st 1)) []],[.v (.slice (.st 1)) [0]],λa=>zS a.1⟩
def yd(s:List Node):Option (List Node):=
 bif s.isEmpty then
 none
 else
 (app 64 [] s).bind λl=>
 some l
def jO(s:List Node):Option (List Node):=app 64 [] s
def h88:Hint:=.z
def ali:Spec fam:=⟨[Qi],[Qe],λa=>jO a.1⟩
def F7:Spec fam:=⟨[.v (.slice (.st 4)) []],[.v (.slice (.st 4)) [0]],λa=>yd a.1⟩
def xV(s:List Cont):Option (List Cont):=
 bif s.isEmpty then
 none
 else
 (app 72 [] s).bind λl=>
 some l
def ef(s:List Cont):Option (List Cont):=app 72 [] s
def h89:Hint:=.z
def alh:Spec fam:=⟨[Qf],[QU],λa=>ef a.1⟩
def Hs:Spec fam:=⟨[.v (.slice (.st 7)) []],[.v (.slice (.st 7)) [0]],λa=>xV a.1⟩
def yg(s:List Slot):Option (List Slot):=
 bif s.isEmpty then
 none
 else
 (app 24 [] s).bind λl=>
 some l
def jC(s:List Slot):Option (List Slot):=app 24 [] s
def h90:Hint:=.z
def alg:Spec fam:=⟨[Qg],[Q1],λa=>jC a.1⟩
def GQ:Spec fam:=⟨[.v (.slice (.st 8)) []],[.v (.slice (.st 8)) [0]],λa=>yg a.1⟩
def ya(s:List Jk):Option (List Jk):=
 bif s.isEmpty then
 none
 else
 (app 48 [] s).bind λl=>
 some l
def jU(s:List Jk):Option (List Jk):=app 48 [] s
def h91:Hint:=.z
def alf:Spec fam:=⟨[Q6],[Q9],λa=>jU a.1⟩
def F4:Spec fam:=⟨[.v (.slice (.st 9)) []],[.v (.slice (.st 9)) [0]],λa=>ya a.1⟩
def Ac(s:List App):Option (List App):=
 bif s.isEmpty then
 none
 else
 (app 200 [] s).bind λl=>
 some l
def lm(s:List App):Option (List App):=app 200 [] s
def h92:Hint:=.z
def ale:Spec fam:=⟨[Qa],[QR],λa=>lm a.1⟩
def GE:Spec fam:=⟨[.v (.slice (.st 6)) []],[.v (.slice (.st 6)) [0]],λa=>Ac a.1⟩
def zO(s:List Ask):Option (List Ask):=
 bif s.isEmpty then
 none
 else
 (app 64 [] s).bind λl=>
 some l
def lq(s:List Ask):Option (List Ask):=app 64 [] s
def aoH:Hint:=.z
def afq:Spec fam:=⟨[Q2],[QC],λa=>lq a.1⟩
def DY:Spec fam:=⟨[.v (.slice (.st 5)) []],[.v (.slice (.st 5)) [0]],λa=>zO a.1⟩
def iu(l:List Int):Option (List Int):=
 (P7 8 (l.length:Int) (l.length:Int) 0).bind λl1=>
 some (LP l1 0 l1.length l)
def afp:Spec fam:=⟨[QQ],[f0],λa=>iu a.1⟩
def ie(a:App):Option App:=
 (lq a.Jy).bind λx=>
 (iu a.Kj).bind λx1=>
 (iu a.KJ).bind λx2=>
 (iu a.Told).bind λx3=>
 (iu a.Lm).bind λx4=>
 some (⟨a.Id,a.Gp,a.Ja,a.User,a.J6,⟨a.Jb.Mem,a.Jb.I_⟩,x,a.KD,a.J_,x1,x2,x3,x4⟩:App)
def ald:Spec fam:=⟨[QP],[Qd],λa=>ie a.1⟩
def lZ(x9:List App)(t1:List App×Nat×Int):Option ((List App×Nat×Int) ⊕ (List App×Nat×Int)):=
 bif decide (t1.2.2<(x9.length:Int))then
 (Kk t1.2.2 t1.1.length).bind λi2=>
 bif Nat.ble t1.2.1 i2 then
  (t1.1[i2]?).bind λx10=>
  (ie x10).bind λNg=>
  (Kk t1.2.2 t1.1.length).bind λi3=>
  bif Nat.beq i3 t1.2.1 then
  (t1.1[i3]?).bind λOA=>
  some (.inl (List.set t1.1 i3 Ng,t1.2.1+1,Jd (t1.2.2+1)))
  else
  none
 else
  none
 else
 some (.inr (t1.1,t1.2.1,t1.2.2))
def lY(x1:List Ja)(t:List Ja×Nat×Int):Option ((List Ja×Nat×Int) ⊕ (List Ja×Nat×Int)):=
 bif decide (t.2.2<(x1.length:Int))then
 (Kk t.2.2 t.1.length).bind λi=>
 bif Nat.ble t.2.1 i then
  (t.1[i]?).bind λx2=>
  (ip x2.KZ).bind λx3=>
  (Kk t.2.2 t.1.length).bind λi1=>
  bif Nat.beq i1 t.2.1 then
  (t.1[i1]?).bind λx4=>
  some (.inl (List.set t.1 i1 (⟨x4.Kh,x3,x4.User⟩:Ja),t.2.1+1,Jd (t.2.2+1)))
  else
  none
 else
  none
 else
 some (.inr (t.1,t.2.1,t.2.2))
def oI(s:Gp):Option Gp:=
 (aW s.Jc.Je).bind λx=>
 (iN s.Jc.I8).bind λx1=>
 (loop (lY x1) (x1,0,0)).bind λq=>
 bif Nat.ble q.1.length q.2.1 then
 (jO s.Jh).bind λx5=>
 (ef s.I6).bind λx6=>
 (jC s.Jr).bind λx7=>
 (jU s.Jq).bind λx8=>
 (lm s.I9).bind λx9=>
 (loop (lZ x9) (x9,0,0)).bind λq1=>
 bif Nat.ble q1.1.length q1.2.1 then
  some (⟨⟨x,q.1⟩,x5,q1.1,x6,x7,x8,s.Now,s.Jz,s.Seq⟩:Gp)
 else
  none
 else
 none
def al6:Spec fam:=⟨[f9],[QJ],λa=>oI a.1⟩
def eZ(x9:List App)(t1:List App×Int):Option ((List App×Int) ⊕ List App):=
 bif decide (t1.2<(x9.length:Int))then
 (Kk t1.2 t1.1.length).bind λi2=>
 (t1.1[i2]?).bind λx10=>
 (ie x10).bind λNg=>
 (Kk t1.2 t1.1.length).bind λi3=>
 (t1.1[i3]?).bind λOA=>
 some (.inl (List.set t1.1 i3 Ng,Jd (t1.2+1)))
 else
 some (.inr t1.1)
def gE(x1:List Ja)(t:List Ja×Int):Option ((List Ja×Int) ⊕ List Ja):=
 bif decide (t.2<(x1.length:Int))then
 (Kk t.2 t.1.length).bind λi=>
 (t.1[i]?).bind λx2=>
 (ip x2.KZ).bind λx3=>
 (Kk t.2 t.1.length).bind λi1=>
 (t.1[i1]?).bind λx4=>
 some (.inl (List.set t.1 i1 (⟨x4.Kh,x3,x4.User⟩:Ja),Jd (t.2+1)))
 else
 some (.inr t.1)
def gp(s:Gp):Option Gp:=
 (aW s.Jc.Je).bind λx=>
 (iN s.Jc.I8).bind λx1=>
 (loop (gE x1) (x1,0)).bind λq=>
 (jO s.Jh).bind λx5=>
 (ef s.I6).bind λx6=>
 (jC s.Jr).bind λx7=>
 (jU s.Jq).bind λx8=>
 (lm s.I9).bind λx9=>
 (loop (eZ x9) (x9,0)).bind λq1=>
 some (⟨⟨x,q⟩,x5,q1,x6,x7,x8,s.Now,s.Jz,s.Seq⟩:Gp)
def Ft:Spec fam:=⟨[.v (.st 10) []],[.v (.st 10) [0,1,2,3,4,5,6]],λa=>gp a.1⟩
def pe(s:List Cont)(f:(Js fam [.st 7]→Option Bool))(t:Int):Option (Int ⊕ (Int ⊕ Unit)):=
 bif decide (t<(s.length:Int))then
 (idx s t).bind λx=>
 (f (x,())).bind λr=>
 bif r then
  some (.inr (.inl t))
 else
  some (.inl (Jd (t+1)))
 else
 some (.inr (.inr ()))
def eB(s:List Cont)(f:(Js fam [.st 7]→Option Bool)):Option Int:=
 (loop (pe s f) 0).bind λq0=>
 match q0 with
 | .inl q=>
 some q
 | .inr _=>
 some (-1)
def al5:Spec fam:=⟨[Qf,.fn [.st 7] .bool],[ge],λa=>eB a.1 a.2.1⟩
def tF(c:Cont)(p:Int):Option Bool:=
 some (c.Id == p)
def al4:Spec fam:=⟨[QI,.rp (.int .i64)],[gt],λa=>tF a.1 a.2.1⟩
def qg(s:List App)(f:(Js fam [.st 6]→Option Bool))(t:Int):Option (Int ⊕ (Int ⊕ Unit)):=
 bif decide (t<(s.length:Int))then
 (idx s t).bind λx=>
 (f (x,())).bind λr=>
 bif r then
  some (.inr (.inl t))
 else
  some (.inl (Jd (t+1)))
 else
 some (.inr (.inr ()))
def jg(s:List App)(f:(Js fam [.st 6]→Option Bool)):Option Int:=
 (loop (qg s f) 0).bind λq0=>
 match q0 with
 | .inl q=>
 some q
 | .inr _=>
 some (-1)
def alc:Spec fam:=⟨[Qa,.fn [.st 6] .bool],[ge],λa=>jg a.1 a.2.1⟩
def xh(a:App)(p:Int):Option Bool:=
 some (a.Id == p)
def alb:Spec fam:=⟨[QP,.rp (.int .i64)],[gt],λa=>xh a.1 a.2.1⟩
def jW(s:Gp)(Li:Int):Option Int:=
 (jg s.I9 (λa'=>xh a'.1 Li)).bind λx=>
 some x
def al3:Spec fam:=⟨[f9,ge],[ge],λa=>jW a.1 a.2.1⟩
def pc(s:List Ask)(f:(Js fam [.st 5]→Option Bool))(t:Int):Option (Int ⊕ (Int ⊕ Unit)):=
 bif decide (t<(s.length:Int))then
 (idx s t).bind λx=>
 (f (x,())).bind λr=>
 bif r then
  some (.inr (.inl t))
 else
  some (.inl (Jd (t+1)))
 else
 some (.inr (.inr ()))
def kz(s:List Ask)(f:(Js fam [.st 5]→Option Bool)):Option Int:=
 (loop (pc s f) 0).bind λq0=>
 match q0 with
 | .inl q=>
 some q
 | .inr _=>
 some (-1)
def aeB:Spec fam:=⟨[Q2,.fn [.st 5] .bool],[ge],λa=>kz a.1 a.2.1⟩
def oV(del:(Js fam [.st 5]→Option Bool))(t:List Ask×Int×Int):Option ((List Ask×Int×Int) ⊕ ((List Ask×Int))):=
 bif decide (t.2.2<(t.1.length:Int))then
 (
  (Kk t.2.2 t.1.length).bind λi1=>
  (t.1[i1]?).bind λx=>
  (del (x,())).bind λr=>
  bif ! r then
  (Kk t.2.1 t.1.length).bind λi2=>
  (t.1[i2]?).bind λx1=>
  some (List.set t.1 i2 x,Jd (t.2.1+1))
  else
  some (t.1,t.2.1)).bind λq=>
 some (.inl (q.1,q.2,Jd (t.2.2+1)))
 else
 some (.inr (t.1,t.2.1))
def kb(s:List Ask)(del:(Js fam [.st 5]→Option Bool)):Option (List Ask):=
 (kz s del).bind λi=>
 bif i == (-1)then
 some s
 else
 (loop (oV del) (s,i,Jd (i+1))).bind λq1=>
 (Ms q1.2 (q1.1.length:Int) q1.1.length).bind λp=>
 (Ms 0 q1.2 (LP q1.1 p.1 p.2 (List.replicate p.2 (⟨0,0,⟨0,0⟩,0,0,0,0⟩:Ask))).length).bind λp1=>
 some (List.take p1.2 (LP q1.1 p.1 p.2 (List.replicate p.2 (⟨0,0,⟨0,0⟩,0,0,0,0⟩:Ask))))
def ae_:Spec fam:=⟨[QC,.fn [.st 5] .bool],[QC],λa=>kb a.1 a.2.1⟩
def kY(l:List Ask):Option (List Ask):=
 (P7 64 (l.length:Int) (l.length:Int) (⟨0,0,⟨0,0⟩,0,0,0,0⟩:Ask)).bind λl1=>
 some (LP l1 0 l1.length l)
def ae9:Spec fam:=⟨[Q2],[QC],λa=>kY a.1⟩
def u5(x:Ask)(p:Ask):Option Bool:=
 some (x.J6 == p.J6)
def ae8:Spec fam:=⟨[Q3,.rp (.st 5)],[gt],λa=>u5 a.1 a.2.1⟩
def wo(s:List Ask)(i:Int)(v:List Ask):Option (List Ask):=
 (Ms i (s.length:Int) s.length).bind λp=>
 bif(v.length:Int) == 0 then
 some s
 else
 bif i == (s.length:Int)then
  (app 64 s v).bind λl=>
  some l
 else
  none
def oQ(s:List Ask)(i:Int)(v:List Ask):Option (List Ask):=ins s i v
def aoF:Hint:=.z
def ae7:Spec fam:=⟨[QC,ge,QC],[QC],λa=>oQ a.1 a.2.1 a.2.2.1⟩
def G7:Spec fam:=⟨[.v (.slice (.st 5)) [0],.v (.int .i64) [],.v (.slice (.st 5)) [0]],[.v (.slice (.st 5)) [0]],λa=>wo a.1 a.2.1 a.2.2.1⟩
def pE(a:Ask)(out:List Ask)(k:Int):Option (Int ⊕ Int):=
 (
 bif decide (k<(out.length:Int))then
  (Kk k out.length).bind λi=>
  (out[i]?).bind λx1=>
  some (decide (x1.J6<a.J6))
 else
  some false).bind λq=>
 bif q then
 some (.inl (Jd (k+1)))
 else
 some (.inr k)
def la(l:List Ask)(a:Ask):Option (List Ask×Int):=
 (kY l).bind λx=>
 (kb x (λa'=>u5 a'.1 a)).bind λout=>
 bif a.Ky == 0 then
 some (out,0)
 else
 bif decide ((out.length:Int)≥8)then
  some ([],4)
 else
  (loop (pE a out) 0).bind λk1=>
  (oQ out k1 [(⟨a.J6,a.Ji,⟨a.Ku.Mem,a.Ku.I_⟩,a.Ky,a.Node,a.KL,0⟩:Ask)]).bind λx2=>
  some (x2,0)
def afQ:Spec fam:=⟨[Q2,Q3],[QC,ge],λa=>la a.1 a.2.1⟩
def j9(a:App):Option (List Ask):=
 (la [] (⟨0,0,⟨a.Jb.Mem,a.Jb.I_⟩,1,(-1),(-1),0⟩:Ask)).bind λx=>
 some x.1
def ala:Spec fam:=⟨[QP],[QC],λa=>j9 a.1⟩
def h_(c:Cont)(p:Int)(p1:List Int):Option (Bool×List Int):=
 (
 bif c.App == p then
  (app 8 p1 [c.Id]).bind λl=>
  some l
 else
  some p1).bind λq=>
 some (c.App == p,q)
def afo:Spec fam:=⟨[QI,.rp (.int .i64),.box (.slice (.int .i64)) [0]],[gt],λa=>h_ a.1 a.2.1 a.2.2.1⟩
def oq(s:List Slot)(f:(Js fam [.st 8]→Option Bool))(t:Int):Option (Int ⊕ (Int ⊕ Unit)):=
 bif decide (t<(s.length:Int))then
 (idx s t).bind λx=>
 (f (x,())).bind λr=>
 bif r then
  some (.inr (.inl t))
 else
  some (.inl (Jd (t+1)))
 else
 some (.inr (.inr ()))
def gI(s:List Slot)(f:(Js fam [.st 8]→Option Bool)):Option Int:=
 (loop (oq s f) 0).bind λq0=>
 match q0 with
 | .inl q=>
 some q
 | .inr _=>
 some (-1)
def afr:Spec fam:=⟨[Qg,.fn [.st 8] .bool],[ge],λa=>gI a.1 a.2.1⟩
def oO(del:(Js fam [.st 8]→Option Bool))(t:List Slot×Int×Int):Option ((List Slot×Int×Int) ⊕ ((List Slot×Int))):=
 bif decide (t.2.2<(t.1.length:Int))then
 (
  (Kk t.2.2 t.1.length).bind λi1=>
  (t.1[i1]?).bind λx=>
  (del (x,())).bind λr=>
  bif ! r then
  (Kk t.2.1 t.1.length).bind λi2=>
  (t.1[i2]?).bind λx1=>
  some (List.set t.1 i2 x,Jd (t.2.1+1))
  else
  some (t.1,t.2.1)).bind λq=>
 some (.inl (q.1,q.2,Jd (t.2.2+1)))
 else
 some (.inr (t.1,t.2.1))
def eV(s:List Slot)(del:(Js fam [.st 8]→Option Bool)):Option (List Slot):=
 (gI s del).bind λi=>
 bif i == (-1)then
 some s
 else
 (loop (oO del) (s,i,Jd (i+1))).bind λq1=>
 (Ms q1.2 (q1.1.length:Int) q1.1.length).bind λp=>
 (Ms 0 q1.2 (LP q1.1 p.1 p.2 (List.replicate p.2 (⟨0,0,0⟩:Slot))).length).bind λp1=>
 some (List.take p1.2 (LP q1.1 p.1 p.2 (List.replicate p.2 (⟨0,0,0⟩:Slot))))
def afn:Spec fam:=⟨[Q1,.fn [.st 8] .bool],[Q1],λa=>eV a.1 a.2.1⟩
def nY(x:Slot)(p:Int):Option Bool:=
 some (x.App == p)
def afm:Spec fam:=⟨[Qr,.rp (.int .i64)],[gt],λa=>nY a.1 a.2.1⟩
def fV(s:List Cont)(p:Int)(t:List Int×Int):Option ((List Int×Int) ⊕ ((List Int×Int) ⊕ List Int)):=
 bif decide (t.2<(s.length:Int))then
 (Kk t.2 s.length).bind λi=>
 (s[i]?).bind λx=>
 (h_ x p t.1).bind λx1=>
 bif x1.1 then
  some (.inr (.inl (x1.2,t.2)))
 else
  some (.inl (x1.2,Jd (t.2+1)))
 else
 some (.inr (.inr (t.1)))
def k_(s:List Cont)(f:Unit)(p:Int)(p1:List Int):Option (Int×List Cont×List Int):=
 (loop (fV s p) (p1,0)).bind λq0=>
 match q0 with
 | .inl q=>
 some (q.2,s,q.1)
 | .inr s1=>
 some ((-1),s,s1)
def Fy:Spec fam:=⟨[.row (.st 7) false,.cl 148 2,.rp (.int .i64),.box (.slice (.int .i64)) [0]],[.v (.int .i64) []],λa=>k_ a.1 a.2.1 a.2.2.1 a.2.2.2.1⟩
def fG(p:Int)(t:List Cont×List Int×Int×Int):Option ((List Cont×List Int×Int×Int) ⊕ ((List Cont×List Int×Int))):=
 bif decide (t.2.2.2<(t.1.length:Int))then
 (
  (Kk t.2.2.2 t.1.length).bind λi1=>
  (t.1[i1]?).bind λx=>
  (h_ x p t.2.1).bind λx1=>
  bif ! x1.1 then
  (Kk t.2.2.1 t.1.length).bind λi2=>
  (t.1[i2]?).bind λx2=>
  some (List.set t.1 i2 x,x1.2,Jd (t.2.2.1+1))
  else
  some (t.1,x1.2,t.2.2.1)).bind λq=>
 some (.inl (q.1,q.2.1,q.2.2,Jd (t.2.2.2+1)))
 else
 some (.inr (t.1,t.2.1,t.2.2.1))
def fI(s:List Cont)(del:Unit)(p:Int)(p1:List Int):Option (List Cont×List Int):=
 (k_ s () p p1).bind λi=>
 bif i.1 == (-1)then
 some (i.2.1,i.2.2)
 else
 (loop (fG p) (i.2.1,i.2.2,i.1,Jd (i.1+1))).bind λq1=>
 (Ms q1.2.2 (q1.1.length:Int) q1.1.length).bind λp2=>
 (Ms 0 q1.2.2 (LP q1.1 p2.1 p2.2 (List.replicate p2.2 (⟨0,0,0,⟨0,0⟩,0,0,false,0⟩:Cont))).length).bind λp3=>
 some (List.take p3.2 (LP q1.1 p2.1 p2.2 (List.replicate p2.2 (⟨0,0,0,⟨0,0⟩,0,0,false,0⟩:Cont))),q1.2.1)
def Ex:Spec fam:=⟨[.v (.slice (.st 7)) [0],.cl 148 2,.rp (.int .i64),.box (.slice (.int .i64)) [0]],[.v (.slice (.st 7)) [0]],λa=>fI a.1 a.2.1 a.2.2.1 a.2.2.2.1⟩
def j6(s:Gp)(Li:Int):Option (Gp×List Int):=
 (fI s.I6 () Li []).bind λx=>
 (eV s.Jr (λa'=>nY a'.1 Li)).bind λx1=>
 some ((⟨⟨s.Jc.Je,s.Jc.I8⟩,s.Jh,s.I9,x.1,x1,s.Jq,s.Now,s.Jz,s.Seq⟩:Gp),x.2)
def ak_:Spec fam:=⟨[QJ,ge],[QJ,f0],λa=>j6 a.1 a.2.1⟩
def n_(s:Gp)(Li:Int):Option (Gp×List Int):=
 (fI s.I6 () Li []).bind λx=>
 (eV s.Jr (λa'=>nY a'.1 Li)).bind λx1=>
 some ((⟨⟨s.Jc.Je,s.Jc.I8⟩,s.Jh,s.I9,x.1,x1,s.Jq,s.Now,s.Jz,s.Seq⟩:Gp),x.2)
def Em:Spec fam:=⟨[.v (.st 10) [0,1,2,3,4,5,6],.v (.int .i64) []],[.v (.st 10) [0,1,2,3,4,5,6],.v (.slice (.int .i64)) [0]],λa=>n_ a.1 a.2.1⟩
def pL(s:Gp)(i:Int):Option Gp:=
 (Kk i s.I9.length).bind λi1=>
 (s.I9[i1]?).bind λx=>
 (j9 x).bind λx1=>
 (Kk i s.I9.length).bind λi2=>
 bif Nat.beq i2 i1 then
 (s.I9[i2]?).bind λx2=>
 (j6 (⟨⟨s.Jc.Je,s.Jc.I8⟩,s.Jh,List.set s.I9 i2 (⟨x.Id,1,x.Ja,x.User,x.J6,⟨x.Jb.Mem,x.Jb.I_⟩,x1,s.Now,0,[],[],[],[]⟩:App),s.I6,s.Jr,s.Jq,s.Now,s.Jz,s.Seq⟩:Gp) x.Id).bind λx3=>
 some x3.1
 else
 none
def al2:Spec fam:=⟨[QJ,ge],[QJ],λa=>pL a.1 a.2.1⟩
def hZ(s:List Cont)(i:Int)(j:Int):Option (List Cont):=del s i j
def al1:Spec fam:=⟨[QU,ge,ge],[QU],λa=>hZ a.1 a.2.1 a.2.2.1⟩
def gF(s:List Int)(v:Int)(t:Int):Option (Int ⊕ (Int ⊕ Unit)):=
 bif decide (t<(s.length:Int))then
 (idx s t).bind λx=>
 bif v == x then
  some (.inr (.inl t))
 else
  some (.inl (Jd (t+1)))
 else
 some (.inr (.inr ()))
def cN(s:List Int)(v:Int):Option Int:=
 (loop (gF s v) 0).bind λq0=>
 match q0 with
 | .inl q=>
 some q
 | .inr _=>
 some (-1)
def al0:Spec fam:=⟨[QQ,ge],[ge],λa=>cN a.1 a.2.1⟩
def eA(s:List Int)(i:Int)(j:Int):Option (List Int):=del s i j
def alZ:Spec fam:=⟨[f0,ge,ge],[f0],λa=>eA a.1 a.2.1 a.2.2.1⟩
def fY(ids:List Int)(t:Gp×Int):Option ((Gp×Int) ⊕ Gp):=
 bif decide (t.2<(ids.length:Int))then
 (
  (idx ids t.2).bind λx1=>
  (eB t.1.I6 (λa'=>tF a'.1 x1)).bind λk=>
  bif decide (k<0)then
  some t.1
  else
  (Kk k t.1.I6.length).bind λi=>
  (t.1.I6[i]?).bind λx2=>
  (jW t.1 x2.App).bind λi1=>
  (
   bif decide (i1≥0)then
   some x2.Jb
   else
   some false).bind λq=>
  bif q then
   (pL t.1 i1).bind λx3=>
   some x3
  else
   (hZ t.1.I6 k (Jd (k+1))).bind λx4=>
   bif decide (i1<0)then
   some (⟨⟨t.1.Jc.Je,t.1.Jc.I8⟩,t.1.Jh,t.1.I9,x4,t.1.Jr,t.1.Jq,t.1.Now,t.1.Jz,t.1.Seq⟩:Gp)
   else
   (Kk i1 t.1.I9.length).bind λi2=>
   (t.1.I9[i2]?).bind λx5=>
   (
    (cN x5.Kj x1).bind λj=>
    bif decide (j≥0)then
    (eA x5.Kj j (Jd (j+1))).bind λx6=>
    some (⟨x5.Id,x5.Gp,x5.Ja,x5.User,x5.J6,⟨x5.Jb.Mem,x5.Jb.I_⟩,x5.Jy,x5.KD,x5.J_,x6,x5.KJ,x5.Told,x5.Lm⟩:App)
    else
    (app 8 x5.KJ [x1]).bind λl=>
    some (⟨x5.Id,x5.Gp,x5.Ja,x5.User,x5.J6,⟨x5.Jb.Mem,x5.Jb.I_⟩,x5.Jy,x5.KD,x5.J_,x5.Kj,l,x5.Told,x5.Lm⟩:App)).bind λa=>
   (Kk i1 t.1.I9.length).bind λi3=>
   bif Nat.beq i3 i2 then
    (t.1.I9[i3]?).bind λx7=>
    some (⟨⟨t.1.Jc.Je,t.1.Jc.I8⟩,t.1.Jh,List.set t.1.I9 i3 a,x4,t.1.Jr,t.1.Jq,t.1.Now,t.1.Jz,t.1.Seq⟩:Gp)
   else
    none).bind λs1=>
 some (.inl (s1,Jd (t.2+1)))
 else
 some (.inr t.1)
def bj(s:Gp)(ids:List Int):Option Gp:=
 (oI s).bind λx=>
 (loop (fY ids) (x,0)).bind λs2=>
 (oI s2).bind λx8=>
 some x8
def amn:Spec fam:=⟨[f9,QQ],[QJ],λa=>bj a.1 a.2.1⟩
def jD(s:List UInt8):Option Bool:=Sq 12 s
def afB:Spec fam:=⟨[f8],[gt],λa=>jD a.1⟩
def lJ(l:List (List UInt8))(t:List Jf×Int):Option ((List Jf×Int) ⊕ (Int ⊕ List Jf)):=
 bif decide (t.2<(l.length:Int))then
 (idx l t.2).bind λx=>
 (
  bif t.2 == 0 then
  bif ! (x == ([]:List UInt8))then
   some true
  else
   bif decide (t.2>0)then
   (jD x).bind λx1=>
   some (! x1)
   else
   some false
  else
  bif decide (t.2>0)then
   (jD x).bind λx2=>
   some (! x2)
  else
   some false).bind λq=>
 bif q then
  some (.inr (.inl 12))
 else
  let e:=Lx (λx3=>x == x3.k) t.1 (⟨x,0⟩:Jf)
  some (.inl (Lu (λx4=>x == x4.k) t.1 (⟨x,Jd (e.v+1)⟩:Jf),Jd (t.2+1)))
 else
 some (.inr (.inr (t.1)))
def lO(l:List (List UInt8)):Option Int:=
 (loop (lJ l) ([],0)).bind λq0=>
 match q0 with
 | .inl q1=>
 some q1
 | .inr was=>
 bif decide ((was.length:Int)<(l.length:Int))then
  some 7
 else
  some 0
def alM:Spec fam:=⟨[QA],[ge],λa=>lO a.1⟩
def kA(s:List UInt8)(c:Int)(i1:Int):Option (Int ⊕ (Int ⊕ Unit)):=
 bif decide (i1≥0)then
 (idx s i1).bind λch=>
 bif(ch.toNat:Int) == c then
  some (.inr (.inl i1))
 else
  some (.inl (Jd (i1 - 1)))
 else
 some (.inr (.inr ()))
def bW(s:List UInt8)(c:Int):Option Int:=
 let i:=Jd ((s.length:Int) - 1)
 (loop (kA s c) i).bind λq0=>
 match q0 with
 | .inl q=>
 some q
 | .inr _=>
 some (-1)
def aep:Spec fam:=⟨[f8,.v (.int .u8) []],[ge],λa=>bW a.1 a.2.1⟩
def kP(t1:Int×Int×Int):Option ((Int×Int×Int) ⊕ Int):=
 bif decide (t1.2.2>0)then
 (
  bif(Pj .i64 t1.2.2 1) != 0 then
  let pow:=IntKind.u32.wrap (t1.1*t1.2.1)
  some pow
  else
  some t1.1).bind λamB=>
 let sq:=IntKind.u32.wrap (t1.2.1*t1.2.1)
 some (.inl (amB,sq,Mi .i64 t1.2.2 1))
 else
 some (.inr t1.1)
def kQ(sep:List UInt8)(t:Int×Int):Option ((Int×Int) ⊕ Int):=
 bif decide (t.2≥0)then
 (idx sep t.2).bind λch=>
 let hash:=IntKind.u32.wrap ((IntKind.u32.wrap (t.1*16777619))+(IntKind.u32.wrap (ch.toNat:Int)))
 some (.inl (hash,Jd (t.2 - 1)))
 else
 some (.inr t.1)
def gN(sep:List UInt8):Option (Int×Int):=
 let i:=Jd ((sep.length:Int) - 1)
 (loop (kQ sep) (0,i)).bind λajs=>
 (loop kP (1,16777619,(sep.length:Int))).bind λpow2=>
 some (ajs,pow2)
def adR:Spec fam:=⟨[f8],[Q0,Q0],λa=>gN a.1⟩
def g_(s:List UInt8)(sep:List UInt8)(x:Int×Int)(t1:Int×Int):Option ((Int×Int) ⊕ (Int ⊕ Unit)):=
 bif decide (t1.2≥0)then
 (idx s t1.2).bind λch1=>
 let h2:=IntKind.u32.wrap ((IntKind.u32.wrap (t1.1*16777619))+(IntKind.u32.wrap (ch1.toNat:Int)))
 (idx s (Jd (t1.2+(sep.length:Int)))).bind λch2=>
 let h3:=IntKind.u32.wrap (h2 - (IntKind.u32.wrap (x.2*(IntKind.u32.wrap (ch2.toNat:Int)))))
 (
  bif h3 == x.1 then
  (slc s t1.2 (Jd (t1.2+(sep.length:Int)))).bind λs2=>
  some (s2 == sep)
  else
  some false).bind λq1=>
 bif q1 then
  some (.inr (.inl (t1.2)))
 else
  some (.inl (h3,Jd (t1.2 - 1)))
 else
 some (.inr (.inr ()))
def hF(s:List UInt8)(last:Int)(t:Int×Int):Option ((Int×Int) ⊕ Int):=
 bif decide (t.2≥last)then
 (idx s t.2).bind λch=>
 let h:=IntKind.u32.wrap ((IntKind.u32.wrap (t.1*16777619))+(IntKind.u32.wrap (ch.toNat:Int)))
 some (.inl (h,Jd (t.2 - 1)))
 else
 some (.inr t.1)
def dI(s:List UInt8)(sep:List UInt8):Option Int:=
 (gN sep).bind λx=>
 let last:=Jd ((s.length:Int) - (sep.length:Int))
 let i:=Jd ((s.length:Int) - 1)
 (loop (hF s last) (0,i)).bind λh1=>
 (
 bif h1 == x.1 then
  (slc s last (s.length:Int)).bind λs1=>
  some (s1 == sep)
 else
  some false).bind λq=>
 bif q then
 some last
 else
 (loop (g_ s sep x) (h1,Jd (last - 1))).bind λq0=>
 match q0 with
 | .inl q2=>
  some q2
 | .inr _=>
  some (-1)
def aeo:Spec fam:=⟨[f8,f8],[ge],λa=>dI a.1 a.2.1⟩
def iV(s:List UInt8)(substr:List UInt8):Option Int:=
 bif(substr.length:Int) == 0 then
 some (s.length:Int)
 else
 bif(substr.length:Int) == 1 then
  (idx substr 0).bind λch=>
  (bW s (ch.toNat:Int)).bind λx=>
  some x
 else
  bif(substr.length:Int) == (s.length:Int)then
  bif substr == s then
   some 0
  else
   some (-1)
  else
  bif decide ((substr.length:Int)>(s.length:Int))then
   some (-1)
  else
   (dI s substr).bind λx1=>
   some x1
def aeT:Spec fam:=⟨[f8,f8],[ge],λa=>iV a.1 a.2.1⟩
def iv(Kn:List UInt8):Option (List UInt8×Bool):=
 (iV Kn ([46]:List UInt8)).bind λi=>
 bif decide (i<0)then
 some (([]:List UInt8),false)
 else
 (slc Kn 0 i).bind λs=>
 some (s,true)
def afA:Spec fam:=⟨[f8],[f8,gt],λa=>iv a.1⟩
def jb(s:List UInt8):Option Int:=
 none
def adP:Spec fam:=⟨[f8],[ge],λa=>jb a.1⟩
def gn(s:List UInt8):Option (Int×Int):=
 bif decide ((s.length:Int)<1)then
 some (65533,0)
 else
 (idx s 0).bind λch=>
 none
def adv:Spec fam:=⟨[f8],[.v (.int .i32) [],ge],λa=>gn a.1⟩
def iR(s:List UInt8):Option (Int×Int):=
 (
 bif ! (s == ([]:List UInt8))then
  (idx s 0).bind λch=>
  some (decide ((ch.toNat:Int)<128))
 else
  some false).bind λq=>
 bif q then
 (idx s 0).bind λch1=>
 some (IntKind.i32.wrap (ch1.toNat:Int),1)
 else
 (gn s).bind λx=>
 some (x.1,x.2)
def adO:Spec fam:=⟨[f8],[.v (.int .i32) [],ge],λa=>iR a.1⟩
def sa(n1:Int)(t:List UInt8×List (List UInt8)×Int):Option ((List UInt8×List (List UInt8)×Int) ⊕ ((List UInt8×List (List UInt8)))):=
 bif decide (t.2.2<(Jd (n1 - 1)))then
 (iR t.1).bind λx=>
 (slc t.1 0 x.2).bind λs1=>
 (Kk t.2.2 t.2.1.length).bind λi=>
 (t.2.1[i]?).bind λx1=>
 (slc t.1 x.2 (t.1.length:Int)).bind λs2=>
 some (.inl (s2,List.set t.2.1 i s1,Jd (t.2.2+1)))
 else
 some (.inr (t.1,t.2.1))
def po(s:List UInt8)(n:Int):Option (List (List UInt8)):=
 (jb s).bind λl=>
 (
 (
  bif decide (n<0)then
  some true
  else
  some (decide (n>l))).bind λq=>
 bif q then
  some l
 else
  some n).bind λn1=>
 (P7 16 n1 n1 []).bind λl1=>
 (loop (sa n1) (s,l1,0)).bind λq1=>
 (
 bif decide (n1>0)then
  (Kk (Jd (n1 - 1)) q1.2.length).bind λi1=>
  (q1.2[i1]?).bind λx2=>
  some (List.set q1.2 i1 q1.1)
 else
  some q1.2).bind λa=>
 some a
def aej:Spec fam:=⟨[f8,ge],[t6],λa=>po a.1 a.2.1⟩
def mK(s:List UInt8)(sub:List UInt8):Option Int:=cnt1 s sub
def aei:Spec fam:=⟨[f8,f8],[ge],λa=>mK a.1 a.2.1⟩
def du(s:List UInt8)(c:Int):Option Int:=ixb s c
def adu:Spec fam:=⟨[f8,.v (.int .u8) []],[ge],λa=>du a.1 a.2.1⟩
def fP(s:List UInt8)(substr:List UInt8):Option Int:=
 (
 bif(substr.length:Int) == 0 then
  some true
 else
  some (substr == s)).bind λq=>
 bif q then
 some 0
 else
 bif(substr.length:Int) == 1 then
  (idx substr 0).bind λch=>
  (du s (ch.toNat:Int)).bind λx=>
  some x
 else
  bif decide ((substr.length:Int)≥(s.length:Int))then
  some (-1)
  else
  none
def adN:Spec fam:=⟨[f8,f8],[ge],λa=>fP a.1 a.2.1⟩
def gH(s:List UInt8)(substr:List UInt8):Option Int:=
 (fP s substr).bind λx=>
 some x
def aeh:Spec fam:=⟨[f8,f8],[ge],λa=>gH a.1 a.2.1⟩
def kW(sep:List UInt8)(sepSave:Int)(n2:Int)(t:List UInt8×List (List UInt8)×Int):Option ((List UInt8×List (List UInt8)×Int) ⊕ ((List UInt8×List (List UInt8)×Int))):=
 bif decide (t.2.2<(Jd (n2 - 1)))then
 (gH t.1 sep).bind λm=>
 bif decide (m<0)then
  some (.inr (t.1,t.2.1,t.2.2))
 else
  (slc t.1 0 (Jd (m+sepSave))).bind λs1=>
  (Kk t.2.2 t.2.1.length).bind λi=>
  (t.2.1[i]?).bind λx2=>
  (slc t.1 (Jd (m+(sep.length:Int))) (t.1.length:Int)).bind λs2=>
  some (.inl (s2,List.set t.2.1 i s1,Jd (t.2.2+1)))
 else
 some (.inr (t.1,t.2.1,t.2.2))
def jz(s:List UInt8)(sep:List UInt8)(sepSave:Int)(n:Int):Option (List (List UInt8)):=
 bif n == 0 then
 some []
 else
 bif sep == ([]:List UInt8)then
  (po s n).bind λx=>
  some x
 else
  (
  bif decide (n<0)then
   (mK s sep).bind λx1=>
   some (Jd (x1+1))
  else
   some n).bind λn1=>
  let n2:=Oj n1 (Jd ((s.length:Int)+1))
  (P7 16 n2 n2 []).bind λl=>
  (loop (kW sep sepSave n2) (s,l,0)).bind λq=>
  (Kk q.2.2 q.2.1.length).bind λi1=>
  (q.2.1[i1]?).bind λx3=>
  (Ms 0 (Jd (q.2.2+1)) (List.set q.2.1 i1 q.1).length).bind λp=>
  some (List.take p.2 (List.set q.2.1 i1 q.1))
def aeL:Spec fam:=⟨[f8,f8,ge,ge],[t6],λa=>jz a.1 a.2.1 a.2.2.1 a.2.2.2.1⟩
def e_(s:List UInt8)(sep:List UInt8):Option (List (List UInt8)):=
 (jz s sep 0 (-1)).bind λx=>
 some x
def afk:Spec fam:=⟨[f8,f8],[t6],λa=>e_ a.1 a.2.1⟩
def bJ(s:List (List UInt8))(f:(Js fam [.str]→Option Bool))(t:Int):Option (Int ⊕ (Int ⊕ Unit)):=
 bif decide (t<(s.length:Int))then
 (idx s t).bind λx=>
 (f (x,())).bind λr=>
 bif r then
  some (.inr (.inl t))
 else
  some (.inl (Jd (t+1)))
 else
 some (.inr (.inr ()))
def aX(s:List (List UInt8))(f:(Js fam [.str]→Option Bool)):Option Int:=
 (loop (bJ s f) 0).bind λq0=>
 match q0 with
 | .inl q=>
 some q
 | .inr _=>
 some (-1)
def aen:Spec fam:=⟨[QA,.fn [.str] .bool],[ge],λa=>aX a.1 a.2.1⟩
def bO(s:List (List UInt8))(f:(Js fam [.str]→Option Bool)):Option Bool:=
 (aX s f).bind λx=>
 some (decide (x≥0))
def aeS:Spec fam:=⟨[QA,.fn [.str] .bool],[gt],λa=>bO a.1 a.2.1⟩
def gG(n:List UInt8):Option Bool:=
 (jD n).bind λx=>
 some (! x)
def aeR:Spec fam:=⟨[f8],[gt],λa=>gG a.1⟩
def mb(s:List UInt8):Option Bool:=
 (e_ s ([46]:List UInt8)).bind λl=>
 (Kk 0 l.length).bind λi=>
 (l[i]?).bind λx=>
 bif x == ([114,111,111,116]:List UInt8)then
 bif decide ((l.length:Int)≤4)then
  (bO l (λa'=>gG a'.1)).bind λx1=>
  some (! x1)
 else
  some false
 else
 some false
def afz:Spec fam:=⟨[f8],[gt],λa=>mb a.1⟩
def pw(s:List Cap)(f:(Js fam [.st 1]→Option Bool))(t:Int):Option (Int ⊕ (Int ⊕ Unit)):=
 bif decide (t<(s.length:Int))then
 (idx s t).bind λx=>
 (f (x,())).bind λr=>
 bif r then
  some (.inr (.inl t))
 else
  some (.inl (Jd (t+1)))
 else
 some (.inr (.inr ()))
def oF(s:List Cap)(f:(Js fam [.st 1]→Option Bool)):Option Int:=
 (loop (pw s f) 0).bind λq0=>
 match q0 with
 | .inl q=>
 some q
 | .inr _=>
 some (-1)
def aem:Spec fam:=⟨[Qh,.fn [.st 1] .bool],[ge],λa=>oF a.1 a.2.1⟩
def nT(s:List Cap)(f:(Js fam [.st 1]→Option Bool)):Option Bool:=
 (oF s f).bind λx=>
 some (decide (x≥0))
def aeQ:Spec fam:=⟨[Qh,.fn [.st 1] .bool],[gt],λa=>nT a.1 a.2.1⟩
def jf(c:Cap):Option Bool:=
 bif decide (c.LB<0)then
 some true
 else
 bif decide (c.Most>10000)then
  some true
 else
  some (decide (c.LB>c.Most))
def aeP:Spec fam:=⟨[Qz],[gt],λa=>jf a.1⟩
def oW(l:List Cap):Option Bool:=
 (nT l (λa'=>jf a'.1)).bind λx=>
 some (! x)
def afy:Spec fam:=⟨[Qh],[gt],λa=>oW a.1⟩
def iK(c:Jc)(t:List Jf×List UInt8×Int):Option ((List Jf×List UInt8×Int) ⊕ (Int ⊕ Unit)):=
 bif decide (t.2.2<(c.I8.length:Int))then
 (idx c.I8 t.2.2).bind λx=>
 (iv x.Kh).bind λx1=>
 (mb x.Kh).bind λx2=>
 bif ! x2 then
  some (.inr (.inl 12))
 else
  (
  bif decide (t.2.2>0)then
   some (OH x.Kh t.2.1)
  else
   some false).bind λq=>
  bif q then
  some (.inr (.inl 7))
  else
  (
   bif x1.2 then
   let e:=Lx (λx3=>x1.1 == x3.k) t.1 (⟨x1.1,0⟩:Jf)
   some (e.v == 0)
   else
   some false).bind λq1=>
  bif q1 then
   some (.inr (.inl 12))
  else
   (
   bif decide (x.User<1)then
    some true
   else
    bif decide (x.User>1000000)then
    some true
    else
    bif(x.KZ.length:Int) != (c.Je.length:Int)then
     some true
    else
     (oW x.KZ).bind λx4=>
     some (! x4)).bind λq2=>
   bif q2 then
   some (.inr (.inl 1))
   else
   let e1:=Lx (λx5=>x.Kh == x5.k) t.1 (⟨x.Kh,0⟩:Jf)
   some (.inl (Lu (λx6=>x.Kh == x6.k) t.1 (⟨x.Kh,Jd (e1.v+1)⟩:Jf),x.Kh,Jd (t.2.2+1)))
 else
 some (.inr (.inr ()))
def lN(c:Jc):Option Int:=
 (loop (iK c) ([],([]:List UInt8),0)).bind λq0=>
 match q0 with
 | .inl q3=>
 some q3
 | .inr _=>
 some 0
def alL:Spec fam:=⟨[Q5],[ge],λa=>lN a.1⟩
def kf(c:Jc)(Kn:List UInt8)(t:List (List UInt8)×Int):Option ((List (List UInt8)×Int) ⊕ List (List UInt8)):=
 bif decide (t.2<(c.I8.length:Int))then
 (
  (idx c.I8 t.2).bind λx=>
  (iv x.Kh).bind λx1=>
  (
  bif x1.2 then
   some (x1.1 == Kn)
  else
   some false).bind λq=>
  bif q then
  (app 16 t.1 [x.Kh]).bind λl=>
  some l
  else
  some t.1).bind λout=>
 some (.inl (out,Jd (t.2+1)))
 else
 some (.inr t.1)
def iq(c:Jc)(Kn:List UInt8):Option (List (List UInt8)):=
 (loop (kf c Kn) ([],0)).bind λLQ=>
 some LQ
def afx:Spec fam:=⟨[Q5,f8],[t6],λa=>iq a.1 a.2.1⟩
def iY(s:List Ja)(f:(Js fam [.st 2]→Option Bool))(t:Int):Option (Int ⊕ (Int ⊕ Unit)):=
 bif decide (t<(s.length:Int))then
 (idx s t).bind λx=>
 (f (x,())).bind λr=>
 bif r then
  some (.inr (.inl t))
 else
  some (.inl (Jd (t+1)))
 else
 some (.inr (.inr ()))
def lF(s:List Ja)(f:(Js fam [.st 2]→Option Bool)):Option Int:=
 (loop (iY s f) 0).bind λq0=>
 match q0 with
 | .inl q=>
 some q
 | .inr _=>
 some (-1)
def aeO:Spec fam:=⟨[.v (.slice (.st 2)) [],.fn [.st 2] .bool],[ge],λa=>lF a.1 a.2.1⟩
def ma(q:Ja)(p:List UInt8):Option Bool:=
 some (q.Kh == p)
def aeN:Spec fam:=⟨[.v (.st 2) [],.rp .str],[gt],λa=>ma a.1 a.2.1⟩
def gm(c:Jc)(Kn:List UInt8):Option (Ja×Bool):=
 (lF c.I8 (λa'=>ma a'.1 Kn)).bind λi=>
 bif decide (i<0)then
 some ((⟨[],[],0⟩:Ja),false)
 else
 (idx c.I8 i).bind λx=>
 (ip x.KZ).bind λx1=>
 some ((⟨x.Kh,x1,x.User⟩:Ja),true)
def afw:Spec fam:=⟨[Q5,f8],[.v (.st 2) [1],gt],λa=>gm a.1 a.2.1⟩
def oz(c:Jc)(kids:List (List UInt8))(t2:Int)(t3:Int×Int):Option ((Int×Int) ⊕ Int):=
 bif decide (t3.2<(kids.length:Int))then
 (Kk t3.2 kids.length).bind λi=>
 (kids[i]?).bind λx3=>
 (gm c x3).bind λx4=>
 (Kk t2 x4.1.KZ.length).bind λi1=>
 (x4.1.KZ[i1]?).bind λx5=>
 let sum:=Jd (t3.1+x5.LB)
 some (.inl (sum,Jd (t3.2+1)))
 else
 some (.inr t3.1)
def oS(c:Jc)(kids:List (List UInt8))(t2:Int):Option (Int ⊕ (Int ⊕ Unit)):=
 bif decide (t2<(c.Je.length:Int))then
 (loop (oz c kids t2) (0,0)).bind λZN=>
 (
  bif decide ((kids.length:Int)>0)then
  some (ZN != 10000)
  else
  some false).bind λq2=>
 bif q2 then
  some (.inr (.inl 13))
 else
  some (.inl (Jd (t2+1)))
 else
 some (.inr (.inr ()))
def ol(c:Jc)(t1:Int):Option (Int ⊕ (Int ⊕ Unit)):=
 bif decide (t1<(c.I8.length:Int))then
 (idx c.I8 t1).bind λx2=>
 (iq c x2.Kh).bind λkids=>
 (loop (oS c kids) 0).bind λq0=>
 match q0 with
 | .inl q3=>
  some (.inr (.inl q3))
 | .inr _=>
  some (.inl (Jd (t1+1)))
 else
 some (.inr (.inr ()))
def nU(x:Ja)(t:Int):Option (Int ⊕ (Int ⊕ Unit)):=
 bif decide (t<(x.KZ.length:Int))then
 (idx x.KZ t).bind λx1=>
 (
  bif x1.LB != 10000 then
  some true
  else
  some (x1.Most != 10000)).bind λq=>
 bif q then
  some (.inr (.inl 13))
 else
  some (.inl (Jd (t+1)))
 else
 some (.inr (.inr ()))
def pj(c:Jc):Option Int:=
 (idx c.I8 0).bind λx=>
 (loop (nU x) 0).bind λq0=>
 match q0 with
 | .inl q1=>
 some q1
 | .inr _=>
 (loop (ol c) 0).bind λq0=>
 match q0 with
 | .inl q4=>
  some q4
 | .inr _=>
  some 0
def alK:Spec fam:=⟨[Q5],[ge],λa=>pj a.1⟩
def jX(c:Jc):Option Int:=
 (
 bif(c.Je.length:Int) == 0 then
  some true
 else
  bif decide ((c.Je.length:Int)>3)then
  some true
  else
  some (decide ((c.I8.length:Int)>16))).bind λq=>
 bif q then
 some 4
 else
 (lO c.Je).bind λe=>
 bif e != 0 then
  some e
 else
  (
  bif(c.I8.length:Int) == 0 then
   some true
  else
   (idx c.I8 0).bind λx=>
   some (! (x.Kh == ([114,111,111,116]:List UInt8)))).bind λq1=>
  bif q1 then
  some 12
  else
  (lN c).bind λe1=>
  bif e1 != 0 then
   some e1
  else
   (pj c).bind λx1=>
   some x1
def aml:Spec fam:=⟨[Q5],[ge],λa=>jX a.1⟩
def aO(e:Int):Option Output:=
 some (⟨e,[],[],[],0⟩:Output)
def alN:Spec fam:=⟨[ge],[QN],λa=>aO a.1⟩
def ci(a:App):Option Bool:=
 bif a.Gp == 1 then
 some true
 else
 some (a.Gp == 2)
def aly:Spec fam:=⟨[QP],[gt],λa=>ci a.1⟩
def jL(c:Jc)(Kn:List UInt8):Option Bool:=
 (gm c Kn).bind λx=>
 bif x.2 then
 (iq c Kn).bind λx1=>
 some ((x1.length:Int) == 0)
 else
 some false
def alq:Spec fam:=⟨[Q5,f8],[gt],λa=>jL a.1 a.2.1⟩
def gR(s:List UInt8):Option (Int×Bool):=Vl s
def ael:Spec fam:=⟨[f8],[ge,gt],λa=>gR a.1⟩
def kD(s:List UInt8)(sep:List UInt8):Option (List UInt8×List UInt8×Bool):=
 (fP s sep).bind λi=>
 bif decide (i≥0)then
 (slc s 0 i).bind λs1=>
 (slc s (Jd (i+(sep.length:Int))) (s.length:Int)).bind λs2=>
 some (s1,s2,true)
 else
 some (s,([]:List UInt8),false)
def adw:Spec fam:=⟨[f8,f8],[f8,f8,gt],λa=>kD a.1 a.2.1⟩
def pF(s:List UInt8)(sep:List UInt8):Option (List UInt8×List UInt8×Bool):=
 (kD s sep).bind λx=>
 some (x.1,x.2.1,x.2.2)
def adQ:Spec fam:=⟨[f8,f8],[f8,f8,gt],λa=>pF a.1 a.2.1⟩
def nr(w:List UInt8):Option (Cap×Bool):=
 (pF w ([47]:List UInt8)).bind λx=>
 (gR x.1).bind λx1=>
 (gR x.2.1).bind λx2=>
 bif x.2.2 then
 bif x1.2 then
  some ((⟨x1.1,x2.1⟩:Cap),x2.2)
 else
  some ((⟨x1.1,x2.1⟩:Cap),false)
 else
 some ((⟨x1.1,x2.1⟩:Cap),false)
def aek:Spec fam:=⟨[f8],[Qz,gt],λa=>nr a.1⟩
def dW(l:List (List UInt8))(t:Bool×Ja×Int):Option ((Bool×Ja×Int) ⊕ ((Bool×Ja))):=
 bif decide (t.2.2<(l.length:Int))then
 (idx l t.2.2).bind λx3=>
 (nr x3).bind λx4=>
 (
  bif t.1 then
  some x4.2
  else
  some false).bind λok=>
 (app 16 t.2.1.KZ [x4.1]).bind λl1=>
 some (.inl (ok,(⟨t.2.1.Kh,l1,t.2.1.User⟩:Ja),Jd (t.2.2+1)))
 else
 some (.inr (t.1,t.2.1))
def fM(r:Reader)(w:List (List UInt8)):Option (Int×Reader):=
 bif decide ((r.c.I8.length:Int)≥16)then
 some (4,r)
 else
 bif(w.length:Int) != (Jd (3+(r.c.Je.length:Int)))then
  some (6,r)
 else
  (idx w 2).bind λx=>
  (gR x).bind λx1=>
  (idx w 1).bind λx2=>
  (slc w 3 (w.length:Int)).bind λl=>
  (loop (dW l) (x1.2,(⟨x2,[],x1.1⟩:Ja),0)).bind λq=>
  bif ! q.1 then
  some (6,r)
  else
  (app 48 r.c.I8 [q.2]).bind λl2=>
  some (0,(⟨⟨r.c.Je,l2⟩,r.seen⟩:Reader))
def aeM:Spec fam:=⟨[Qm,QA],[ge],λa=>fM a.1 a.2.1⟩
def gA(r:Reader)(w:List (List UInt8)):Option (Int×Reader):=
 bif(w.length:Int) == 0 then
 some (0,r)
 else
 (
  bif ! r.seen then
  (idx w 0).bind λx=>
  some (x == ([108,97,98,101,108,115]:List UInt8))
  else
  some false).bind λq=>
 bif q then
  bif decide ((w.length:Int)>3)then
  some (4,(⟨⟨r.c.Je,r.c.I8⟩,true⟩:Reader))
  else
  (P7 16 (w.length:Int) (w.length:Int) []).bind λl=>
  (Ms 1 (l.length:Int) l.length).bind λp=>
  (slc w 1 (w.length:Int)).bind λl1=>
  some (0,(⟨⟨LP l p.1 p.2 l1,r.c.I8⟩,true⟩:Reader))
 else
  (
  bif ! r.seen then
   some true
  else
   (idx w 0).bind λx1=>
   some (! (x1 == ([113,117,101,117,101]:List UInt8)))).bind λq1=>
  bif q1 then
  some (6,r)
  else
  (fM r w).bind λx2=>
  some (x2.1,x2.2)
def afl:Spec fam:=⟨[Qm,QA],[ge],λa=>gA a.1 a.2.1⟩
def cT(del:(Js fam [.str]→Option Bool))(t:List (List UInt8)×Int×Int):Option ((List (List UInt8)×Int×Int) ⊕ ((List (List UInt8)×Int))):=
 bif decide (t.2.2<(t.1.length:Int))then
 (
  (Kk t.2.2 t.1.length).bind λi1=>
  (t.1[i1]?).bind λx=>
  (del (x,())).bind λr=>
  bif ! r then
  (Kk t.2.1 t.1.length).bind λi2=>
  (t.1[i2]?).bind λx1=>
  some (List.set t.1 i2 x,Jd (t.2.1+1))
  else
  some (t.1,t.2.1)).bind λq=>
 some (.inl (q.1,q.2,Jd (t.2.2+1)))
 else
 some (.inr (t.1,t.2.1))
def bk(s:List (List UInt8))(del:(Js fam [.str]→Option Bool)):Option (List (List UInt8)):=
 (aX s del).bind λi=>
 bif i == (-1)then
 some s
 else
 (loop (cT del) (s,i,Jd (i+1))).bind λq1=>
 (Ms q1.2 (q1.1.length:Int) q1.1.length).bind λp=>
 (Ms 0 q1.2 (LP q1.1 p.1 p.2 (List.replicate p.2 [])).length).bind λp1=>
 some (List.take p1.2 (LP q1.1 p.1 p.2 (List.replicate p.2 [])))
def aeK:Spec fam:=⟨[t6,.fn [.str] .bool],[t6],λa=>bk a.1 a.2.1⟩
def so(w:List UInt8):Option Bool:=
 some (w == ([]:List UInt8))
def aeJ:Spec fam:=⟨[f8],[gt],λa=>so a.1⟩
def ni(line:List UInt8):Option (List (List UInt8)):=
 (e_ line ([32]:List UInt8)).bind λx=>
 (bk x (λa'=>so a'.1)).bind λx1=>
 some x1
def afj:Spec fam:=⟨[f8],[t6],λa=>ni a.1⟩
def tk(a:Int)(cmp:(Js fam [.st 2,.st 2]→Option Int))(t1:List Ja×Int):Option ((List Ja×Int) ⊕ List Ja):=
 (
 bif decide (t1.2>a)then
  (Kk t1.2 t1.1.length).bind λi=>
  (t1.1[i]?).bind λx=>
  (Kk (Jd (t1.2 - 1)) t1.1.length).bind λi1=>
  (t1.1[i1]?).bind λx1=>
  (cmp (x,x1,())).bind λr=>
  some (decide (r<0))
 else
  some false).bind λq=>
 bif q then
 (Kk (Jd (t1.2 - 1)) t1.1.length).bind λi2=>
 (t1.1[i2]?).bind λx2=>
 (Kk t1.2 t1.1.length).bind λi3=>
 (t1.1[i3]?).bind λx3=>
 (Kk t1.2 t1.1.length).bind λi4=>
 (t1.1[i4]?).bind λx4=>
 (Kk (Jd (t1.2 - 1)) (List.set t1.1 i4 x2).length).bind λi5=>
 ((List.set t1.1 i4 x2)[i5]?).bind λx5=>
 some (.inl (List.set (List.set t1.1 i4 x2) i5 x3,Jd (t1.2 - 1)))
 else
 some (.inr t1.1)
def tz(a:Int)(b:Int)(cmp:(Js fam [.st 2,.st 2]→Option Int))(t:List Ja×Int):Option ((List Ja×Int) ⊕ List Ja):=
 bif decide (t.2<b)then
 (loop (tk a cmp) (t.1,t.2)).bind λMN=>
 some (.inl (MN,Jd (t.2+1)))
 else
 some (.inr t.1)
def iC(data:List Ja)(a:Int)(b:Int)(cmp:(Js fam [.st 2,.st 2]→Option Int)):Option (List Ja):=
 (loop (tz a b cmp) (data,Jd (a+1))).bind λNJ=>
 some NJ
def aeg:Spec fam:=⟨[t8,ge,ge,.fn [.st 2,.st 2] (.int .i64)],[],λa=>iC a.1 a.2.1 a.2.2.1 a.2.2.2.1⟩
def tx(a:Int)(b:Int)(n:Int)(t:List Ja×Int):Option ((List Ja×Int) ⊕ List Ja):=
 bif decide (t.2<n)then
 (Kk (Jd (b+t.2)) t.1.length).bind λi=>
 (t.1[i]?).bind λx=>
 (Kk (Jd (a+t.2)) t.1.length).bind λi1=>
 (t.1[i1]?).bind λx1=>
 (Kk (Jd (a+t.2)) t.1.length).bind λi2=>
 (t.1[i2]?).bind λx2=>
 (Kk (Jd (b+t.2)) (List.set t.1 i2 x).length).bind λi3=>
 ((List.set t.1 i2 x)[i3]?).bind λx3=>
 some (.inl (List.set (List.set t.1 i2 x) i3 x1,Jd (t.2+1)))
 else
 some (.inr t.1)
def iO(data:List Ja)(a:Int)(b:Int)(n:Int)(cmp:(Js fam [.st 2,.st 2]→Option Int)):Option (List Ja):=
 (loop (tx a b n) (data,0)).bind λMN=>
 some MN
def adt:Spec fam:=⟨[t8,ge,ge,ge,.fn [.st 2,.st 2] (.int .i64)],[],λa=>iO a.1 a.2.1 a.2.2.1 a.2.2.2.1 a.2.2.2.2.1⟩
def tv(m:Int)(cmp:(Js fam [.st 2,.st 2]→Option Int))(t:List Ja×Int×Int):Option ((List Ja×Int×Int) ⊕ ((List Ja×Int))):=
 bif t.2.1 != t.2.2 then
 bif decide (t.2.1>t.2.2)then
  (iO t.1 (Jd (m - t.2.1)) m t.2.2 cmp).bind λx=>
  let i:=Jd (t.2.1 - t.2.2)
  some (.inl (x,i,t.2.2))
 else
  (iO t.1 (Jd (m - t.2.1)) (Jd ((Jd (m+t.2.2)) - t.2.1)) t.2.1 cmp).bind λx1=>
  let j:=Jd (t.2.2 - t.2.1)
  some (.inl (x1,t.2.1,j))
 else
 some (.inr (t.1,t.2.1))
def pY(data:List Ja)(a:Int)(m:Int)(b:Int)(cmp:(Js fam [.st 2,.st 2]→Option Int)):Option (List Ja):=
 (loop (tv m cmp) (data,Jd (m - a),Jd (b - m))).bind λq=>
 (iO q.1 (Jd (m - q.2)) m q.2 cmp).bind λx2=>
 some x2
def adM:Spec fam:=⟨[t8,ge,ge,ge,.fn [.st 2,.st 2] (.int .i64)],[],λa=>pY a.1 a.2.1 a.2.2.1 a.2.2.2.1 a.2.2.2.2.1⟩
def rg(data:List Ja)(cmp:(Js fam [.st 2,.st 2]→Option Int))(p:Int)(t4:Int×Int):Option ((Int×Int) ⊕ Int):=
 bif decide (t4.1<t4.2)then
 let c:=Jd (Mi .u64 (IntKind.u64.wrap (Jd (t4.1+t4.2))) 1)
 (Kk (Jd (p - c)) data.length).bind λi14=>
 (data[i14]?).bind λOA=>
 (Kk c data.length).bind λi15=>
 (data[i15]?).bind λPw=>
 (cmp (OA,Pw,())).bind λr2=>
 bif ! (decide (r2<0))then
  some (.inl (Jd (c+1),t4.2))
 else
  some (.inl (t4.1,c))
 else
 some (.inr t4.1)
def rn(i9:Int)(t3:List Ja×Int):Option ((List Ja×Int) ⊕ List Ja):=
 bif decide (t3.2>i9)then
 (Kk (Jd (t3.2 - 1)) t3.1.length).bind λi10=>
 (t3.1[i10]?).bind λx8=>
 (Kk t3.2 t3.1.length).bind λi11=>
 (t3.1[i11]?).bind λx9=>
 (Kk t3.2 t3.1.length).bind λi12=>
 (t3.1[i12]?).bind λx10=>
 (Kk (Jd (t3.2 - 1)) (List.set t3.1 i12 x8).length).bind λi13=>
 ((List.set t3.1 i12 x8)[i13]?).bind λNg=>
 some (.inl (List.set (List.set t3.1 i12 x8) i13 x9,Jd (t3.2 - 1)))
 else
 some (.inr t3.1)
def ri(data:List Ja)(m:Int)(cmp:(Js fam [.st 2,.st 2]→Option Int))(t2:Int×Int):Option ((Int×Int) ⊕ Int):=
 bif decide (t2.1<t2.2)then
 let h1:=Jd (Mi .u64 (IntKind.u64.wrap (Jd (t2.1+t2.2))) 1)
 (Kk m data.length).bind λi7=>
 (data[i7]?).bind λx6=>
 (Kk h1 data.length).bind λi8=>
 (data[i8]?).bind λx7=>
 (cmp (x6,x7,())).bind λr1=>
 bif ! (decide (r1<0))then
  some (.inl (Jd (h1+1),t2.2))
 else
  some (.inl (t2.1,h1))
 else
 some (.inr t2.1)
def re(i2:Int)(t1:List Ja×Int):Option ((List Ja×Int) ⊕ List Ja):=
 bif decide (t1.2<(Jd (i2 - 1)))then
 (Kk (Jd (t1.2+1)) t1.1.length).bind λi3=>
 (t1.1[i3]?).bind λx2=>
 (Kk t1.2 t1.1.length).bind λi4=>
 (t1.1[i4]?).bind λx3=>
 (Kk t1.2 t1.1.length).bind λi5=>
 (t1.1[i5]?).bind λx4=>
 (Kk (Jd (t1.2+1)) (List.set t1.1 i5 x2).length).bind λi6=>
 ((List.set t1.1 i5 x2)[i6]?).bind λx5=>
 some (.inl (List.set (List.set t1.1 i5 x2) i6 x3,Jd (t1.2+1)))
 else
 some (.inr t1.1)
def rh(data:List Ja)(a:Int)(cmp:(Js fam [.st 2,.st 2]→Option Int))(t:Int×Int):Option ((Int×Int) ⊕ Int):=
 bif decide (t.1<t.2)then
 let h:=Jd (Mi .u64 (IntKind.u64.wrap (Jd (t.1+t.2))) 1)
 (Kk h data.length).bind λi=>
 (data[i]?).bind λx=>
 (Kk a data.length).bind λi1=>
 (data[i1]?).bind λx1=>
 (cmp (x,x1,())).bind λr=>
 bif decide (r<0)then
  some (.inl (Jd (h+1),t.2))
 else
  some (.inl (t.1,h))
 else
 some (.inr t.1)
def uz(self:(List Ja)→Int→Int→Int→((Js fam [.st 2,.st 2]→Option Int))→Option (List Ja))(data:List Ja)(a:Int)(m:Int)(b:Int)(cmp:(Js fam [.st 2,.st 2]→Option Int)):Option (List Ja):=
 bif(Jd (m - a)) == 1 then
 (loop (rh data a cmp) (m,b)).bind λi2=>
 (loop (re i2) (data,a)).bind λMN=>
 some MN
 else
 bif(Jd (b - m)) == 1 then
  (loop (ri data m cmp) (a,m)).bind λi9=>
  (loop (rn i9) (data,m)).bind λNJ=>
  some NJ
 else
  let mid:=Jd (Mi .u64 (IntKind.u64.wrap (Jd (a+b))) 1)
  (
  bif decide (m>mid)then
   let start:=Jd ((Jd (mid+m)) - b)
   some (start,mid)
  else
   some (a,m)).bind λq=>
  let p:=Jd ((Jd (mid+m)) - 1)
  (loop (rg data cmp p) (q.1,q.2)).bind λMe=>
  let end_:=Jd ((Jd (mid+m)) - Me)
  (
  (
   bif decide (Me<m)then
   some (decide (m<end_))
   else
   some false).bind λq1=>
  bif q1 then
   (pY data Me m end_ cmp).bind λN7=>
   some N7
  else
   some data).bind λSC=>
  (
  (
   bif decide (a<Me)then
   some (decide (Me<mid))
   else
   some false).bind λq2=>
  bif q2 then
   (self SC a Me mid cmp).bind λRP=>
   some RP
  else
   some SC).bind λSB=>
  (
  bif decide (mid<end_)then
   some (decide (end_<b))
  else
   some false).bind λq3=>
  bif q3 then
  (self SB mid end_ b cmp).bind λUY=>
  some UY
  else
  some SB
def jy:Nat→(List Ja)→Int→Int→Int→((Js fam [.st 2,.st 2]→Option Int))→Option (List Ja)
 | 0=>λ_ _ _ _ _=>none
 | n+1=>uz (jy n)
def lM(a0:List Ja)(a1:Int)(a2:Int)(a3:Int)(a4:(Js fam [.st 2,.st 2]→Option Int)):Option (List Ja):=jy 64 a0 a1 a2 a3 a4
def aoD:Hint:=(.s (JQ (.c (JQ (.s .z (.s JH (.s (JQ ((JJ [(0,t8),(13,ge)] [0,13] [(4,[(0,t8)])] .z))) .z)))) .z)) (.s (JQ (.c (JQ (.s .z (.s JI (.s (JQ ((JJ [(0,t8),(17,ge)] [0,17] [(8,[(0,t8)])] .z))) .z)))) .z)) (JQ (.s .z (JQ (.s JN (JQ (.s JF (JQ (.s (.j [0,185] [(0,[(0,t8)])] JO) (.s (.j [0,199] [(0,[(0,t8)])] JP) JR)))))))))))
def aef:Spec fam:=⟨[t8,ge,ge,ge,.fn [.st 2,.st 2] (.int .i64)],[],λa=>lM a.1 a.2.1 a.2.2.1 a.2.2.2.1 a.2.2.2.2.1⟩
def GP(n:Nat):Spec fam:=⟨[.row (.st 2) false,.v (.int .i64) [],.v (.int .i64) [],.v (.int .i64) [],.fn [.st 2,.st 2] (.int .i64)],[],λa=>jy n a.1 a.2.1 a.2.2.1 a.2.2.2.1 a.2.2.2.2.1⟩
def tB(n:Int)(cmp:(Js fam [.st 2,.st 2]→Option Int))(t1:List Ja×Int)(t2:List Ja×Int×Int):Option ((List Ja×Int×Int) ⊕ ((List Ja×Int))):=
 bif decide (t2.2.2≤n)then
 (lM t2.1 t2.2.1 (Jd (t2.2.1+t1.2)) t2.2.2 cmp).bind λx2=>
 let b:=Jd (t2.2.2+(Jd (2*t1.2)))
 some (.inl (x2,t2.2.2,b))
 else
 some (.inr (t2.1,t2.2.1))
def iS(n:Int)(cmp:(Js fam [.st 2,.st 2]→Option Int))(t1:List Ja×Int):Option ((List Ja×Int) ⊕ List Ja):=
 bif decide (t1.2<n)then
 (loop (tB n cmp t1) (t1.1,0,Jd (2*t1.2))).bind λq1=>
 (
  let m:=Jd (q1.2+t1.2)
  bif decide (m<n)then
  (lM q1.1 q1.2 m n cmp).bind λx3=>
  some x3
  else
  some q1.1).bind λMN=>
 some (.inl (MN,Jd (t1.2*2)))
 else
 some (.inr t1.1)
def iT(n:Int)(cmp:(Js fam [.st 2,.st 2]→Option Int))(t:List Ja×Int×Int):Option ((List Ja×Int×Int) ⊕ ((List Ja×Int))):=
 bif decide (t.2.2≤n)then
 (iC t.1 t.2.1 t.2.2 cmp).bind λx=>
 some (.inl (x,t.2.2,Jd (t.2.2+20)))
 else
 some (.inr (t.1,t.2.1))
def lG(data:List Ja)(n:Int)(cmp:(Js fam [.st 2,.st 2]→Option Int)):Option (List Ja):=
 (loop (iT n cmp) (data,0,20)).bind λq=>
 (iC q.1 q.2 n cmp).bind λx1=>
 (loop (iS n cmp) (x1,20)).bind λNJ=>
 some NJ
def aeI:Spec fam:=⟨[t8,ge,.fn [.st 2,.st 2] (.int .i64)],[],λa=>lG a.1 a.2.1 a.2.2.1⟩
def iJ(x:List Ja)(cmp:(Js fam [.st 2,.st 2]→Option Int)):Option (List Ja):=
 (lG x (x.length:Int) cmp).bind λx1=>
 some x1
def afi:Spec fam:=⟨[t8,.fn [.st 2,.st 2] (.int .i64)],[],λa=>iJ a.1 a.2.1⟩
def fQ(x:List UInt8):Option Bool:=
 some (! (x == x))
def aeH:Spec fam:=⟨[f8],[gt],λa=>fQ a.1⟩
def b8(x:List UInt8)(y:List UInt8):Option Int:=
 (fQ x).bind λZI=>
 (fQ y).bind λVa=>
 bif ZI then
 bif Va then
  some 0
 else
  some (-1)
 else
 bif Va then
  some 1
 else
  bif Op.bytesLess x y then
  some (-1)
  else
  bif ! (OH x y)then
   some 1
  else
   some 0
def afg:Spec fam:=⟨[f8,f8],[ge],λa=>b8 a.1 a.2.1⟩
def nM(a:Ja)(b:Ja):Option Int:=
 (b8 a.Kh b.Kh).bind λx=>
 some x
def afh:Spec fam:=⟨[.v (.st 2) [],.v (.st 2) []],[ge],λa=>nM a.1 a.2.1⟩
def jr(x3:List Ja)(t1:Jc×Int):Option ((Jc×Int) ⊕ ((Jc×Int) ⊕ Jc)):=
 bif decide (t1.2<(x3.length:Int))then
 (
  bif decide (t1.2>0)then
  (Kk (Jd (t1.2 - 1)) x3.length).bind λi1=>
  (x3[i1]?).bind λx4=>
  (Kk t1.2 x3.length).bind λi2=>
  (x3[i2]?).bind λx5=>
  some (x4.Kh == x5.Kh)
  else
  some false).bind λq2=>
 bif q2 then
  some (.inr (.inl ((⟨[],[]⟩:Jc),7)))
 else
  some (.inl (t1.1,Jd (t1.2+1)))
 else
 some (.inr (.inr (t1.1)))
def js(x:List (List UInt8))(t:Jc×Reader×Int):Option ((Jc×Reader×Int) ⊕ ((Jc×Int) ⊕ (Jc×Reader))):=
 bif decide (t.2.2<(x.length:Int))then
 (Kk t.2.2 x.length).bind λi=>
 (x[i]?).bind λx1=>
 (ni x1).bind λx2=>
 (gA t.2.1 x2).bind λe=>
 bif e.1 != 0 then
  some (.inr (.inl ((⟨[],[]⟩:Jc),e.1)))
 else
  some (.inl (t.1,e.2,Jd (t.2.2+1)))
 else
 some (.inr (.inr (t.1,t.2.1)))
def nB(s:List UInt8):Option (Jc×Int):=
 bif decide ((s.length:Int)>2000)then
 some ((⟨[],[]⟩:Jc),5)
 else
 (e_ s ([10]:List UInt8)).bind λx=>
 (loop (js x) ((⟨[],[]⟩:Jc),(⟨⟨[],[]⟩,false⟩:Reader),0)).bind λq0=>
 match q0 with
 | .inl q=>
  some (q.1,q.2)
 | .inr q1=>
  bif ! q1.2.seen then
  some ((⟨[],[]⟩:Jc),6)
  else
  (iJ q1.2.c.I8 (λa'=>nM a'.1 a'.2.1)).bind λx3=>
  (loop (jr x3) (q1.1,0)).bind λq0=>
  match q0 with
  | .inl q3=>
   some (q3.1,q3.2)
  | .inr q4=>
   some ((⟨q1.2.c.Je,x3⟩:Jc),0)
def ak9:Spec fam:=⟨[f8],[.v (.st 3) [0,1],ge],λa=>nB a.1⟩
def ce(s1:List (List UInt8))(s2:List (List UInt8))(t:Int):Option (Int ⊕ (Bool ⊕ Unit)):=
 bif decide (t<(s1.length:Int))then
 (idx s1 t).bind λx=>
 (idx s2 t).bind λx1=>
 bif ! (x == x1)then
  some (.inr (.inl false))
 else
  some (.inl (Jd (t+1)))
 else
 some (.inr (.inr ()))
def cK(s1:List (List UInt8))(s2:List (List UInt8)):Option Bool:=
 bif(s1.length:Int) != (s2.length:Int)then
 some false
 else
 (loop (ce s1 s2) 0).bind λq0=>
 match q0 with
 | .inl q=>
  some q
 | .inr _=>
  some true
def ak8:Spec fam:=⟨[QA,QA],[gt],λa=>cK a.1 a.2.1⟩
def cm(t:Step)(x:Jc×Int)(t1:Output×Int):Option ((Output×Int) ⊕ (Output ⊕ Output)):=
 bif decide (t1.2<(t.s.I9.length:Int))then
 (idx t.s.I9 t1.2).bind λx4=>
 (
  (ci x4).bind λx5=>
  bif x5 then
  (jL x.1 x4.Ja).bind λx6=>
  some (! x6)
  else
  some false).bind λq1=>
 bif q1 then
  (aO 14).bind λx7=>
  some (.inr (.inl x7))
 else
  some (.inl (t1.1,Jd (t1.2+1)))
 else
 some (.inr (.inr (t1.1)))
def cU(t:Step):Option (Output×Step):=
 (nB t.x.Text).bind λx=>
 (
 bif x.2 == 0 then
  (jX x.1).bind λe=>
  some e
 else
  some x.2).bind λe1=>
 bif e1 != 0 then
 (aO e1).bind λx1=>
 some (x1,t)
 else
 (
  bif decide ((t.s.Jc.Je.length:Int)>(x.1.Je.length:Int))then
  some true
  else
  (Ms 0 (t.s.Jc.Je.length:Int) x.1.Je.length).bind λp=>
  (cK t.s.Jc.Je (sub x.1.Je p.1 p.2)).bind λx2=>
  some (! x2)).bind λq=>
 bif q then
  (aO 14).bind λx3=>
  some (x3,t)
 else
  (loop (cm t x) ((⟨0,[],[],[],0⟩:Output),0)).bind λq0=>
  match q0 with
  | .inl q2=>
  some (q2,t)
  | .inr q3=>
  some ((⟨0,[],[],[],0⟩:Output),(⟨⟨⟨x.1.Je,x.1.I8⟩,t.s.Jh,t.s.I9,t.s.I6,t.s.Jr,t.s.Jq,t.s.Now,t.s.Jz,t.s.Seq⟩,⟨t.x.Kind,t.x.Id,t.x.J_,t.x.N,t.x.Text,⟨t.x.Node.Id,t.x.Node.Ji,t.x.Node.KL,⟨t.x.Node.Cap.Mem,t.x.Node.Cap.I_⟩,t.x.Node.KD,t.x.Node.J_,t.x.Node.Up⟩,⟨t.x.App.Id,t.x.App.Gp,t.x.App.Ja,t.x.App.User,t.x.App.J6,⟨t.x.App.Jb.Mem,t.x.App.Jb.I_⟩,t.x.App.Jy,t.x.App.KD,t.x.App.J_,t.x.App.Kj,t.x.App.KJ,t.x.App.Told,t.x.App.Lm⟩,t.x.Jy,t.x.Ids,⟨t.x.Jk.Id,t.x.Jk.Ji,t.x.Jk.From,t.x.Jk.Until,⟨t.x.Jk.Need.Mem,t.x.Jk.Need.I_⟩⟩⟩⟩:Step))
def alY:Spec fam:=⟨[QH],[QN],λa=>cU a.1⟩
def de(t:Step)(s:Gp)(e:Int):Option (Output×Step):=
 bif e != 0 then
 (aO e).bind λx=>
 some (x,t)
 else
 some ((⟨0,[],[],[],0⟩:Output),(⟨⟨⟨s.Jc.Je,s.Jc.I8⟩,s.Jh,s.I9,s.I6,s.Jr,s.Jq,s.Now,s.Jz,s.Seq⟩,⟨t.x.Kind,t.x.Id,t.x.J_,t.x.N,t.x.Text,⟨t.x.Node.Id,t.x.Node.Ji,t.x.Node.KL,⟨t.x.Node.Cap.Mem,t.x.Node.Cap.I_⟩,t.x.Node.KD,t.x.Node.J_,t.x.Node.Up⟩,⟨t.x.App.Id,t.x.App.Gp,t.x.App.Ja,t.x.App.User,t.x.App.J6,⟨t.x.App.Jb.Mem,t.x.App.Jb.I_⟩,t.x.App.Jy,t.x.App.KD,t.x.App.J_,t.x.App.Kj,t.x.App.KJ,t.x.App.Told,t.x.App.Lm⟩,t.x.Jy,t.x.Ids,⟨t.x.Jk.Id,t.x.Jk.Ji,t.x.Jk.From,t.x.Jk.Until,⟨t.x.Jk.Need.Mem,t.x.Jk.Need.I_⟩⟩⟩⟩:Step))
def alX:Spec fam:=⟨[.box (.st 19) [],f9,ge],[QN],λa=>de a.1 a.2.1 a.2.2.1⟩
def kj(l:List Int):Option (List Int):=
 (P7 8 (l.length:Int) (l.length:Int) 0).bind λl1=>
 some (LP l1 0 l1.length l)
def aff:Spec fam:=⟨[QQ],[f0],λa=>kj a.1⟩
def nN(x9:List App)(t1:List App×Int):Option ((List App×Int) ⊕ List App):=
 bif decide (t1.2<(x9.length:Int))then
 (Kk t1.2 t1.1.length).bind λi2=>
 (t1.1[i2]?).bind λx10=>
 (lq x10.Jy).bind λNg=>
 (kj x10.Kj).bind λOA=>
 (kj x10.KJ).bind λPw=>
 (kj x10.Told).bind λN7=>
 (kj x10.Lm).bind λRP=>
 (Kk t1.2 t1.1.length).bind λi3=>
 (t1.1[i3]?).bind λUY=>
 some (.inl (List.set t1.1 i3 (⟨x10.Id,x10.Gp,x10.Ja,x10.User,x10.J6,⟨x10.Jb.Mem,x10.Jb.I_⟩,Ng,x10.KD,x10.J_,OA,Pw,N7,RP⟩:App),Jd (t1.2+1)))
 else
 some (.inr t1.1)
def rK(x1:List Ja)(t:List Ja×Int):Option ((List Ja×Int) ⊕ List Ja):=
 bif decide (t.2<(x1.length:Int))then
 (Kk t.2 t.1.length).bind λi=>
 (t.1[i]?).bind λx2=>
 (ip x2.KZ).bind λx3=>
 (Kk t.2 t.1.length).bind λi1=>
 (t.1[i1]?).bind λx4=>
 some (.inl (List.set t.1 i1 (⟨x4.Kh,x3,x4.User⟩:Ja),Jd (t.2+1)))
 else
 some (.inr t.1)
def mA(s:Gp):Option Gp:=
 (aW s.Jc.Je).bind λx=>
 (iN s.Jc.I8).bind λx1=>
 (loop (rK x1) (x1,0)).bind λq=>
 (jO s.Jh).bind λx5=>
 (ef s.I6).bind λx6=>
 (jC s.Jr).bind λx7=>
 (jU s.Jq).bind λx8=>
 (lm s.I9).bind λx9=>
 (loop (nN x9) (x9,0)).bind λq1=>
 some (⟨⟨x,q⟩,x5,q1,x6,x7,x8,s.Now,s.Jz,s.Seq⟩:Gp)
def af_:Spec fam:=⟨[f9],[QF],λa=>mA a.1⟩
def nV(s:List Node)(f:(Js fam [.st 4]→Option Bool))(t:Int):Option (Int ⊕ (Int ⊕ Unit)):=
 bif decide (t<(s.length:Int))then
 (idx s t).bind λx=>
 (f (x,())).bind λr=>
 bif r then
  some (.inr (.inl t))
 else
  some (.inl (Jd (t+1)))
 else
 some (.inr (.inr ()))
def ju(s:List Node)(f:(Js fam [.st 4]→Option Bool)):Option Int:=
 (loop (nV s f) 0).bind λq0=>
 match q0 with
 | .inl q=>
 some q
 | .inr _=>
 some (-1)
def afu:Spec fam:=⟨[Qi,.fn [.st 4] .bool],[ge],λa=>ju a.1 a.2.1⟩
def se(i:Int)(n:Node):Option Bool:=
 some (n.Id == i)
def afe:Spec fam:=⟨[ge,Qk],[gt],λa=>se a.1 a.2.1⟩
def lL(s:Gp)(Li:Int):Option Int:=
 (ju s.Jh (λa'=>se Li a'.1)).bind λx=>
 some x
def af9:Spec fam:=⟨[f9,ge],[ge],λa=>lL a.1 a.2.1⟩
def df(n:Int)(most:Int):Option Bool:=
 bif decide (n≥0)then
 some (decide (n≤most))
 else
 some false
def af8:Spec fam:=⟨[ge,ge],[gt],λa=>df a.1 a.2.1⟩
def vH(s:List Node)(i:Int)(v:List Node):Option (List Node):=
 (Ms i (s.length:Int) s.length).bind λp=>
 bif(v.length:Int) == 0 then
 some s
 else
 bif i == (s.length:Int)then
  (app 64 s v).bind λl=>
  some l
 else
  none
def mH(s:List Node)(i:Int)(v:List Node):Option (List Node):=ins s i v
def aoJ:Hint:=.z
def af7:Spec fam:=⟨[Qe,ge,Qe],[Qe],λa=>mH a.1 a.2.1 a.2.2.1⟩
def Hn:Spec fam:=⟨[.v (.slice (.st 4)) [0],.v (.int .i64) [],.v (.slice (.st 4)) [0]],[.v (.slice (.st 4)) [0]],λa=>vH a.1 a.2.1 a.2.2.1⟩
def mW(n:Node)(x:Gp)(k:Int):Option (Int ⊕ Int):=
 (
 bif decide (k<(x.Jh.length:Int))then
  (Kk k x.Jh.length).bind λi3=>
  (x.Jh[i3]?).bind λx8=>
  some (decide (x8.Id<n.Id))
 else
  some false).bind λq3=>
 bif q3 then
 some (.inl (Jd (k+1)))
 else
 some (.inr k)
def iB(s:Gp)(n:Node):Option (Gp×Int):=
 (mA s).bind λx=>
 (lL x n.Id).bind λi=>
 (
 (df n.Id 999).bind λx1=>
 bif ! x1 then
  some true
 else
  (df n.Ji (Jd ((x.Jc.Je.length:Int) - 1))).bind λx2=>
  bif ! x2 then
  some true
  else
  (df n.KL 99).bind λx3=>
  bif ! x3 then
   some true
  else
   (df n.Cap.Mem 1073741824).bind λx4=>
   bif ! x4 then
   some true
   else
   (df n.Cap.I_ 1073741824).bind λx5=>
   some (! x5)).bind λq=>
 bif q then
 some (x,1)
 else
 (
  bif decide (i≥0)then
  (Kk i x.Jh.length).bind λi1=>
  (x.Jh[i1]?).bind λx6=>
  some x6.Up
  else
  some false).bind λq1=>
 bif q1 then
  some (x,7)
 else
  (
  bif decide (i<0)then
   some (decide ((x.Jh.length:Int)≥12))
  else
   some false).bind λq2=>
  bif q2 then
  some (x,4)
  else
  bif decide (i≥0)then
   (Kk i x.Jh.length).bind λi2=>
   (x.Jh[i2]?).bind λx7=>
   some ((⟨⟨x.Jc.Je,x.Jc.I8⟩,List.set x.Jh i2 (⟨n.Id,n.Ji,n.KL,⟨n.Cap.Mem,n.Cap.I_⟩,x.Now,0,true⟩:Node),x.I9,x.I6,x.Jr,x.Jq,x.Now,x.Jz,x.Seq⟩:Gp),0)
  else
   (loop (mW n x) 0).bind λk1=>
   (mH x.Jh k1 [(⟨n.Id,n.Ji,n.KL,⟨n.Cap.Mem,n.Cap.I_⟩,x.Now,0,true⟩:Node)]).bind λx9=>
   some ((⟨⟨x.Jc.Je,x.Jc.I8⟩,x9,x.I9,x.I6,x.Jr,x.Jq,x.Now,x.Jz,x.Seq⟩:Gp),0)
def alW:Spec fam:=⟨[f9,Qk],[QF,ge],λa=>iB a.1 a.2.1⟩
def ff(s:Gp)(Li:Int):Option (Node×Bool):=
 (lL s Li).bind λi=>
 bif decide (i<0)then
 some ((⟨0,0,0,⟨0,0⟩,0,0,false⟩:Node),false)
 else
 (idx s.Jh i).bind λx=>
 some (x,true)
def alz:Spec fam:=⟨[f9,ge],[Qk,gt],λa=>ff a.1 a.2.1⟩
def rH(t:Step)(node:Int)(t1:List Int×Int):Option ((List Int×Int) ⊕ List Int):=
 bif decide (t1.2<(t.s.I6.length:Int))then
 (
  (idx t.s.I6 t1.2).bind λx=>
  bif x.Node == node then
  (app 8 t1.1 [x.Id]).bind λl=>
  some l
  else
  some t1.1).bind λout=>
 some (.inl (out,Jd (t1.2+1)))
 else
 some (.inr t1.1)
def dz(t:Step)(node:Int):Option (List Int):=
 (loop (rH t node) ([],0)).bind λLQ=>
 some LQ
def af6:Spec fam:=⟨[.rp (.st 19),ge],[f0],λa=>dz a.1 a.2.1⟩
def m0(s:Gp)(Li:Int)(Xu:Int):Option (Gp×Int):=
 (mA s).bind λx=>
 (lL x Li).bind λi=>
 bif decide (i<0)then
 some (x,2)
 else
 (Kk i x.Jh.length).bind λi1=>
 (x.Jh[i1]?).bind λx1=>
 bif ! x1.Up then
  some (x,18)
 else
  (
  bif decide (Xu<0)then
   some true
  else
   (Kk i x.Jh.length).bind λi2=>
   (x.Jh[i2]?).bind λx2=>
   some (decide (Xu<x2.J_))).bind λq=>
  bif q then
  some (x,15)
  else
  (Kk i x.Jh.length).bind λi3=>
  (x.Jh[i3]?).bind λx3=>
  bif decide ((Jd (Xu - x3.J_))>1)then
   some (x,1)
  else
   (Kk i x.Jh.length).bind λi4=>
   (x.Jh[i4]?).bind λx4=>
   (Kk i (List.set x.Jh i4 (⟨x4.Id,x4.Ji,x4.KL,⟨x4.Cap.Mem,x4.Cap.I_⟩,x.Now,x4.J_,x4.Up⟩:Node)).length).bind λi5=>
   ((List.set x.Jh i4 (⟨x4.Id,x4.Ji,x4.KL,⟨x4.Cap.Mem,x4.Cap.I_⟩,x.Now,x4.J_,x4.Up⟩:Node))[i5]?).bind λx5=>
   some ((⟨⟨x.Jc.Je,x.Jc.I8⟩,List.set (List.set x.Jh i4 (⟨x4.Id,x4.Ji,x4.KL,⟨x4.Cap.Mem,x4.Cap.I_⟩,x.Now,x4.J_,x4.Up⟩:Node)) i5 (⟨x5.Id,x5.Ji,x5.KL,⟨x5.Cap.Mem,x5.Cap.I_⟩,x5.KD,Xu,x5.Up⟩:Node),x.I9,x.I6,x.Jr,x.Jq,x.Now,x.Jz,x.Seq⟩:Gp),0)
def af5:Spec fam:=⟨[f9,ge,ge],[QF,ge],λa=>m0 a.1 a.2.1 a.2.2.1⟩
def fd(s:List Int)(f:(Js fam [.int .i64]→Option Bool))(t:Int):Option (Int ⊕ (Int ⊕ Unit)):=
 bif decide (t<(s.length:Int))then
 (idx s t).bind λx=>
 (f (x,())).bind λr=>
 bif r then
  some (.inr (.inl t))
 else
  some (.inl (Jd (t+1)))
 else
 some (.inr (.inr ()))
def bY(s:List Int)(f:(Js fam [.int .i64]→Option Bool)):Option Int:=
 (loop (fd s f) 0).bind λq0=>
 match q0 with
 | .inl q=>
 some q
 | .inr _=>
 some (-1)
def afd:Spec fam:=⟨[QQ,.fn [.int .i64] .bool],[ge],λa=>bY a.1 a.2.1⟩
def eR(del:(Js fam [.int .i64]→Option Bool))(t:List Int×Int×Int):Option ((List Int×Int×Int) ⊕ ((List Int×Int))):=
 bif decide (t.2.2<(t.1.length:Int))then
 (
  (Kk t.2.2 t.1.length).bind λi1=>
  (t.1[i1]?).bind λx=>
  (del (x,())).bind λr=>
  bif ! r then
  (Kk t.2.1 t.1.length).bind λi2=>
  (t.1[i2]?).bind λx1=>
  some (List.set t.1 i2 x,Jd (t.2.1+1))
  else
  some (t.1,t.2.1)).bind λq=>
 some (.inl (q.1,q.2,Jd (t.2.2+1)))
 else
 some (.inr (t.1,t.2.1))
def bn(s:List Int)(del:(Js fam [.int .i64]→Option Bool)):Option (List Int):=
 (bY s del).bind λi=>
 bif i == (-1)then
 some s
 else
 (loop (eR del) (s,i,Jd (i+1))).bind λq1=>
 (Ms q1.2 (q1.1.length:Int) q1.1.length).bind λp=>
 (Ms 0 q1.2 (LP q1.1 p.1 p.2 (List.replicate p.2 0)).length).bind λp1=>
 some (List.take p1.2 (LP q1.1 p.1 p.2 (List.replicate p.2 0)))
def af4:Spec fam:=⟨[f0,.fn [.int .i64] .bool],[f0],λa=>bn a.1 a.2.1⟩
def mS(s:List Int):Option (List Int):=
 bif s.isEmpty then
 none
 else
 (app 8 [] s).bind λl=>
 some l
def bS(s:List Int):Option (List Int):=app 8 [] s
def aoI:Hint:=.z
def af3:Spec fam:=⟨[QQ],[f0],λa=>bS a.1⟩
def FB:Spec fam:=⟨[.v (.slice (.int .i64)) []],[.v (.slice (.int .i64)) [0]],λa=>mS a.1⟩
def dD(s:List Int)(v:Int):Option Bool:=
 (cN s v).bind λx=>
 some (decide (x≥0))
def af0:Spec fam:=⟨[QQ,ge],[gt],λa=>dD a.1 a.2.1⟩
def eL(Li:Int)(p:List Int):Option Bool:=
 (dD p Li).bind λx=>
 some (! x)
def af2:Spec fam:=⟨[ge,.rp (.slice (.int .i64))],[gt],λa=>eL a.1 a.2.1⟩
def bu(v:Vec):Option Bool:=
 bif decide (v.Mem≥0)then
 bif decide (v.Mem≤1125899906842624)then
  bif decide (v.I_≥0)then
  some (decide (v.I_≤1125899906842624))
  else
  some false
 else
  some false
 else
 some false
def aft:Spec fam:=⟨[t7],[gt],λa=>bu a.1⟩
def hU(v:Vec):Option (Vec×Int):=
 (bu v).bind λx=>
 bif ! x then
 some ((⟨0,0⟩:Vec),11)
 else
 some (v,0)
def afs:Spec fam:=⟨[t7],[t7,ge],λa=>hU a.1⟩
def cy(a:Vec)(b:Vec):Option (Vec×Int):=
 (
 (bu a).bind λx=>
 bif ! x then
  some true
 else
  (bu b).bind λx1=>
  some (! x1)).bind λq=>
 bif q then
 some ((⟨0,0⟩:Vec),1)
 else
 (hU (⟨Jd (a.Mem+b.Mem),Jd (a.I_+b.I_)⟩:Vec)).bind λx2=>
 some (x2.1,x2.2)
def alv:Spec fam:=⟨[t7,t7],[t7,ge],λa=>cy a.1 a.2.1⟩
def xx(s:Gp)(Li:Int)(t:Vec×Int):Option ((Vec×Int) ⊕ Vec):=
 bif decide (t.2<(s.I6.length:Int))then
 (
  (idx s.I6 t.2).bind λx=>
  bif x.Node == Li then
  (cy t.1 x.Ku).bind λx1=>
  some x1.1
  else
  some t.1).bind λout=>
 some (.inl (out,Jd (t.2+1)))
 else
 some (.inr t.1)
def qN(s:Gp)(Li:Int):Option Vec:=
 (loop (xx s Li) ((⟨0,0⟩:Vec),0)).bind λLQ=>
 some LQ
def aee:Spec fam:=⟨[f9,ge],[t7],λa=>qN a.1 a.2.1⟩
def m7(s:Gp)(Li:Int):Option Vec:=
 (ff s Li).bind λx=>
 (
 bif ! x.2 then
  some true
 else
  some (! x.1.Up)).bind λq=>
 bif q then
 some (⟨0,0⟩:Vec)
 else
 (qN s Li).bind λx1=>
 some (⟨imax (Jd (x.1.Cap.Mem - x1.Mem)) 0,imax (Jd (x.1.Cap.I_ - x1.I_)) 0⟩:Vec)
def aeG:Spec fam:=⟨[f9,ge],[t7],λa=>m7 a.1 a.2.1⟩
def di(s:Gp)(Li:Int):Option (App×Bool):=
 (jW s Li).bind λi=>
 bif decide (i<0)then
 some ((⟨0,0,[],0,0,⟨0,0⟩,[],0,0,[],[],[],[]⟩:App),false)
 else
 (idx s.I9 i).bind λx=>
 (ie x).bind λx1=>
 some (x1,true)
def alA:Spec fam:=⟨[f9,ge],[Qd,gt],λa=>di a.1 a.2.1⟩
def jG(x:Slot)(p:Attempt):Option Bool:=
 some (x.Node == p.n.Id)
def aed:Spec fam:=⟨[Qr,.O1 (.st 20)],[gt],λa=>jG a.1 a.2.1⟩
def iA(a:App)(prio:Int)(t:Ask×Int):Option ((Ask×Int) ⊕ ((Ask×Bool) ⊕ Ask)):=
 bif decide (t.2<(a.Jy.length:Int))then
 (idx a.Jy t.2).bind λx=>
 bif x.J6 == prio then
  some (.inr (.inl (x,true)))
 else
  some (.inl (t.1,Jd (t.2+1)))
 else
 some (.inr (.inr (t.1)))
def md(a:App)(prio:Int):Option (Ask×Bool):=
 (loop (iA a prio) ((⟨0,0,⟨0,0⟩,0,0,0,0⟩:Ask),0)).bind λq0=>
 match q0 with
 | .inl q=>
 some (q.1,q.2)
 | .inr q1=>
 some ((⟨0,0,⟨0,0⟩,0,0,0,0⟩:Ask),false)
def aec:Spec fam:=⟨[QP,ge],[Q3,gt],λa=>md a.1 a.2.1⟩
def ji(a:Ask)(n:Node):Option Int:=
 (
 (
  bif ! n.Up then
  some true
  else
  some (n.Ji != a.Ji)).bind λq=>
 bif q then
  some (.inr (.inl 4))
 else
  bif a.KL == (-1)then
  some (.inl ())
  else
  (
   bif a.Node == n.Id then
   some (a.Node == n.Id)
   else
   bif a.Node == (-1)then
    some (a.KL == n.KL)
   else
    some false).bind λq1=>
  bif q1 then
   some (.inl ())
  else
   bif a.KL == n.KL then
   some (.inr (.inr (.inr ())))
   else
   some (.inr (.inr (.inl ()))):Option (Unit ⊕ Int ⊕ Unit ⊕ Unit)).bind λq0=>
 match q0 with
 | .inl _=>
 some 1
 | .inr (.inl q2)=>
 some q2
 | .inr (.inr (.inl _))=>
 some 3
 | .inr (.inr (.inr _))=>
 some 2
def adL:Spec fam:=⟨[Q3,Qk],[ge],λa=>ji a.1 a.2.1⟩
def mn(a:Ask)(n:Node):Option Bool:=
 (ji a n).bind λx=>
 bif x == 1 then
 some true
 else
 bif x == 2 then
  some (decide (a.Nn≥2))
 else
  bif x == 3 then
  some (decide (a.Nn≥4))
  else
  some false
def aeb:Spec fam:=⟨[Q3,Qk],[gt],λa=>mn a.1 a.2.1⟩
def eh(a:Vec)(b:Vec):Option Bool:=
 bif decide (a.Mem≤b.Mem)then
 some (decide (a.I_≤b.I_))
 else
 some false
def alu:Spec fam:=⟨[t7,t7],[gt],λa=>eh a.1 a.2.1⟩
def d7(t:Attempt)(x:Ask):Option Bool:=
 (ji x t.n).bind λx1=>
 bif x1 != 4 then
 (eh x.Ku t.n.Cap).bind λx2=>
 some x2
 else
 some false
def aea:Spec fam:=⟨[.rp (.st 20),Q3],[gt],λa=>d7 a.1 a.2.1⟩
def gV(v:View)(c:Cont)(t:App×Int):Option ((App×Int) ⊕ ((App×Bool) ⊕ App)):=
 bif decide (t.2<(v.s.I9.length:Int))then
 (idx v.s.I9 t.2).bind λx=>
 bif x.Id == c.App then
  some (.inr (.inl (x,true)))
 else
  some (.inl (t.1,Jd (t.2+1)))
 else
 some (.inr (.inr (t.1)))
def gC(v:View)(c:Cont):Option (App×Bool):=
 (loop (gV v c) ((⟨0,0,[],0,0,⟨0,0⟩,[],0,0,[],[],[],[]⟩:App),0)).bind λq0=>
 match q0 with
 | .inl q=>
 some (q.1,q.2)
 | .inr q1=>
 some ((⟨0,0,[],0,0,⟨0,0⟩,[],0,0,[],[],[],[]⟩:App),false)
def adb:Spec fam:=⟨[Qv,QI],[QP,gt],λa=>gC a.1 a.2.1⟩
def f_(s:List UInt8)(prefix_:List UInt8):Option Bool:=
 bif decide ((s.length:Int)≥(prefix_.length:Int))then
 (slc s 0 (prefix_.length:Int)).bind λs1=>
 some (s1 == prefix_)
 else
 some false
def acT:Spec fam:=⟨[f8,f8],[gt],λa=>f_ a.1 a.2.1⟩
def iZ(s:List UInt8)(prefix_:List UInt8):Option Bool:=
 (f_ s prefix_).bind λx=>
 some x
def ac2:Spec fam:=⟨[f8,f8],[gt],λa=>iZ a.1 a.2.1⟩
def gi(v:View)(a:App):Option Bool:=
 (
 bif a.Ja == v.Kn then
  some true
 else
  (cat v.Kn ([46]:List UInt8)).bind λs=>
  (iZ a.Ja s).bind λx=>
  some x).bind λbelow=>
 bif below then
 bif v.user == (-1)then
  some true
 else
  some (a.User == v.user)
 else
 some false
def ada:Spec fam:=⟨[Qv,QP],[gt],λa=>gi a.1 a.2.1⟩
def rZ(v:View)(t:Vec×Int):Option ((Vec×Int) ⊕ Vec):=
 bif decide (t.2<(v.s.I6.length:Int))then
 (
  (idx v.s.I6 t.2).bind λx=>
  (gC v x).bind λx1=>
  (
  bif x1.2 then
   bif x.Ji == v.label then
   (gi v x1.1).bind λx2=>
   some x2
   else
   some false
  else
   some false).bind λq=>
  bif q then
  (cy t.1 x.Ku).bind λx3=>
  some x3.1
  else
  some t.1).bind λout=>
 some (.inl (out,Jd (t.2+1)))
 else
 some (.inr t.1)
def fh(v:View):Option Vec:=
 (loop (rZ v) ((⟨0,0⟩:Vec),0)).bind λLQ=>
 some LQ
def adA:Spec fam:=⟨[Qv],[t7],λa=>fh a.1⟩
def cV(s:Gp)(Kn:List UInt8)(label:Int):Option Vec:=
 (fh (⟨⟨⟨s.Jc.Je,s.Jc.I8⟩,s.Jh,s.I9,s.I6,s.Jr,s.Jq,s.Now,s.Jz,s.Seq⟩,Kn,label,(-1)⟩:View)).bind λx=>
 some x
def ad2:Spec fam:=⟨[f9,f8,ge],[t7],λa=>cV a.1 a.2.1 a.2.2.1⟩
def ez(l:List Vec)(t:Vec×Int):Option ((Vec×Int) ⊕ Vec):=
 bif decide (t.2<(l.length:Int))then
 (idx l t.2).bind λx=>
 (cy t.1 x).bind λx1=>
 some (.inl (x1.1,Jd (t.2+1)))
 else
 some (.inr t.1)
def jJ(l:List Vec):Option Vec:=
 (loop (ez l) ((⟨0,0⟩:Vec),0)).bind λout=>
 some out
def aer:Spec fam:=⟨[Qq],[t7],λa=>jJ a.1⟩
def iF(s:Gp)(label:Int)(t:List Vec×Int):Option ((List Vec×Int) ⊕ List Vec):=
 bif decide (t.2<(s.Jh.length:Int))then
 (
  (idx s.Jh t.2).bind λx=>
  (
  bif x.Up then
   some (x.Ji == label)
  else
   some false).bind λq=>
  bif q then
  (app 16 t.1 [x.Cap]).bind λl=>
  some l
  else
  some t.1).bind λl1=>
 some (.inl (l1,Jd (t.2+1)))
 else
 some (.inr t.1)
def eg(s:Gp)(label:Int):Option Vec:=
 (loop (iF s label) ([],0)).bind λl2=>
 (jJ l2).bind λx1=>
 some x1
def aeU:Spec fam:=⟨[f9,ge],[t7],λa=>eg a.1 a.2.1⟩
def iw(x:Int)(y:Int):Option (Int×Int):=
 let w0:=IntKind.u64.wrap ((Pj .u64 x 4294967295)*(Pj .u64 y 4294967295))
 let t:=IntKind.u64.wrap ((IntKind.u64.wrap ((Mi .u64 x 32)*(Pj .u64 y 4294967295)))+(Mi .u64 w0 32))
 let w1:=IntKind.u64.wrap ((Pj .u64 t 4294967295)+(IntKind.u64.wrap ((Pj .u64 x 4294967295)*(Mi .u64 y 32))))
 let hi:=IntKind.u64.wrap ((IntKind.u64.wrap ((IntKind.u64.wrap ((Mi .u64 x 32)*(Mi .u64 y 32)))+(Mi .u64 t 32)))+(Mi .u64 w1 32))
 some (hi,IntKind.u64.wrap (x*y))
def acY:Spec fam:=⟨[QG,QG],[QG,QG],λa=>iw a.1 a.2.1⟩
def vz(x:Int):Option Int:=
 (
 bif decide (x≥4294967296)then
  some (Mi .u64 x 32,32)
 else
  some (x,0)).bind λq=>
 (
 bif decide (q.1≥65536)then
  some (Mi .u64 q.1 16,Jd (q.2+16))
 else
  some (q.1,q.2)).bind λq1=>
 (
 bif decide (q1.1≥256)then
  some (Mi .u64 q1.1 8,Jd (q1.2+8))
 else
  some (q1.1,q1.2)).bind λq2=>
 (idx ([0,1,2,2,3,3,3,3,4,4,4,4,4,4,4,4,5,5,5,5,5,5,5,5,5,5,5,5,5,5,5,5,6,6,6,6,6,6,6,6,6,6,6,6,6,6,6,6,6,6,6,6,6,6,6,6,6,6,6,6,6,6,6,6,7,7,7,7,7,7,7,7,7,7,7,7,7,7,7,7,7,7,7,7,7,7,7,7,7,7,7,7,7,7,7,7,7,7,7,7,7,7,7,7,7,7,7,7,7,7,7,7,7,7,7,7,7,7,7,7,7,7,7,7,7,7,7,7,8,8,8,8,8,8,8,8,8,8,8,8,8,8,8,8,8,8,8,8,8,8,8,8,8,8,8,8,8,8,8,8,8,8,8,8,8,8,8,8,8,8,8,8,8,8,8,8,8,8,8,8,8,8,8,8,8,8,8,8,8,8,8,8,8,8,8,8,8,8,8,8,8,8,8,8,8,8,8,8,8,8,8,8,8,8,8,8,8,8,8,8,8,8,8,8,8,8,8,8,8,8,8,8,8,8,8,8,8,8,8,8,8,8,8,8,8,8,8,8,8,8,8,8,8,8,8,8]:List UInt8) (IntKind.u8.wrap q2.1)).bind λch=>
 let n:=Jd (q2.2+(Jd (ch.toNat:Int)))
 some n
def adU:Spec fam:=⟨[QG],[ge],λa=>vz a.1⟩
def kS(x:Int):Option Int:=
 (vz x).bind λx1=>
 some (Jd (64 - x1))
def acS:Spec fam:=⟨[QG],[ge],λa=>kS a.1⟩
def xz(SI:Int)(yn0:Int)(un0:Int)(t1:Int×Int):Option ((Int×Int) ⊕ Int):=
 (
 bif decide (t1.2≥4294967296)then
  some true
 else
  some (decide ((IntKind.u64.wrap (t1.2*yn0))>(IntKind.u64.wrap ((IntKind.u64.wrap (4294967296*t1.1))+un0))))).bind λq2=>
 bif q2 then
 bif decide ((IntKind.u64.wrap (t1.1+SI))≥4294967296)then
  some (.inr (IntKind.u64.wrap (t1.2 - 1)))
 else
  some (.inl (IntKind.u64.wrap (t1.1+SI),IntKind.u64.wrap (t1.2 - 1)))
 else
 some (.inr t1.2)
def xA(SI:Int)(yn0:Int)(un1:Int)(t:Int×Int):Option ((Int×Int) ⊕ Int):=
 (
 bif decide (t.1≥4294967296)then
  some true
 else
  some (decide ((IntKind.u64.wrap (t.1*yn0))>(IntKind.u64.wrap ((IntKind.u64.wrap (4294967296*t.2))+un1))))).bind λq=>
 bif q then
 bif decide ((IntKind.u64.wrap (t.2+SI))≥4294967296)then
  some (.inr (IntKind.u64.wrap (t.1 - 1)))
 else
  some (.inl (IntKind.u64.wrap (t.1 - 1),IntKind.u64.wrap (t.2+SI)))
 else
 some (.inr t.1)
def qR(hi:Int)(lo:Int)(y:Int):Option (Int×Int):=
 bif y == 0 then
 none
 else
 bif decide (y≤hi)then
  none
 else
  bif hi == 0 then
  (nz y).bind λ_=>
  (nz y).bind λ_=>
  some (IntKind.u64.wrap (Int.tdiv lo y),Int.tmod lo y)
  else
  (kS y).bind λx=>
  (nn (IntKind.u64.wrap x)).bind λ_=>
  let SI:=Mi .u64 (N_ .u64 y (IntKind.u64.wrap x)) 32
  let yn0:=Pj .u64 (N_ .u64 y (IntKind.u64.wrap x)) 4294967295
  (nn (IntKind.u64.wrap x)).bind λ_=>
  (nn (IntKind.u64.wrap (64 - (IntKind.u64.wrap x)))).bind λ_=>
  let Xa:=orK .u64 (N_ .u64 hi (IntKind.u64.wrap x)) (Mi .u64 lo (IntKind.u64.wrap (64 - (IntKind.u64.wrap x))))
  (nn (IntKind.u64.wrap x)).bind λ_=>
  let un1:=Mi .u64 (N_ .u64 lo (IntKind.u64.wrap x)) 32
  let un0:=Pj .u64 (N_ .u64 lo (IntKind.u64.wrap x)) 4294967295
  (nz SI).bind λ_=>
  let amA:=IntKind.u64.wrap (Xa - (IntKind.u64.wrap ((IntKind.u64.wrap (Int.tdiv Xa SI))*SI)))
  (loop (xA SI yn0 un1) (IntKind.u64.wrap (Int.tdiv Xa SI),amA)).bind λq1=>
  let Xb:=IntKind.u64.wrap ((IntKind.u64.wrap ((IntKind.u64.wrap (Xa*4294967296))+un1)) - (IntKind.u64.wrap (q1*(N_ .u64 y (IntKind.u64.wrap x)))))
  (nz SI).bind λ_=>
  let agf:=IntKind.u64.wrap (Xb - (IntKind.u64.wrap ((IntKind.u64.wrap (Int.tdiv Xb SI))*SI)))
  (loop (xz SI yn0 un0) (agf,IntKind.u64.wrap (Int.tdiv Xb SI))).bind λq0=>
  (nn (IntKind.u64.wrap x)).bind λ_=>
  let quo:=IntKind.u64.wrap ((IntKind.u64.wrap (q1*4294967296))+q0)
  let rem:=Mi .u64 (IntKind.u64.wrap ((IntKind.u64.wrap ((IntKind.u64.wrap (Xb*4294967296))+un0)) - (IntKind.u64.wrap (q0*(N_ .u64 y (IntKind.u64.wrap x)))))) (IntKind.u64.wrap x)
  some (quo,rem)
def acX:Spec fam:=⟨[QG,QG,QG],[QG,QG],λa=>qR a.1 a.2.1 a.2.2.1⟩
def my(n:Int)(bp:Int):Option Int:=
 (iw (IntKind.u64.wrap n) (IntKind.u64.wrap bp)).bind λx=>
 (qR x.1 x.2 10000).bind λx1=>
 some (Jd x1.1)
def ac8:Spec fam:=⟨[ge,ge],[ge],λa=>my a.1 a.2.1⟩
def kH(a:Vec)(bp:Int):Option (Vec×Int):=
 (
 (bu a).bind λx=>
 bif ! x then
  some true
 else
  bif decide (bp<0)then
  some true
  else
  some (decide (bp>1000000))).bind λq=>
 bif q then
 some ((⟨0,0⟩:Vec),1)
 else
 (my a.Mem bp).bind λx1=>
 (my a.I_ bp).bind λx2=>
 (hU (⟨x1,x2⟩:Vec)).bind λx3=>
 some (x3.1,x3.2)
def adq:Spec fam:=⟨[t7,ge],[t7,ge],λa=>kH a.1 a.2.1⟩
def BJ(t:List UInt8×List (List UInt8)):Option ((List UInt8×List (List UInt8)) ⊕ List (List UInt8)):=
 bif ! (t.1 == ([]:List UInt8))then
 (app 16 t.2 [t.1]).bind λl=>
 (iv t.1).bind λx=>
 some (.inl (x.1,l))
 else
 some (.inr t.2)
def qp(Kn:List UInt8):Option (List (List UInt8)):=
 (loop BJ (Kn,[])).bind λout=>
 some out
def adp:Spec fam:=⟨[f8],[t6],λa=>qp a.1⟩
def qW(s:Gp)(label:Int)(part:(Js fam [.st 1]→Option Int))(up:List (List UInt8))(t:Vec×Vec×Int):Option ((Vec×Vec×Int) ⊕ (Vec ⊕ (Vec×Vec))):=
 bif decide (t.2.2≥0)then
 (Kk t.2.2 up.length).bind λi1=>
 (up[i1]?).bind λx2=>
 (gm s.Jc x2).bind λx3=>
 (
  bif ! x3.2 then
  some true
  else
  bif decide (label<0)then
   some true
  else
   some (decide (label≥(x3.1.KZ.length:Int)))).bind λq=>
 bif q then
  some (.inr (.inl (⟨0,0⟩:Vec)))
 else
  (Kk label x3.1.KZ.length).bind λi2=>
  (x3.1.KZ[i2]?).bind λx4=>
  (part (x4,())).bind λr=>
  (kH t.2.1 r).bind λx5=>
  some (.inl (t.1,x5.1,Jd (t.2.2 - 1)))
 else
 some (.inr (.inr (t.1,t.2.1)))
def kg(s:Gp)(Kn:List UInt8)(label:Int)(part:(Js fam [.st 1]→Option Int)):Option Vec:=
 (qp Kn).bind λup=>
 (gm s.Jc Kn).bind λx=>
 bif ! x.2 then
 some (⟨0,0⟩:Vec)
 else
 (eg s label).bind λx1=>
 let i:=Jd ((up.length:Int) - 2)
 (loop (qW s label part up) ((⟨0,0⟩:Vec),x1,i)).bind λq0=>
 match q0 with
 | .inl q1=>
  some q1
 | .inr q2=>
  some q2.2
def ads:Spec fam:=⟨[f9,f8,ge,.fn [.st 1] (.int .i64)],[t7],λa=>kg a.1 a.2.1 a.2.2.1 a.2.2.2.1⟩
def kE(c:Cap):Option Int:=
 some c.LB
def adr:Spec fam:=⟨[Qz],[ge],λa=>kE a.1⟩
def fK(s:Gp)(Kn:List UInt8)(label:Int):Option Vec:=
 (kg s Kn label (λa'=>kE a'.1)).bind λx=>
 some x
def adK:Spec fam:=⟨[f9,f8,ge],[t7],λa=>fK a.1 a.2.1 a.2.2.1⟩
def fJ(t:Attempt)(a:App)(x:Ask):Option Bool:=
 (cV t.s a.Ja t.n.Ji).bind λx1=>
 (cy x1 x.Ku).bind λx2=>
 bif x2.2 == 0 then
 (fK t.s a.Ja t.n.Ji).bind λx3=>
 (eh x2.1 x3).bind λx4=>
 some x4
 else
 some false
def ad_:Spec fam:=⟨[.rp (.st 20),QP,Q3],[gt],λa=>fJ a.1 a.2.1 a.2.2.1⟩
def lD(s:Gp)(Kn:List UInt8)(label:Int)(user:Int):Option Vec:=
 bif user == (-1)then
 some (⟨0,0⟩:Vec)
 else
 (fh (⟨⟨⟨s.Jc.Je,s.Jc.I8⟩,s.Jh,s.I9,s.I6,s.Jr,s.Jq,s.Now,s.Jz,s.Seq⟩,Kn,label,user⟩:View)).bind λx=>
 some x
def adJ:Spec fam:=⟨[f9,f8,ge,ge],[t7],λa=>lD a.1 a.2.1 a.2.2.1 a.2.2.2.1⟩
def m6(s:Gp)(Kn:List UInt8)(label:Int):Option Vec:=
 (gm s.Jc Kn).bind λx=>
 (fK s Kn label).bind λx1=>
 (kH x1 x.1.User).bind λx2=>
 some x2.1
def adI:Spec fam:=⟨[f9,f8,ge],[t7],λa=>m6 a.1 a.2.1 a.2.2.1⟩
def eQ(t:Attempt)(a:App):Option Bool:=
 (lD t.s a.Ja t.n.Ji a.User).bind λx=>
 (m6 t.s a.Ja t.n.Ji).bind λx1=>
 (eh x x1).bind λx2=>
 some x2
def ad9:Spec fam:=⟨[.rp (.st 20),QP],[gt],λa=>eQ a.1 a.2.1⟩
def eJ(t:Attempt)(x:Ask):Option Bool:=
 (eh x.Ku t.free).bind λx1=>
 some x1
def ad8:Spec fam:=⟨[.rp (.st 20),Q3],[gt],λa=>eJ a.1 a.2.1⟩
def kT(c:Cap):Option Int:=
 some c.Most
def ac7:Spec fam:=⟨[Qz],[ge],λa=>kT a.1⟩
def np(s:Gp)(Kn:List UInt8)(label:Int):Option Vec:=
 (kg s Kn label (λa'=>kT a'.1)).bind λx=>
 some x
def ado:Spec fam:=⟨[f9,f8,ge],[t7],λa=>np a.1 a.2.1 a.2.2.1⟩
def jp(s:Gp)(label:Int)(t:List Vec×Int):Option ((List Vec×Int) ⊕ List Vec):=
 bif decide (t.2<(s.Jq.length:Int))then
 (
  (idx s.Jq t.2).bind λx=>
  (
  bif x.Ji == label then
   bif decide (x.From≤s.Now)then
   some (decide (x.Until>s.Now))
   else
   some false
  else
   some false).bind λq=>
  bif q then
  (app 16 t.1 [x.Need]).bind λl=>
  some l
  else
  some t.1).bind λl1=>
 some (.inl (l1,Jd (t.2+1)))
 else
 some (.inr t.1)
def nD(s:Gp)(label:Int):Option Vec:=
 (loop (jp s label) ([],0)).bind λl2=>
 (jJ l2).bind λx1=>
 some x1
def adn:Spec fam:=⟨[f9,ge],[t7],λa=>nD a.1 a.2.1⟩
def mU(s:Gp)(label:Int)(size:Vec)(x:List (List UInt8))(t:Int):Option (Int ⊕ (Bool ⊕ Unit)):=
 bif decide (t<(x.length:Int))then
 (Kk t x.length).bind λi=>
 (x[i]?).bind λx1=>
 (cV s x1 label).bind λx2=>
 (cy x2 size).bind λx3=>
 (
  bif x3.2 != 0 then
  some true
  else
  (np s x1 label).bind λx4=>
  (eh x3.1 x4).bind λx5=>
  some (! x5)).bind λq=>
 bif q then
  some (.inr (.inl false))
 else
  (eg s label).bind λx6=>
  (nD s label).bind λx7=>
  (
  bif x1 == ([114,111,111,116]:List UInt8)then
   bif ! (((imax (Jd (x6.Mem - x7.Mem)) 0) == x6.Mem)&&((imax (Jd (x6.I_ - x7.I_)) 0) == x6.I_))then
   (eh x3.1 (⟨imax (Jd (x6.Mem - x7.Mem)) 0,imax (Jd (x6.I_ - x7.I_)) 0⟩:Vec)).bind λx8=>
   some (! x8)
   else
   some false
  else
   some false).bind λq1=>
  bif q1 then
  some (.inr (.inl false))
  else
  some (.inl (Jd (t+1)))
 else
 some (.inr (.inr ()))
def nt(s:Gp)(Kn:List UInt8)(label:Int)(size:Vec):Option Bool:=
 (qp Kn).bind λx=>
 (loop (mU s label size x) 0).bind λq0=>
 match q0 with
 | .inl q2=>
 some q2
 | .inr _=>
 some true
def adH:Spec fam:=⟨[f9,f8,ge,t7],[gt],λa=>nt a.1 a.2.1 a.2.2.1 a.2.2.2.1⟩
def eN(t:Attempt)(a:App)(x:Ask):Option Bool:=
 (nt t.s a.Ja t.n.Ji x.Ku).bind λx1=>
 some x1
def ad7:Spec fam:=⟨[.rp (.st 20),QP,Q3],[gt],λa=>eN a.1 a.2.1 a.2.2.1⟩
def mR(s:List Slot)(i:Int)(j:Int):Option (List Slot):=del s i j
def ad6:Spec fam:=⟨[Q1,ge,ge],[Q1],λa=>mR a.1 a.2.1 a.2.2.1⟩
def vQ(s:List App)(i:Int)(v:List App):Option (List App):=
 (Ms i (s.length:Int) s.length).bind λp=>
 bif(v.length:Int) == 0 then
 some s
 else
 bif i == (s.length:Int)then
  (app 200 s v).bind λl=>
  some l
 else
  none
def oD(s:List App)(i:Int)(v:List App):Option (List App):=ins s i v
def aoG:Hint:=.z
def afb:Spec fam:=⟨[QR,ge,QR],[QR],λa=>oD a.1 a.2.1 a.2.2.1⟩
def G_:Spec fam:=⟨[.v (.slice (.st 6)) [0],.v (.int .i64) [],.v (.slice (.st 6)) [0]],[.v (.slice (.st 6)) [0]],λa=>vQ a.1 a.2.1 a.2.2.1⟩
def tW(s:Gp)(a:App)(k:Int):Option (Int ⊕ Int):=
 (
 bif decide (k<(s.I9.length:Int))then
  (Kk k s.I9.length).bind λi2=>
  (s.I9[i2]?).bind λx1=>
  some (decide (x1.Id<a.Id))
 else
  some false).bind λq=>
 bif q then
 some (.inl (Jd (k+1)))
 else
 some (.inr k)
def nL(s:Gp)(a:App):Option Gp:=
 (jW s a.Id).bind λi=>
 bif decide (i≥0)then
 (Kk i s.I9.length).bind λi1=>
 (s.I9[i1]?).bind λx=>
 some (⟨⟨s.Jc.Je,s.Jc.I8⟩,s.Jh,List.set s.I9 i1 a,s.I6,s.Jr,s.Jq,s.Now,s.Jz,s.Seq⟩:Gp)
 else
 (loop (tW s a) 0).bind λk1=>
 (oD s.I9 k1 [a]).bind λx2=>
 some (⟨⟨s.Jc.Je,s.Jc.I8⟩,s.Jh,x2,s.I6,s.Jr,s.Jq,s.Now,s.Jz,s.Seq⟩:Gp)
def afU:Spec fam:=⟨[QF,Qd],[QF],λa=>nL a.1 a.2.1⟩
def lK(s:Gp)(a:App):Option Gp:=
 (gp s).bind λx=>
 (ie a).bind λx1=>
 (nL x x1).bind λx2=>
 some x2
def afO:Spec fam:=⟨[f9,.ln (.st 6)],[QF],λa=>lK a.1 a.2.1⟩
def wL(a:Ask)(p:Int):Option Bool:=
 some (a.J6 == p)
def ac6:Spec fam:=⟨[Q3,.rp (.int .i64)],[gt],λa=>wL a.1 a.2.1⟩
def p8(l:List Ask)(prio:Int):Option Int:=
 (kz l (λa'=>wL a'.1 prio)).bind λx=>
 some x
def adl:Spec fam:=⟨[Q2,ge],[ge],λa=>p8 a.1 a.2.1⟩
def nZ(s:List Ask)(i:Int)(j:Int):Option (List Ask):=del s i j
def adk:Spec fam:=⟨[QC,ge,ge],[QC],λa=>nZ a.1 a.2.1 a.2.2.1⟩
def pB(l:List Ask)(prio:Int):Option (List Ask×Bool):=
 (kY l).bind λout=>
 (p8 out prio).bind λi=>
 bif decide (i<0)then
 some (out,false)
 else
 (Kk i out.length).bind λi1=>
 (out[i1]?).bind λx=>
 (Kk i (List.set out i1 (⟨x.J6,x.Ji,⟨x.Ku.Mem,x.Ku.I_⟩,x.Ky,x.Node,x.KL,0⟩:Ask)).length).bind λi2=>
 ((List.set out i1 (⟨x.J6,x.Ji,⟨x.Ku.Mem,x.Ku.I_⟩,x.Ky,x.Node,x.KL,0⟩:Ask))[i2]?).bind λx1=>
 (Kk i (List.set out i1 (⟨x.J6,x.Ji,⟨x.Ku.Mem,x.Ku.I_⟩,x.Ky,x.Node,x.KL,0⟩:Ask)).length).bind λi3=>
 ((List.set out i1 (⟨x.J6,x.Ji,⟨x.Ku.Mem,x.Ku.I_⟩,x.Ky,x.Node,x.KL,0⟩:Ask))[i3]?).bind λx2=>
 (
  (Kk i (List.set (List.set out i1 (⟨x.J6,x.Ji,⟨x.Ku.Mem,x.Ku.I_⟩,x.Ky,x.Node,x.KL,0⟩:Ask)) i3 (⟨x2.J6,x2.Ji,⟨x2.Ku.Mem,x2.Ku.I_⟩,Jd (x1.Ky - 1),x2.Node,x2.KL,x2.Nn⟩:Ask)).length).bind λi4=>
  ((List.set (List.set out i1 (⟨x.J6,x.Ji,⟨x.Ku.Mem,x.Ku.I_⟩,x.Ky,x.Node,x.KL,0⟩:Ask)) i3 (⟨x2.J6,x2.Ji,⟨x2.Ku.Mem,x2.Ku.I_⟩,Jd (x1.Ky - 1),x2.Node,x2.KL,x2.Nn⟩:Ask))[i4]?).bind λx3=>
  bif decide (x3.Ky≤0)then
  (nZ (List.set (List.set out i1 (⟨x.J6,x.Ji,⟨x.Ku.Mem,x.Ku.I_⟩,x.Ky,x.Node,x.KL,0⟩:Ask)) i3 (⟨x2.J6,x2.Ji,⟨x2.Ku.Mem,x2.Ku.I_⟩,Jd (x1.Ky - 1),x2.Node,x2.KL,x2.Nn⟩:Ask)) i (Jd (i+1))).bind λLQ=>
  some LQ
  else
  some (List.set (List.set out i1 (⟨x.J6,x.Ji,⟨x.Ku.Mem,x.Ku.I_⟩,x.Ky,x.Node,x.KL,0⟩:Ask)) i3 (⟨x2.J6,x2.Ji,⟨x2.Ku.Mem,x2.Ku.I_⟩,Jd (x1.Ky - 1),x2.Node,x2.KL,x2.Nn⟩:Ask))).bind λVf=>
 some (Vf,true)
def adG:Spec fam:=⟨[Q2,ge],[QC,gt],λa=>pB a.1 a.2.1⟩
def uN(s:List Cont)(i:Int)(v:List Cont):Option (List Cont):=
 (Ms i (s.length:Int) s.length).bind λp=>
 bif(v.length:Int) == 0 then
 some s
 else
 bif i == (s.length:Int)then
  (app 72 s v).bind λl=>
  some l
 else
  none
def mN(s:List Cont)(i:Int)(v:List Cont):Option (List Cont):=ins s i v
def aoC:Hint:=.z
def adF:Spec fam:=⟨[QU,ge,QU],[QU],λa=>mN a.1 a.2.1 a.2.2.1⟩
def GI:Spec fam:=⟨[.v (.slice (.st 7)) [0],.v (.int .i64) [],.v (.slice (.st 7)) [0]],[.v (.slice (.st 7)) [0]],λa=>uN a.1 a.2.1 a.2.2.1⟩
def iQ(t:Attempt)(x2:Gp)(k:Int):Option (Int ⊕ Int):=
 (
 bif decide (k<(x2.I6.length:Int))then
  (Kk k x2.I6.length).bind λi=>
  (x2.I6[i]?).bind λx3=>
  some (decide (x3.Id<(Jd ((N_ .i64 t.s.Jz 20)+(Jd (t.s.Seq+1))))))
 else
  some false).bind λq=>
 bif q then
 some (.inl (Jd (k+1)))
 else
 some (.inr k)
def cp(t:Attempt)(a:App)(x:Ask):Option (Cont×Attempt):=
 (pB a.Jy x.J6).bind λx1=>
 (
 bif a.Gp == 1 then
  some (⟨a.Id,2,a.Ja,a.User,a.J6,⟨a.Jb.Mem,a.Jb.I_⟩,[],t.s.Now,0,a.Kj,a.KJ,a.Told,a.Lm⟩:App)
 else
  (app 8 a.Kj [Jd ((N_ .i64 t.s.Jz 20)+(Jd (t.s.Seq+1)))]).bind λl=>
  some (⟨a.Id,a.Gp,a.Ja,a.User,a.J6,⟨a.Jb.Mem,a.Jb.I_⟩,x1.1,a.KD,a.J_,l,a.KJ,a.Told,a.Lm⟩:App)).bind λa1=>
 (lK (⟨⟨t.s.Jc.Je,t.s.Jc.I8⟩,t.s.Jh,t.s.I9,t.s.I6,t.s.Jr,t.s.Jq,t.s.Now,t.s.Jz,Jd (t.s.Seq+1)⟩:Gp) a1).bind λx2=>
 (loop (iQ t x2) 0).bind λk1=>
 (mN x2.I6 k1 [(⟨Jd ((N_ .i64 t.s.Jz 20)+(Jd (t.s.Seq+1))),a.Id,t.n.Id,⟨x.Ku.Mem,x.Ku.I_⟩,x.J6,x.Ji,a.Gp == 1,0⟩:Cont)]).bind λx4=>
 some ((⟨Jd ((N_ .i64 t.s.Jz 20)+(Jd (t.s.Seq+1))),a.Id,t.n.Id,⟨x.Ku.Mem,x.Ku.I_⟩,x.J6,x.Ji,a.Gp == 1,0⟩:Cont),(⟨⟨⟨x2.Jc.Je,x2.Jc.I8⟩,x2.Jh,x2.I9,x4,x2.Jr,x2.Jq,x2.Now,x2.Jz,x2.Seq⟩,⟨t.n.Id,t.n.Ji,t.n.KL,⟨t.n.Cap.Mem,t.n.Cap.I_⟩,t.n.KD,t.n.J_,t.n.Up⟩,⟨t.free.Mem,t.free.I_⟩⟩:Attempt))
def ad5:Spec fam:=⟨[pp,Q7,Q3],[QI],λa=>cp a.1 a.2.1 a.2.2.1⟩
def eP(t:Attempt):Option (Int×Cont×Bool×Attempt):=
 (gI t.s.Jr (λa'=>jG a'.1 t)).bind λi=>
 bif decide (i<0)then
 some (0,(⟨0,0,0,⟨0,0⟩,0,0,false,0⟩:Cont),false,t)
 else
 (Kk i t.s.Jr.length).bind λi1=>
 (t.s.Jr[i1]?).bind λx=>
 (di t.s x.App).bind λx1=>
 (md x1.1 x.J6).bind λx2=>
 (
  bif x1.2 then
  (ci x1.1).bind λx3=>
  bif x3 then
   bif x2.2 then
   (mn x2.1 t.n).bind λx4=>
   bif x4 then
    (d7 t x2.1).bind λx5=>
    bif x5 then
    (fJ t x1.1 x2.1).bind λx6=>
    bif x6 then
     (eQ t x1.1).bind λx7=>
     some x7
    else
     some false
    else
    some false
   else
    some false
   else
   some false
  else
   some false
  else
  some false).bind λstays=>
 (
  bif stays then
  (eJ t x2.1).bind λx8=>
  bif x8 then
   (eN t x1.1 x2.1).bind λx9=>
   some (! x9)
  else
   some true
  else
  some false).bind λq=>
 bif q then
  some (3,(⟨0,0,0,⟨0,0⟩,0,0,false,0⟩:Cont),true,t)
 else
  (mR t.s.Jr i (Jd (i+1))).bind λx10=>
  bif ! stays then
  some (0,(⟨0,0,0,⟨0,0⟩,0,0,false,0⟩:Cont),false,(⟨⟨⟨t.s.Jc.Je,t.s.Jc.I8⟩,t.s.Jh,t.s.I9,t.s.I6,x10,t.s.Jq,t.s.Now,t.s.Jz,t.s.Seq⟩,⟨t.n.Id,t.n.Ji,t.n.KL,⟨t.n.Cap.Mem,t.n.Cap.I_⟩,t.n.KD,t.n.J_,t.n.Up⟩,⟨t.free.Mem,t.free.I_⟩⟩:Attempt))
  else
  (cp (⟨⟨⟨t.s.Jc.Je,t.s.Jc.I8⟩,t.s.Jh,t.s.I9,t.s.I6,x10,t.s.Jq,t.s.Now,t.s.Jz,t.s.Seq⟩,⟨t.n.Id,t.n.Ji,t.n.KL,⟨t.n.Cap.Mem,t.n.Cap.I_⟩,t.n.KD,t.n.J_,t.n.Up⟩,⟨t.free.Mem,t.free.I_⟩⟩:Attempt) x1.1 x2.1).bind λNg=>
  some (1,Ng.1,true,Ng.2)
def aeF:Spec fam:=⟨[pp],[ge,QI,gt],λa=>eP a.1⟩
def tQ(s:List Load)(f:(Js fam [.st 17,.st 17]→Option Int)):Option (List Load):=XM (F:=fam) (.st 17) f s
def ac5:Spec fam:=⟨[.row (.st 17) false,.fn [.st 17,.st 17] (.int .i64)],[],λa=>tQ a.1 a.2.1⟩
def ew(vals:List Int)(t:Int):Option (Int ⊕ (Int ⊕ Unit)):=
 bif decide (t<(vals.length:Int))then
 (idx vals t).bind λx=>
 bif x != 0 then
  some (.inr (.inl x))
 else
  some (.inl (Jd (t+1)))
 else
 some (.inr (.inr ()))
def gS(vals:List Int):Option Int:=
 (loop (ew vals) 0).bind λq0=>
 match q0 with
 | .inl q=>
 some q
 | .inr _=>
 some 0
def adW:Spec fam:=⟨[QQ],[ge],λa=>gS a.1⟩
def c_(r:OO)(q:OO):Option Int:=
 (
 bif r.of == 0 then
  some (q.of == 0)
 else
  some false).bind λq1=>
 bif q1 then
 some 0
 else
 bif r.of == 0 then
  some 1
 else
  bif q.of == 0 then
  some (-1)
  else
  (iw r.n q.of).bind λx=>
  (iw q.n r.of).bind λx1=>
  (
   bif decide (x.1<x1.1)then
   some true
   else
   bif x.1 == x1.1 then
    some (decide (x.2<x1.2))
   else
    some false).bind λq2=>
  bif q2 then
   some (-1)
  else
   (
   bif x.1 == x1.1 then
    some (x.2 == x1.2)
   else
    some false).bind λq3=>
   bif q3 then
   some 0
   else
   some 1
def acQ:Spec fam:=⟨[Qu,Qu],[ge],λa=>c_ a.1 a.2.1⟩
def lu(a:Vec)(p:Vec)(get:(Js fam [.st 0]→Option Int)):Option OO:=
 (get (a,())).bind λr=>
 (get (p,())).bind λr1=>
 bif r == 0 then
 some (⟨0,1⟩:OO)
 else
 some (⟨IntKind.u64.wrap r,IntKind.u64.wrap r1⟩:OO)
def acO:Spec fam:=⟨[t7,t7,.fn [.st 0] (.int .i64)],[Qu],λa=>lu a.1 a.2.1 a.2.2.1⟩
def kt(v:Vec):Option Int:=
 some v.Mem
def acN:Spec fam:=⟨[t7],[ge],λa=>kt a.1⟩
def iE(v:Vec):Option Int:=
 some v.I_
def acM:Spec fam:=⟨[t7],[ge],λa=>iE a.1⟩
def mE(a:Vec)(p:Vec):Option OO:=
 (lu a p (λa'=>kt a'.1)).bind λx=>
 (lu a p (λa'=>iE a'.1)).bind λx1=>
 (c_ x x1).bind λx2=>
 bif decide (x2<0)then
 some x1
 else
 some x
def acR:Spec fam:=⟨[t7,t7],[Qu],λa=>mE a.1 a.2.1⟩
def mZ(a:Vec)(p:Vec)(b:Vec)(q:Vec):Option Int:=
 (
 (bu a).bind λx=>
 bif ! x then
  some true
 else
  (bu p).bind λx1=>
  bif ! x1 then
  some true
  else
  (bu b).bind λx2=>
  bif ! x2 then
   some true
  else
   (bu q).bind λx3=>
   some (! x3)).bind λq1=>
 bif q1 then
 some 0
 else
 (mE a p).bind λx4=>
 (mE b q).bind λx5=>
 (c_ x4 x5).bind λx6=>
 some x6
def acW:Spec fam:=⟨[t7,t7,t7,t7],[ge],λa=>mZ a.1 a.2.1 a.2.2.1 a.2.2.2.1⟩
def fw(a:Load)(b:Load):Option Int:=
 (mZ a.used a.least b.used b.least).bind λx=>
 (b8 a.Kn b.Kn).bind λx1=>
 (gS [x,x1]).bind λx2=>
 some x2
def ac4:Spec fam:=⟨[.v (.st 17) [],.v (.st 17) []],[ge],λa=>fw a.1 a.2.1⟩
def jo(x4:List Load)(t1:List (List UInt8)×Int):Option ((List (List UInt8)×Int) ⊕ List (List UInt8)):=
 bif decide (t1.2<(x4.length:Int))then
 (Kk t1.2 x4.length).bind λi1=>
 (x4[i1]?).bind λx5=>
 (Ms t1.2 (t1.1.length:Int) t1.1.length).bind λp=>
 some (.inl (LP t1.1 p.1 p.2 [x5.Kn],Jd (t1.2+1)))
 else
 some (.inr t1.1)
def jl(s:Gp)(label:Int)(x:List (List UInt8))(t:List Load×Int):Option ((List Load×Int) ⊕ List Load):=
 bif decide (t.2<(x.length:Int))then
 (Kk t.2 x.length).bind λi=>
 (x[i]?).bind λx1=>
 (cV s x1 label).bind λx2=>
 (fK s x1 label).bind λx3=>
 (app 48 t.1 [(⟨x1,⟨x2.Mem,x2.I_⟩,⟨x3.Mem,x3.I_⟩⟩:Load)]).bind λl=>
 some (.inl (l,Jd (t.2+1)))
 else
 some (.inr t.1)
def m8(s:Gp)(Kn:List UInt8)(label:Int):Option (List (List UInt8)):=
 (iq s.Jc Kn).bind λx=>
 (loop (jl s label x) ([],0)).bind λl1=>
 (tQ l1 (λa'=>fw a'.1 a'.2.1)).bind λx4=>
 (P7 16 (x4.length:Int) (x4.length:Int) []).bind λl2=>
 (loop (jo x4) (l2,0)).bind λout=>
 some out
def adj:Spec fam:=⟨[f9,f8,ge],[t6],λa=>m8 a.1 a.2.1 a.2.2.1⟩
def gw(s:Gp)(label:Int)(deep:Int)(self:Gp→(List UInt8)→Int→Int→Option (List (List UInt8)))(kids:List (List UInt8))(t:List (List UInt8)×Int):Option ((List (List UInt8)×Int) ⊕ List (List UInt8)):=
 bif decide (t.2<(kids.length:Int))then
 (Kk t.2 kids.length).bind λi=>
 (kids[i]?).bind λx=>
 (self s x label (Jd (deep+1))).bind λx1=>
 (app 16 t.1 x1).bind λl=>
 some (.inl (l,Jd (t.2+1)))
 else
 some (.inr t.1)
def mO(self:Gp→(List UInt8)→Int→Int→Option (List (List UInt8)))(s:Gp)(Kn:List UInt8)(label:Int)(deep:Int):Option (List (List UInt8)):=
 (m8 s Kn label).bind λkids=>
 (
 bif(kids.length:Int) == 0 then
  some true
 else
  some (decide (deep>4))).bind λq=>
 bif q then
 some [Kn]
 else
 (loop (gw s label deep self kids) ([],0)).bind λout=>
 some out
def eW:Nat→Gp→(List UInt8)→Int→Int→Option (List (List UInt8))
 | 0=>λ_ _ _ _=>none
 | n+1=>mO (eW n)
def tT(a0:Gp)(a1:List UInt8)(a2:Int)(a3:Int):Option (List (List UInt8)):=eW 64 a0 a1 a2 a3
def aoB:Hint:=(JQ (.s .z (.s (.s (.j [17,18,19,20,21,22,23] [(0,[(23,gt)])] .z) .z) (JQ (.s (JQ ((JJ [(10,t6),(28,ge)] [10,12,28] [(2,[(10,t6)])] .z))) .z)))))
def adE:Spec fam:=⟨[f9,f8,ge,ge],[t6],λa=>tT a.1 a.2.1 a.2.2.1 a.2.2.2.1⟩
def GT(n:Nat):Spec fam:=⟨[.v (.st 10) [],.v .str [],.v (.int .i64) [],.v (.int .i64) []],[.v (.slice (.str)) [0]],λa=>eW n a.1 a.2.1 a.2.2.1 a.2.2.2.1⟩
def nQ(s:Gp)(label:Int):Option (List (List UInt8)):=
 (tT s ([114,111,111,116]:List UInt8) label 1).bind λx=>
 some x
def ad4:Spec fam:=⟨[f9,ge],[t6],λa=>nQ a.1 a.2.1⟩
def vh(a:Int)(cmp:(Js fam [.st 6,.st 6]→Option Int))(t1:List App×Int):Option ((List App×Int) ⊕ List App):=
 (
 bif decide (t1.2>a)then
  (Kk t1.2 t1.1.length).bind λi=>
  (t1.1[i]?).bind λx=>
  (Kk (Jd (t1.2 - 1)) t1.1.length).bind λi1=>
  (t1.1[i1]?).bind λx1=>
  (cmp (x,x1,())).bind λr=>
  some (decide (r<0))
 else
  some false).bind λq=>
 bif q then
 (Kk (Jd (t1.2 - 1)) t1.1.length).bind λi2=>
 (t1.1[i2]?).bind λx2=>
 (Kk t1.2 t1.1.length).bind λi3=>
 (t1.1[i3]?).bind λx3=>
 (Kk t1.2 t1.1.length).bind λi4=>
 (t1.1[i4]?).bind λx4=>
 (Kk (Jd (t1.2 - 1)) (List.set t1.1 i4 x2).length).bind λi5=>
 ((List.set t1.1 i4 x2)[i5]?).bind λx5=>
 some (.inl (List.set (List.set t1.1 i4 x2) i5 x3,Jd (t1.2 - 1)))
 else
 some (.inr t1.1)
def vA(a:Int)(b:Int)(cmp:(Js fam [.st 6,.st 6]→Option Int))(t:List App×Int):Option ((List App×Int) ⊕ List App):=
 bif decide (t.2<b)then
 (loop (vh a cmp) (t.1,t.2)).bind λMN=>
 some (.inl (MN,Jd (t.2+1)))
 else
 some (.inr t.1)
def ke(data:List App)(a:Int)(b:Int)(cmp:(Js fam [.st 6,.st 6]→Option Int)):Option (List App):=
 (loop (vA a b cmp) (data,Jd (a+1))).bind λNJ=>
 some NJ
def acV:Spec fam:=⟨[ac,ge,ge,.fn [.st 6,.st 6] (.int .i64)],[],λa=>ke a.1 a.2.1 a.2.2.1 a.2.2.2.1⟩
def u7(a:Int)(b:Int)(n:Int)(t:List App×Int):Option ((List App×Int) ⊕ List App):=
 bif decide (t.2<n)then
 (Kk (Jd (b+t.2)) t.1.length).bind λi=>
 (t.1[i]?).bind λx=>
 (Kk (Jd (a+t.2)) t.1.length).bind λi1=>
 (t.1[i1]?).bind λx1=>
 (Kk (Jd (a+t.2)) t.1.length).bind λi2=>
 (t.1[i2]?).bind λx2=>
 (Kk (Jd (b+t.2)) (List.set t.1 i2 x).length).bind λi3=>
 ((List.set t.1 i2 x)[i3]?).bind λx3=>
 some (.inl (List.set (List.set t.1 i2 x) i3 x1,Jd (t.2+1)))
 else
 some (.inr t.1)
def kC(data:List App)(a:Int)(b:Int)(n:Int)(cmp:(Js fam [.st 6,.st 6]→Option Int)):Option (List App):=
 (loop (u7 a b n) (data,0)).bind λMN=>
 some MN
def acL:Spec fam:=⟨[ac,ge,ge,ge,.fn [.st 6,.st 6] (.int .i64)],[],λa=>kC a.1 a.2.1 a.2.2.1 a.2.2.2.1 a.2.2.2.2.1⟩
def vJ(m:Int)(cmp:(Js fam [.st 6,.st 6]→Option Int))(t:List App×Int×Int):Option ((List App×Int×Int) ⊕ ((List App×Int))):=
 bif t.2.1 != t.2.2 then
 bif decide (t.2.1>t.2.2)then
  (kC t.1 (Jd (m - t.2.1)) m t.2.2 cmp).bind λx=>
  let i:=Jd (t.2.1 - t.2.2)
  some (.inl (x,i,t.2.2))
 else
  (kC t.1 (Jd (m - t.2.1)) (Jd ((Jd (m+t.2.2)) - t.2.1)) t.2.1 cmp).bind λx1=>
  let j:=Jd (t.2.2 - t.2.1)
  some (.inl (x1,t.2.1,j))
 else
 some (.inr (t.1,t.2.1))
def rV(data:List App)(a:Int)(m:Int)(b:Int)(cmp:(Js fam [.st 6,.st 6]→Option Int)):Option (List App):=
 (loop (vJ m cmp) (data,Jd (m - a),Jd (b - m))).bind λq=>
 (kC q.1 (Jd (m - q.2)) m q.2 cmp).bind λx2=>
 some x2
def acP:Spec fam:=⟨[ac,ge,ge,ge,.fn [.st 6,.st 6] (.int .i64)],[],λa=>rV a.1 a.2.1 a.2.2.1 a.2.2.2.1 a.2.2.2.2.1⟩
def tp(data:List App)(cmp:(Js fam [.st 6,.st 6]→Option Int))(p:Int)(t4:Int×Int):Option ((Int×Int) ⊕ Int):=
 bif decide (t4.1<t4.2)then
 let c:=Jd (Mi .u64 (IntKind.u64.wrap (Jd (t4.1+t4.2))) 1)
 (Kk (Jd (p - c)) data.length).bind λi14=>
 (data[i14]?).bind λOA=>
 (Kk c data.length).bind λi15=>
 (data[i15]?).bind λPw=>
 (cmp (OA,Pw,())).bind λr2=>
 bif ! (decide (r2<0))then
  some (.inl (Jd (c+1),t4.2))
 else
  some (.inl (t4.1,c))
 else
 some (.inr t4.1)
def tA(i9:Int)(t3:List App×Int):Option ((List App×Int) ⊕ List App):=
 bif decide (t3.2>i9)then
 (Kk (Jd (t3.2 - 1)) t3.1.length).bind λi10=>
 (t3.1[i10]?).bind λx8=>
 (Kk t3.2 t3.1.length).bind λi11=>
 (t3.1[i11]?).bind λx9=>
 (Kk t3.2 t3.1.length).bind λi12=>
 (t3.1[i12]?).bind λx10=>
 (Kk (Jd (t3.2 - 1)) (List.set t3.1 i12 x8).length).bind λi13=>
 ((List.set t3.1 i12 x8)[i13]?).bind λNg=>
 some (.inl (List.set (List.set t3.1 i12 x8) i13 x9,Jd (t3.2 - 1)))
 else
 some (.inr t3.1)
def tj(data:List App)(m:Int)(cmp:(Js fam [.st 6,.st 6]→Option Int))(t2:Int×Int):Option ((Int×Int) ⊕ Int):=
 bif decide (t2.1<t2.2)then
 let h1:=Jd (Mi .u64 (IntKind.u64.wrap (Jd (t2.1+t2.2))) 1)
 (Kk m data.length).bind λi7=>
 (data[i7]?).bind λx6=>
 (Kk h1 data.length).bind λi8=>
 (data[i8]?).bind λx7=>
 (cmp (x6,x7,())).bind λr1=>
 bif ! (decide (r1<0))then
  some (.inl (Jd (h1+1),t2.2))
 else
  some (.inl (t2.1,h1))
 else
 some (.inr t2.1)
def tw(i2:Int)(t1:List App×Int):Option ((List App×Int) ⊕ List App):=
 bif decide (t1.2<(Jd (i2 - 1)))then
 (Kk (Jd (t1.2+1)) t1.1.length).bind λi3=>
 (t1.1[i3]?).bind λx2=>
 (Kk t1.2 t1.1.length).bind λi4=>
 (t1.1[i4]?).bind λx3=>
 (Kk t1.2 t1.1.length).bind λi5=>
 (t1.1[i5]?).bind λx4=>
 (Kk (Jd (t1.2+1)) (List.set t1.1 i5 x2).length).bind λi6=>
 ((List.set t1.1 i5 x2)[i6]?).bind λx5=>
 some (.inl (List.set (List.set t1.1 i5 x2) i6 x3,Jd (t1.2+1)))
 else
 some (.inr t1.1)
def tu(data:List App)(a:Int)(cmp:(Js fam [.st 6,.st 6]→Option Int))(t:Int×Int):Option ((Int×Int) ⊕ Int):=
 bif decide (t.1<t.2)then
 let h:=Jd (Mi .u64 (IntKind.u64.wrap (Jd (t.1+t.2))) 1)
 (Kk h data.length).bind λi=>
 (data[i]?).bind λx=>
 (Kk a data.length).bind λi1=>
 (data[i1]?).bind λx1=>
 (cmp (x,x1,())).bind λr=>
 bif decide (r<0)then
  some (.inl (Jd (h+1),t.2))
 else
  some (.inl (t.1,h))
 else
 some (.inr t.1)
def vW(self:(List App)→Int→Int→Int→((Js fam [.st 6,.st 6]→Option Int))→Option (List App))(data:List App)(a:Int)(m:Int)(b:Int)(cmp:(Js fam [.st 6,.st 6]→Option Int)):Option (List App):=
 bif(Jd (m - a)) == 1 then
 (loop (tu data a cmp) (m,b)).bind λi2=>
 (loop (tw i2) (data,a)).bind λMN=>
 some MN
 else
 bif(Jd (b - m)) == 1 then
  (loop (tj data m cmp) (a,m)).bind λi9=>
  (loop (tA i9) (data,m)).bind λNJ=>
  some NJ
 else
  let mid:=Jd (Mi .u64 (IntKind.u64.wrap (Jd (a+b))) 1)
  (
  bif decide (m>mid)then
   let start:=Jd ((Jd (mid+m)) - b)
   some (start,mid)
  else
   some (a,m)).bind λq=>
  let p:=Jd ((Jd (mid+m)) - 1)
  (loop (tp data cmp p) (q.1,q.2)).bind λMe=>
  let end_:=Jd ((Jd (mid+m)) - Me)
  (
  (
   bif decide (Me<m)then
   some (decide (m<end_))
   else
   some false).bind λq1=>
  bif q1 then
   (rV data Me m end_ cmp).bind λN7=>
   some N7
  else
   some data).bind λSC=>
  (
  (
   bif decide (a<Me)then
   some (decide (Me<mid))
   else
   some false).bind λq2=>
  bif q2 then
   (self SC a Me mid cmp).bind λRP=>
   some RP
  else
   some SC).bind λSB=>
  (
  bif decide (mid<end_)then
   some (decide (end_<b))
  else
   some false).bind λq3=>
  bif q3 then
  (self SB mid end_ b cmp).bind λUY=>
  some UY
  else
  some SB
def lz:Nat→(List App)→Int→Int→Int→((Js fam [.st 6,.st 6]→Option Int))→Option (List App)
 | 0=>λ_ _ _ _ _=>none
 | n+1=>vW (lz n)
def n7(a0:List App)(a1:Int)(a2:Int)(a3:Int)(a4:(Js fam [.st 6,.st 6]→Option Int)):Option (List App):=lz 64 a0 a1 a2 a3 a4
def aoy:Hint:=(.s (JQ (.c (JQ (.s .z (.s JH (.s (JQ ((JJ [(0,ac),(13,ge)] [0,13] [(4,[(0,ac)])] .z))) .z)))) .z)) (.s (JQ (.c (JQ (.s .z (.s JI (.s (JQ ((JJ [(0,ac),(17,ge)] [0,17] [(8,[(0,ac)])] .z))) .z)))) .z)) (JQ (.s .z (JQ (.s JN (JQ (.s JF (JQ (.s (.j [0,185] [(0,[(0,ac)])] JO) (.s (.j [0,199] [(0,[(0,ac)])] JP) JR)))))))))))
def acU:Spec fam:=⟨[ac,ge,ge,ge,.fn [.st 6,.st 6] (.int .i64)],[],λa=>n7 a.1 a.2.1 a.2.2.1 a.2.2.2.1 a.2.2.2.2.1⟩
end
end Go.Fx.D
