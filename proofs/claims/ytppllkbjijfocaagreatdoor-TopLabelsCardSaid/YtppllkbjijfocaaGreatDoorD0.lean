/-
  The functions of the program that this law reaches, as functions over plain data (printed by a program). Conditions: none.
-/
import Derived.Test.YtppllkbjijfocaaGreatDoorFxD
import Derived.Test.YtppllkbjijfocaaGreatDoorA
namespace Go.Fx.D
open Go Go.Fx Go.Proofs
set_option linter.unusedVariables false
noncomputable section
abbrev ge:Kd:=.v (.int .i64) []
abbrev gt:Kd:=.v .bool []
abbrev f0:Kd:=.v (.slice (.int .i64)) [0]
abbrev f8:Kd:=.v .str []
abbrev f9:Kd:=.v (.st 10) []
abbrev pp:Kd:=.box (.st 20) [0,2,4,5,6]
abbrev t6:Kd:=.v (.slice (.str)) [0]
abbrev t7:Kd:=.v (.st 0) []
abbrev t8:Kd:=.row (.st 6) false
abbrev ac:Kd:=.row (.st 2) false
abbrev QQ:Kd:=.v (.slice (.int .i64)) []
abbrev QJ:Kd:=.v (.st 10) [0,1001,2,1003,4,5,6]
abbrev QX:Kd:=.box (.st 14) [20,23,24,25,26,27,28]
abbrev QZ:Kd:=.box (.st 6) [7,10,11,12,13]
abbrev QW:Kd:=.box (.st 0) []
abbrev QY:Kd:=.v (.slice (.st 0)) [0]
abbrev QV:Kd:=.box (.st 10) [0,1001,2,1003,4,5,6]
abbrev QU:Kd:=.v (.slice (.st 7)) [0]
abbrev QG:Kd:=.v (.int .u64) []
abbrev QC:Kd:=.v (.slice (.st 5)) [0]
abbrev QD:Kd:=.box (.st 7) []
abbrev QE:Kd:=.box (.st 23) [11,12,13]
abbrev QF:Kd:=.v (.st 10) [0,1,2,3,4,5,6]
abbrev QH:Kd:=.box (.st 19) [0,2,4,5,6,7000]
abbrev QI:Kd:=.v (.st 7) []
abbrev QL:Kd:=.box (.st 19) [0,2,4,5,6]
abbrev QM:Kd:=.row (.int .i64) false
abbrev QN:Kd:=.v (.st 13) [1,2,3]
abbrev QO:Kd:=.box (.st 3) [1001]
abbrev QP:Kd:=.v (.st 6) []
abbrev QR:Kd:=.v (.slice (.st 6)) [0]
abbrev QT:Kd:=.box (.st 13) [1,2,3]
abbrev QA:Kd:=.v (.slice (.str)) []
abbrev Q0:Kd:=.v (.int .u32) []
abbrev Q1:Kd:=.v (.slice (.st 8)) [0]
abbrev Q2:Kd:=.v (.slice (.st 5)) []
abbrev Q3:Kd:=.v (.st 5) []
abbrev Q4:Kd:=.row .str false
abbrev Q5:Kd:=.v (.st 3) []
abbrev Q6:Kd:=.v (.slice (.st 9)) []
abbrev Q7:Kd:=.v (.st 6) [7,10,11,12,13]
abbrev Q8:Kd:=.box (.st 2) [1]
abbrev Q9:Kd:=.v (.slice (.st 9)) [0]
abbrev Qa:Kd:=.v (.slice (.st 6)) []
abbrev Qb:Kd:=.box (.st 3) [0,1]
abbrev Qc:Kd:=.v (.slice (.st 15)) [0]
abbrev Qd:Kd:=.v (.st 6) [7,10,11,12,13,9999]
abbrev Qe:Kd:=.v (.slice (.st 4)) [0]
abbrev Qf:Kd:=.v (.slice (.st 7)) []
abbrev Qg:Kd:=.v (.slice (.st 1)) []
abbrev Qh:Kd:=.v (.slice (.st 4)) []
abbrev Qi:Kd:=.v (.slice (.st 8)) []
abbrev Qj:Kd:=.v (.st 24) []
abbrev Qk:Kd:=.v (.st 9) []
abbrev Ql:Kd:=.v (.st 4) []
abbrev Qm:Kd:=.box (.st 18) [0,1]
abbrev Qn:Kd:=.box (.st 10) [0,2,4,5,6]
abbrev Qo:Kd:=.box (.st 5) []
abbrev Qp:Kd:=.row (.st 5) false
abbrev Qq:Kd:=.v (.st 14) [20,23,24,25,26,27,28]
abbrev Qr:Kd:=.v (.slice (.st 0)) []
abbrev Qs:Kd:=.v (.st 8) []
abbrev Qt:Kd:=.row (.st 501) false
abbrev Qu:Kd:=.row (.st 500) false
abbrev Qv:Kd:=.v (.st 21) []
abbrev Qw:Kd:=.v (.st 16) []
abbrev Qx:Kd:=.row (.st 9) false
abbrev Qy:Kd:=.row (.st 4) false
abbrev Qz:Kd:=.row (.st 8) false
abbrev JQ:Kd:=.v (.st 1) []
def JX (a:Ks)(b:List Nat)(c:List (Nat×Ks))(d:Hint):Hint:=.b (.l a b c d)
def JJ (x:Hint):Hint:=.s .z x
def JZ:Hint:=(JJ (.s (JJ ((JX [(8,ge)] [4,5,8] [(1,[(4,ge)]),(2,[])] .z))) .z))
def JW:Hint:=(JJ (.s (.r [9998]) .z))
def JY:Ks:=[(0,pp),(8,ge),(9,QD)]
def JV:Hint:=(.s (.j [] [(0,[(33,gt)])] .z) .z)
def JU:Hint:=(.s (.j [] [(0,[(20,gt)])] .z) .z)
def JG:Hint:=(.s (.s (.j [] [(0,[(34,gt)])] .z) .z) .z)
def JK:Ks:=[(0,pp),(9,QD)]
def JB:Hint:=(.j [0,2] [(0,[(0,QG),(2,ge)])] .z)
def JD:Hint:=(.s (.j [] [(0,[(37,gt)])] .z) .z)
def JE:Hint:=(.s (.j [] [(0,[(26,gt)])] .z) .z)
def JF:Hint:=(.s (.j [] [(0,[(5,gt)])] .z) .z)
def JH:Hint:=((JX [(20,ge),(21,ge)] [20,21,23] [(10,[(20,ge)])] .z))
def JI:Hint:=((JX [(10,ge),(11,ge)] [10,11,12] [(2,[(10,ge)])] .z))
def JL:Hint:=((JX [(14,ge),(15,ge)] [14,15,16] [(6,[(14,ge)])] .z))
def JM:Hint:=(.j [] [(0,[(30,gt)])] .z)
def JN:Hint:=(JJ (.s .z (.s (.j [5] [(0,[(5,ge)])] .z) .z)))
def JO:Hint:=(.b (JJ (.s (.j [] [(0,[(22,gt)])] .z) .z)))
def JP:Hint:=(.j [20,21] [(0,[(20,ge),(21,ge)])] .z)
def JR:Hint:=(.s (.j [] [(0,[(185,gt)])] .z) .z)
def JS:Hint:=(.s (.j [] [(0,[(199,gt)])] .z) .z)
def JT:Hint:=(.s (.j [] [(0,[(213,gt)])] .z) .z)
def J0:Hint:=(.s (.j [] [(0,[(104,gt)])] .z) .z)
def J1:Hint:=(.s (.j [] [(0,[(28,gt)])] .z) .z)
def J2:Hint:=(.s (.j [] [(0,[(10,gt)])] .z) .z)
def J3:Hint:=(.s (.j [] [(0,[(16,gt)])] .z) .z)
def J4:Hint:=(.s (.j [] [(0,[(74,gt)])] .z) .z)
def J5:Hint:=(.s (.j [] [(0,[(25,gt)])] .z) .z)
def lR:Option GN:=
 some (⟨⟨[([]:List UInt8)],[(⟨([114,111,111,116]:List UInt8),[(⟨10000,10000⟩:Cap)],10000⟩:I4)]⟩,[],[],[],[],[],0,0,0⟩:GN)
def h7:Hint:=.z
noncomputable def sp7:Spec fam:=⟨[],[QF],λ_=>lR⟩
def jv(s:List (List UInt8)):Option (List (List UInt8)):=
 bif s.isEmpty then
 none
 else
 (app 16 [] s).bind λl=>
 some l
def aW(s:List (List UInt8)):Option (List (List UInt8)):=app 16 [] s
def h85:Hint:=.z
def ald:Spec fam:=⟨[QA],[t6],λa=>aW a.1⟩
def G5:Spec fam:=⟨[.v (.slice (.str)) []],[.v (.slice (.str)) [0]],λa=>jv a.1⟩
def xr(s:List I4):Option (List I4):=
 bif s.isEmpty then
 none
 else
 (app 48 [] s).bind λl=>
 some l
def iv(s:List I4):Option (List I4):=app 48 [] s
def h86:Hint:=.z
def alc:Spec fam:=⟨[.v (.slice (.st 2)) []],[.v (.slice (.st 2)) [0]],λa=>iv a.1⟩
def Hl:Spec fam:=⟨[.v (.slice (.st 2)) []],[.v (.slice (.st 2)) [0]],λa=>xr a.1⟩
def zN(s:List Cap):Option (List Cap):=
 bif s.isEmpty then
 none
 else
 (app 16 [] s).bind λl=>
 some l
def ij(s:List Cap):Option (List Cap):=app 16 [] s
def h87:Hint:=.z
def alb:Spec fam:=⟨[Qg],[.v (.slice (.st 1)) [0]],λa=>ij a.1⟩
def HQ:Spec fam:=⟨[.v (.slice (.st 1)) []],[.v (.slice (.st 1)) [0]],λa=>zN a.1⟩
def yF(s:List Node):Option (List Node):=
 bif s.isEmpty then
 none
 else
 (app 64 [] s).bind λl=>
 some l
def jx(s:List Node):Option (List Node):=app 64 [] s
def h88:Hint:=.z
def ala:Spec fam:=⟨[Qh],[Qe],λa=>jx a.1⟩
def G9:Spec fam:=⟨[.v (.slice (.st 4)) []],[.v (.slice (.st 4)) [0]],λa=>yF a.1⟩
def yk(s:List Cont):Option (List Cont):=
 bif s.isEmpty then
 none
 else
 (app 72 [] s).bind λl=>
 some l
def d7(s:List Cont):Option (List Cont):=app 72 [] s
def h89:Hint:=.z
def ak_:Spec fam:=⟨[Qf],[QU],λa=>d7 a.1⟩
def F4:Spec fam:=⟨[.v (.slice (.st 7)) []],[.v (.slice (.st 7)) [0]],λa=>yk a.1⟩
def zG(s:List Slot):Option (List Slot):=
 bif s.isEmpty then
 none
 else
 (app 24 [] s).bind λl=>
 some l
def jA(s:List Slot):Option (List Slot):=app 24 [] s
def h90:Hint:=.z
def ak9:Spec fam:=⟨[Qi],[Q1],λa=>jA a.1⟩
def F_:Spec fam:=⟨[.v (.slice (.st 8)) []],[.v (.slice (.st 8)) [0]],λa=>zG a.1⟩
def xL(s:List Jd):Option (List Jd):=
 bif s.isEmpty then
 none
 else
 (app 48 [] s).bind λl=>
 some l
def jI(s:List Jd):Option (List Jd):=app 48 [] s
def h91:Hint:=.z
def ak8:Spec fam:=⟨[Q6],[Q9],λa=>jI a.1⟩
def FT:Spec fam:=⟨[.v (.slice (.st 9)) []],[.v (.slice (.st 9)) [0]],λa=>xL a.1⟩
def z9(s:List App):Option (List App):=
 bif s.isEmpty then
 none
 else
 (app 200 [] s).bind λl=>
 some l
def kW(s:List App):Option (List App):=app 200 [] s
def h92:Hint:=.z
def ak7:Spec fam:=⟨[Qa],[QR],λa=>kW a.1⟩
def Gd:Spec fam:=⟨[.v (.slice (.st 6)) []],[.v (.slice (.st 6)) [0]],λa=>z9 a.1⟩
def zM(s:List Ask):Option (List Ask):=
 bif s.isEmpty then
 none
 else
 (app 64 [] s).bind λl=>
 some l
def lq(s:List Ask):Option (List Ask):=app 64 [] s
def aoz:Hint:=.z
def afm:Spec fam:=⟨[Q2],[QC],λa=>lq a.1⟩
def E_:Spec fam:=⟨[.v (.slice (.st 5)) []],[.v (.slice (.st 5)) [0]],λa=>zM a.1⟩
def ia(l:List Int):Option (List Int):=
 (PV 8 (l.length:Int) (l.length:Int) 0).bind λl1=>
 some (LD l1 0 l1.length l)
def afl:Spec fam:=⟨[QQ],[f0],λa=>ia a.1⟩
def ie(a:App):Option App:=
 (lq a.Ju).bind λx=>
 (ia a.Ke).bind λx1=>
 (ia a.KE).bind λx2=>
 (ia a.Told).bind λx3=>
 (ia a.Lg).bind λx4=>
 some (⟨a.Id,a.GN,a.I4,a.User,a.Jt,⟨a.I5.Mem,a.I5.IZ⟩,x,a.Kz,a.J6,x1,x2,x3,x4⟩:App)
def ak6:Spec fam:=⟨[QP],[Qd],λa=>ie a.1⟩
def ma(x9:List App)(t1:List App×Nat×Int):Option ((List App×Nat×Int) ⊕ (List App×Nat×Int)):=
 bif decide (t1.2.2<(x9.length:Int))then
 (Ka t1.2.2 t1.1.length).bind λi2=>
 bif Nat.ble t1.2.1 i2 then
  (t1.1[i2]?).bind λx10=>
  (ie x10).bind λM_=>
  (Ka t1.2.2 t1.1.length).bind λi3=>
  bif Nat.beq i3 t1.2.1 then
  (t1.1[i3]?).bind λOo=>
  some (.inl (List.set t1.1 i3 M_,t1.2.1+1,I8 (t1.2.2+1)))
  else
  none
 else
  none
 else
 some (.inr (t1.1,t1.2.1,t1.2.2))
def lO(x1:List I4)(t:List I4×Nat×Int):Option ((List I4×Nat×Int) ⊕ (List I4×Nat×Int)):=
 bif decide (t.2.2<(x1.length:Int))then
 (Ka t.2.2 t.1.length).bind λi=>
 bif Nat.ble t.2.1 i then
  (t.1[i]?).bind λx2=>
  (ij x2.KU).bind λx3=>
  (Ka t.2.2 t.1.length).bind λi1=>
  bif Nat.beq i1 t.2.1 then
  (t.1[i1]?).bind λx4=>
  some (.inl (List.set t.1 i1 (⟨x4.J_,x3,x4.User⟩:I4),t.2.1+1,I8 (t.2.2+1)))
  else
  none
 else
  none
 else
 some (.inr (t.1,t.2.1,t.2.2))
def nT(s:GN):Option GN:=
 (aW s.I6.I7).bind λx=>
 (iv s.I6.IX).bind λx1=>
 (loop (lO x1) (x1,0,0)).bind λq=>
 bif Nat.ble q.1.length q.2.1 then
 (jx s.Jb).bind λx5=>
 (d7 s.IW).bind λx6=>
 (jA s.Jj).bind λx7=>
 (jI s.Ji).bind λx8=>
 (kW s.IY).bind λx9=>
 (loop (ma x9) (x9,0,0)).bind λq1=>
 bif Nat.ble q1.1.length q1.2.1 then
  some (⟨⟨x,q.1⟩,x5,q1.1,x6,x7,x8,s.Now,s.Jq,s.Seq⟩:GN)
 else
  none
 else
 none
def alY:Spec fam:=⟨[f9],[QJ],λa=>nT a.1⟩
def eS(x9:List App)(t1:List App×Int):Option ((List App×Int) ⊕ List App):=
 bif decide (t1.2<(x9.length:Int))then
 (Ka t1.2 t1.1.length).bind λi2=>
 (t1.1[i2]?).bind λx10=>
 (ie x10).bind λM_=>
 (Ka t1.2 t1.1.length).bind λi3=>
 (t1.1[i3]?).bind λOo=>
 some (.inl (List.set t1.1 i3 M_,I8 (t1.2+1)))
 else
 some (.inr t1.1)
def gF(x1:List I4)(t:List I4×Int):Option ((List I4×Int) ⊕ List I4):=
 bif decide (t.2<(x1.length:Int))then
 (Ka t.2 t.1.length).bind λi=>
 (t.1[i]?).bind λx2=>
 (ij x2.KU).bind λx3=>
 (Ka t.2 t.1.length).bind λi1=>
 (t.1[i1]?).bind λx4=>
 some (.inl (List.set t.1 i1 (⟨x4.J_,x3,x4.User⟩:I4),I8 (t.2+1)))
 else
 some (.inr t.1)
def gw(s:GN):Option GN:=
 (aW s.I6.I7).bind λx=>
 (iv s.I6.IX).bind λx1=>
 (loop (gF x1) (x1,0)).bind λq=>
 (jx s.Jb).bind λx5=>
 (d7 s.IW).bind λx6=>
 (jA s.Jj).bind λx7=>
 (jI s.Ji).bind λx8=>
 (kW s.IY).bind λx9=>
 (loop (eS x9) (x9,0)).bind λq1=>
 some (⟨⟨x,q⟩,x5,q1,x6,x7,x8,s.Now,s.Jq,s.Seq⟩:GN)
def Fe:Spec fam:=⟨[.v (.st 10) []],[.v (.st 10) [0,1,2,3,4,5,6]],λa=>gw a.1⟩
def oU(s:List Cont)(f:(Jk fam [.st 7]→Option Bool))(t:Int):Option (Int ⊕ (Int ⊕ Unit)):=
 bif decide (t<(s.length:Int))then
 (idx s t).bind λx=>
 (f (x,())).bind λr=>
 bif r then
  some (.inr (.inl t))
 else
  some (.inl (I8 (t+1)))
 else
 some (.inr (.inr ()))
def er(s:List Cont)(f:(Jk fam [.st 7]→Option Bool)):Option Int:=
 (loop (oU s f) 0).bind λq0=>
 match q0 with
 | .inl q=>
 some q
 | .inr _=>
 some (-1)
def alX:Spec fam:=⟨[Qf,.fn [.st 7] .bool],[ge],λa=>er a.1 a.2.1⟩
def tT(c:Cont)(p:Int):Option Bool:=
 some (c.Id == p)
def alW:Spec fam:=⟨[QI,.rp (.int .i64)],[gt],λa=>tT a.1 a.2.1⟩
def pP(s:List App)(f:(Jk fam [.st 6]→Option Bool))(t:Int):Option (Int ⊕ (Int ⊕ Unit)):=
 bif decide (t<(s.length:Int))then
 (idx s t).bind λx=>
 (f (x,())).bind λr=>
 bif r then
  some (.inr (.inl t))
 else
  some (.inl (I8 (t+1)))
 else
 some (.inr (.inr ()))
def iY(s:List App)(f:(Jk fam [.st 6]→Option Bool)):Option Int:=
 (loop (pP s f) 0).bind λq0=>
 match q0 with
 | .inl q=>
 some q
 | .inr _=>
 some (-1)
def ak5:Spec fam:=⟨[Qa,.fn [.st 6] .bool],[ge],λa=>iY a.1 a.2.1⟩
def w7(a:App)(p:Int):Option Bool:=
 some (a.Id == p)
def ak4:Spec fam:=⟨[QP,.rp (.int .i64)],[gt],λa=>w7 a.1 a.2.1⟩
def jO(s:GN)(Lc:Int):Option Int:=
 (iY s.IY (λa'=>w7 a'.1 Lc)).bind λx=>
 some x
def alV:Spec fam:=⟨[f9,ge],[ge],λa=>jO a.1 a.2.1⟩
def pd(s:List Ask)(f:(Jk fam [.st 5]→Option Bool))(t:Int):Option (Int ⊕ (Int ⊕ Unit)):=
 bif decide (t<(s.length:Int))then
 (idx s t).bind λx=>
 (f (x,())).bind λr=>
 bif r then
  some (.inr (.inl t))
 else
  some (.inl (I8 (t+1)))
 else
 some (.inr (.inr ()))
def jT(s:List Ask)(f:(Jk fam [.st 5]→Option Bool)):Option Int:=
 (loop (pd s f) 0).bind λq0=>
 match q0 with
 | .inl q=>
 some q
 | .inr _=>
 some (-1)
def aex:Spec fam:=⟨[Q2,.fn [.st 5] .bool],[ge],λa=>jT a.1 a.2.1⟩
def pm(del:(Jk fam [.st 5]→Option Bool))(t:List Ask×Int×Int):Option ((List Ask×Int×Int) ⊕ ((List Ask×Int))):=
 bif decide (t.2.2<(t.1.length:Int))then
 (
  (Ka t.2.2 t.1.length).bind λi1=>
  (t.1[i1]?).bind λx=>
  (del (x,())).bind λr=>
  bif ! r then
  (Ka t.2.1 t.1.length).bind λi2=>
  (t.1[i2]?).bind λx1=>
  some (List.set t.1 i2 x,I8 (t.2.1+1))
  else
  some (t.1,t.2.1)).bind λq=>
 some (.inl (q.1,q.2,I8 (t.2.2+1)))
 else
 some (.inr (t.1,t.2.1))
def kj(s:List Ask)(del:(Jk fam [.st 5]→Option Bool)):Option (List Ask):=
 (jT s del).bind λi=>
 bif i == (-1)then
 some s
 else
 (loop (pm del) (s,i,I8 (i+1))).bind λq1=>
 (Mj q1.2 (q1.1.length:Int) q1.1.length).bind λp=>
 (Mj 0 q1.2 (LD q1.1 p.1 p.2 (List.replicate p.2 (⟨0,0,⟨0,0⟩,0,0,0,0⟩:Ask))).length).bind λp1=>
 some (List.take p1.2 (LD q1.1 p.1 p.2 (List.replicate p.2 (⟨0,0,⟨0,0⟩,0,0,0,0⟩:Ask))))
def ae6:Spec fam:=⟨[QC,.fn [.st 5] .bool],[QC],λa=>kj a.1 a.2.1⟩
def kY(l:List Ask):Option (List Ask):=
 (PV 64 (l.length:Int) (l.length:Int) (⟨0,0,⟨0,0⟩,0,0,0,0⟩:Ask)).bind λl1=>
 some (LD l1 0 l1.length l)
def ae5:Spec fam:=⟨[Q2],[QC],λa=>kY a.1⟩
def uW(x:Ask)(p:Ask):Option Bool:=
 some (x.Jt == p.Jt)
def ae4:Spec fam:=⟨[Q3,.rp (.st 5)],[gt],λa=>uW a.1 a.2.1⟩
def vR(s:List Ask)(i:Int)(v:List Ask):Option (List Ask):=
 (Mj i (s.length:Int) s.length).bind λp=>
 bif(v.length:Int) == 0 then
 some s
 else
 bif i == (s.length:Int)then
  (app 64 s v).bind λl=>
  some l
 else
  none
def oK(s:List Ask)(i:Int)(v:List Ask):Option (List Ask):=ins s i v
def aox:Hint:=.z
def ae3:Spec fam:=⟨[QC,ge,QC],[QC],λa=>oK a.1 a.2.1 a.2.2.1⟩
def GL:Spec fam:=⟨[.v (.slice (.st 5)) [0],.v (.int .i64) [],.v (.slice (.st 5)) [0]],[.v (.slice (.st 5)) [0]],λa=>vR a.1 a.2.1 a.2.2.1⟩
def pB(a:Ask)(out:List Ask)(k:Int):Option (Int ⊕ Int):=
 (
 bif decide (k<(out.length:Int))then
  (Ka k out.length).bind λi=>
  (out[i]?).bind λx1=>
  some (decide (x1.Jt<a.Jt))
 else
  some false).bind λq=>
 bif q then
 some (.inl (I8 (k+1)))
 else
 some (.inr k)
def lw(l:List Ask)(a:Ask):Option (List Ask×Int):=
 (kY l).bind λx=>
 (kj x (λa'=>uW a'.1 a)).bind λout=>
 bif a.KC == 0 then
 some (out,0)
 else
 bif decide ((out.length:Int)≥8)then
  some ([],4)
 else
  (loop (pB a out) 0).bind λk1=>
  (oK out k1 [(⟨a.Jt,a.I_,⟨a.Kj.Mem,a.Kj.IZ⟩,a.KC,a.Node,a.KF,0⟩:Ask)]).bind λx2=>
  some (x2,0)
def afM:Spec fam:=⟨[Q2,Q3],[QC,ge],λa=>lw a.1 a.2.1⟩
def kf(a:App):Option (List Ask):=
 (lw [] (⟨0,0,⟨a.I5.Mem,a.I5.IZ⟩,1,(-1),(-1),0⟩:Ask)).bind λx=>
 some x.1
def ak3:Spec fam:=⟨[QP],[QC],λa=>kf a.1⟩
def hU(c:Cont)(p:Int)(p1:List Int):Option (Bool×List Int):=
 (
 bif c.App == p then
  (app 8 p1 [c.Id]).bind λl=>
  some l
 else
  some p1).bind λq=>
 some (c.App == p,q)
def afk:Spec fam:=⟨[QI,.rp (.int .i64),.box (.slice (.int .i64)) [0]],[gt],λa=>hU a.1 a.2.1 a.2.2.1⟩
def oH(s:List Slot)(f:(Jk fam [.st 8]→Option Bool))(t:Int):Option (Int ⊕ (Int ⊕ Unit)):=
 bif decide (t<(s.length:Int))then
 (idx s t).bind λx=>
 (f (x,())).bind λr=>
 bif r then
  some (.inr (.inl t))
 else
  some (.inl (I8 (t+1)))
 else
 some (.inr (.inr ()))
def gA(s:List Slot)(f:(Jk fam [.st 8]→Option Bool)):Option Int:=
 (loop (oH s f) 0).bind λq0=>
 match q0 with
 | .inl q=>
 some q
 | .inr _=>
 some (-1)
def afn:Spec fam:=⟨[Qi,.fn [.st 8] .bool],[ge],λa=>gA a.1 a.2.1⟩
def oM(del:(Jk fam [.st 8]→Option Bool))(t:List Slot×Int×Int):Option ((List Slot×Int×Int) ⊕ ((List Slot×Int))):=
 bif decide (t.2.2<(t.1.length:Int))then
 (
  (Ka t.2.2 t.1.length).bind λi1=>
  (t.1[i1]?).bind λx=>
  (del (x,())).bind λr=>
  bif ! r then
  (Ka t.2.1 t.1.length).bind λi2=>
  (t.1[i2]?).bind λx1=>
  some (List.set t.1 i2 x,I8 (t.2.1+1))
  else
  some (t.1,t.2.1)).bind λq=>
 some (.inl (q.1,q.2,I8 (t.2.2+1)))
 else
 some (.inr (t.1,t.2.1))
def eW(s:List Slot)(del:(Jk fam [.st 8]→Option Bool)):Option (List Slot):=
 (gA s del).bind λi=>
 bif i == (-1)then
 some s
 else
 (loop (oM del) (s,i,I8 (i+1))).bind λq1=>
 (Mj q1.2 (q1.1.length:Int) q1.1.length).bind λp=>
 (Mj 0 q1.2 (LD q1.1 p.1 p.2 (List.replicate p.2 (⟨0,0,0⟩:Slot))).length).bind λp1=>
 some (List.take p1.2 (LD q1.1 p.1 p.2 (List.replicate p.2 (⟨0,0,0⟩:Slot))))
def afj:Spec fam:=⟨[Q1,.fn [.st 8] .bool],[Q1],λa=>eW a.1 a.2.1⟩
def nY(x:Slot)(p:Int):Option Bool:=
 some (x.App == p)
def afi:Spec fam:=⟨[Qs,.rp (.int .i64)],[gt],λa=>nY a.1 a.2.1⟩
def fJ(s:List Cont)(p:Int)(t:List Int×Int):Option ((List Int×Int) ⊕ ((List Int×Int) ⊕ List Int)):=
 bif decide (t.2<(s.length:Int))then
 (Ka t.2 s.length).bind λi=>
 (s[i]?).bind λx=>
 (hU x p t.1).bind λx1=>
 bif x1.1 then
  some (.inr (.inl (x1.2,t.2)))
 else
  some (.inl (x1.2,I8 (t.2+1)))
 else
 some (.inr (.inr (t.1)))
def lp(s:List Cont)(f:Unit)(p:Int)(p1:List Int):Option (Int×List Cont×List Int):=
 (loop (fJ s p) (p1,0)).bind λq0=>
 match q0 with
 | .inl q=>
 some (q.2,s,q.1)
 | .inr s1=>
 some ((-1),s,s1)
def Fo:Spec fam:=⟨[.row (.st 7) false,.cl 148 2,.rp (.int .i64),.box (.slice (.int .i64)) [0]],[.v (.int .i64) []],λa=>lp a.1 a.2.1 a.2.2.1 a.2.2.2.1⟩
def ft(p:Int)(t:List Cont×List Int×Int×Int):Option ((List Cont×List Int×Int×Int) ⊕ ((List Cont×List Int×Int))):=
 bif decide (t.2.2.2<(t.1.length:Int))then
 (
  (Ka t.2.2.2 t.1.length).bind λi1=>
  (t.1[i1]?).bind λx=>
  (hU x p t.2.1).bind λx1=>
  bif ! x1.1 then
  (Ka t.2.2.1 t.1.length).bind λi2=>
  (t.1[i2]?).bind λx2=>
  some (List.set t.1 i2 x,x1.2,I8 (t.2.2.1+1))
  else
  some (t.1,x1.2,t.2.2.1)).bind λq=>
 some (.inl (q.1,q.2.1,q.2.2,I8 (t.2.2.2+1)))
 else
 some (.inr (t.1,t.2.1,t.2.2.1))
def fA(s:List Cont)(del:Unit)(p:Int)(p1:List Int):Option (List Cont×List Int):=
 (lp s () p p1).bind λi=>
 bif i.1 == (-1)then
 some (i.2.1,i.2.2)
 else
 (loop (ft p) (i.2.1,i.2.2,i.1,I8 (i.1+1))).bind λq1=>
 (Mj q1.2.2 (q1.1.length:Int) q1.1.length).bind λp2=>
 (Mj 0 q1.2.2 (LD q1.1 p2.1 p2.2 (List.replicate p2.2 (⟨0,0,0,⟨0,0⟩,0,0,false,0⟩:Cont))).length).bind λp3=>
 some (List.take p3.2 (LD q1.1 p2.1 p2.2 (List.replicate p2.2 (⟨0,0,0,⟨0,0⟩,0,0,false,0⟩:Cont))),q1.2.1)
def D_:Spec fam:=⟨[.v (.slice (.st 7)) [0],.cl 148 2,.rp (.int .i64),.box (.slice (.int .i64)) [0]],[.v (.slice (.st 7)) [0]],λa=>fA a.1 a.2.1 a.2.2.1 a.2.2.2.1⟩
def jU(s:GN)(Lc:Int):Option (GN×List Int):=
 (fA s.IW () Lc []).bind λx=>
 (eW s.Jj (λa'=>nY a'.1 Lc)).bind λx1=>
 some ((⟨⟨s.I6.I7,s.I6.IX⟩,s.Jb,s.IY,x.1,x1,s.Ji,s.Now,s.Jq,s.Seq⟩:GN),x.2)
def ak2:Spec fam:=⟨[QJ,ge],[QJ,f0],λa=>jU a.1 a.2.1⟩
def oL(s:GN)(Lc:Int):Option (GN×List Int):=
 (fA s.IW () Lc []).bind λx=>
 (eW s.Jj (λa'=>nY a'.1 Lc)).bind λx1=>
 some ((⟨⟨s.I6.I7,s.I6.IX⟩,s.Jb,s.IY,x.1,x1,s.Ji,s.Now,s.Jq,s.Seq⟩:GN),x.2)
def EH:Spec fam:=⟨[.v (.st 10) [0,1,2,3,4,5,6],.v (.int .i64) []],[.v (.st 10) [0,1,2,3,4,5,6],.v (.slice (.int .i64)) [0]],λa=>oL a.1 a.2.1⟩
def pE(s:GN)(i:Int):Option GN:=
 (Ka i s.IY.length).bind λi1=>
 (s.IY[i1]?).bind λx=>
 (kf x).bind λx1=>
 (Ka i s.IY.length).bind λi2=>
 bif Nat.beq i2 i1 then
 (s.IY[i2]?).bind λx2=>
 (jU (⟨⟨s.I6.I7,s.I6.IX⟩,s.Jb,List.set s.IY i2 (⟨x.Id,1,x.I4,x.User,x.Jt,⟨x.I5.Mem,x.I5.IZ⟩,x1,s.Now,0,[],[],[],[]⟩:App),s.IW,s.Jj,s.Ji,s.Now,s.Jq,s.Seq⟩:GN) x.Id).bind λx3=>
 some x3.1
 else
 none
def alU:Spec fam:=⟨[QJ,ge],[QJ],λa=>pE a.1 a.2.1⟩
def gY(s:List Cont)(i:Int)(j:Int):Option (List Cont):=del s i j
def alT:Spec fam:=⟨[QU,ge,ge],[QU],λa=>gY a.1 a.2.1 a.2.2.1⟩
def gE(s:List Int)(v:Int)(t:Int):Option (Int ⊕ (Int ⊕ Unit)):=
 bif decide (t<(s.length:Int))then
 (idx s t).bind λx=>
 bif v == x then
  some (.inr (.inl t))
 else
  some (.inl (I8 (t+1)))
 else
 some (.inr (.inr ()))
def cJ(s:List Int)(v:Int):Option Int:=
 (loop (gE s v) 0).bind λq0=>
 match q0 with
 | .inl q=>
 some q
 | .inr _=>
 some (-1)
def alS:Spec fam:=⟨[QQ,ge],[ge],λa=>cJ a.1 a.2.1⟩
def eu(s:List Int)(i:Int)(j:Int):Option (List Int):=del s i j
def alR:Spec fam:=⟨[f0,ge,ge],[f0],λa=>eu a.1 a.2.1 a.2.2.1⟩
def f_(ids:List Int)(t:GN×Int):Option ((GN×Int) ⊕ GN):=
 bif decide (t.2<(ids.length:Int))then
 (
  (idx ids t.2).bind λx1=>
  (er t.1.IW (λa'=>tT a'.1 x1)).bind λk=>
  bif decide (k<0)then
  some t.1
  else
  (Ka k t.1.IW.length).bind λi=>
  (t.1.IW[i]?).bind λx2=>
  (jO t.1 x2.App).bind λi1=>
  (
   bif decide (i1≥0)then
   some x2.I5
   else
   some false).bind λq=>
  bif q then
   (pE t.1 i1).bind λx3=>
   some x3
  else
   (gY t.1.IW k (I8 (k+1))).bind λx4=>
   bif decide (i1<0)then
   some (⟨⟨t.1.I6.I7,t.1.I6.IX⟩,t.1.Jb,t.1.IY,x4,t.1.Jj,t.1.Ji,t.1.Now,t.1.Jq,t.1.Seq⟩:GN)
   else
   (Ka i1 t.1.IY.length).bind λi2=>
   (t.1.IY[i2]?).bind λx5=>
   (
    (cJ x5.Ke x1).bind λj=>
    bif decide (j≥0)then
    (eu x5.Ke j (I8 (j+1))).bind λx6=>
    some (⟨x5.Id,x5.GN,x5.I4,x5.User,x5.Jt,⟨x5.I5.Mem,x5.I5.IZ⟩,x5.Ju,x5.Kz,x5.J6,x6,x5.KE,x5.Told,x5.Lg⟩:App)
    else
    (app 8 x5.KE [x1]).bind λl=>
    some (⟨x5.Id,x5.GN,x5.I4,x5.User,x5.Jt,⟨x5.I5.Mem,x5.I5.IZ⟩,x5.Ju,x5.Kz,x5.J6,x5.Ke,l,x5.Told,x5.Lg⟩:App)).bind λa=>
   (Ka i1 t.1.IY.length).bind λi3=>
   bif Nat.beq i3 i2 then
    (t.1.IY[i3]?).bind λx7=>
    some (⟨⟨t.1.I6.I7,t.1.I6.IX⟩,t.1.Jb,List.set t.1.IY i3 a,x4,t.1.Jj,t.1.Ji,t.1.Now,t.1.Jq,t.1.Seq⟩:GN)
   else
    none).bind λs1=>
 some (.inl (s1,I8 (t.2+1)))
 else
 some (.inr t.1)
def bj(s:GN)(ids:List Int):Option GN:=
 (nT s).bind λx=>
 (loop (f_ ids) (x,0)).bind λs2=>
 (nT s2).bind λx8=>
 some x8
def amf:Spec fam:=⟨[f9,QQ],[QJ],λa=>bj a.1 a.2.1⟩
def jN(s:List UInt8):Option Bool:=Sd 12 s
def afx:Spec fam:=⟨[f8],[gt],λa=>jN a.1⟩
def lm(l:List (List UInt8))(t:List I9×Int):Option ((List I9×Int) ⊕ (Int ⊕ List I9)):=
 bif decide (t.2<(l.length:Int))then
 (idx l t.2).bind λx=>
 (
  bif t.2 == 0 then
  bif ! (x == ([]:List UInt8))then
   some true
  else
   bif decide (t.2>0)then
   (jN x).bind λx1=>
   some (! x1)
   else
   some false
  else
  bif decide (t.2>0)then
   (jN x).bind λx2=>
   some (! x2)
  else
   some false).bind λq=>
 bif q then
  some (.inr (.inl 12))
 else
  let e:=Lp (λx3=>x == x3.k) t.1 (⟨x,0⟩:I9)
  some (.inl (Ll (λx4=>x == x4.k) t.1 (⟨x,I8 (e.v+1)⟩:I9),I8 (t.2+1)))
 else
 some (.inr (.inr (t.1)))
def lZ(l:List (List UInt8)):Option Int:=
 (loop (lm l) ([],0)).bind λq0=>
 match q0 with
 | .inl q1=>
 some q1
 | .inr was=>
 bif decide ((was.length:Int)<(l.length:Int))then
  some 7
 else
  some 0
def alE:Spec fam:=⟨[QA],[ge],λa=>lZ a.1⟩
def kE(s:List UInt8)(c:Int)(i1:Int):Option (Int ⊕ (Int ⊕ Unit)):=
 bif decide (i1≥0)then
 (idx s i1).bind λch=>
 bif(ch.toNat:Int) == c then
  some (.inr (.inl i1))
 else
  some (.inl (I8 (i1 - 1)))
 else
 some (.inr (.inr ()))
def bV(s:List UInt8)(c:Int):Option Int:=
 let i:=I8 ((s.length:Int) - 1)
 (loop (kE s c) i).bind λq0=>
 match q0 with
 | .inl q=>
 some q
 | .inr _=>
 some (-1)
def ael:Spec fam:=⟨[f8,.v (.int .u8) []],[ge],λa=>bV a.1 a.2.1⟩
def kK(t1:Int×Int×Int):Option ((Int×Int×Int) ⊕ Int):=
 bif decide (t1.2.2>0)then
 (
  bif(Pb .i64 t1.2.2 1) != 0 then
  let pow:=IntKind.u32.wrap (t1.1*t1.2.1)
  some pow
  else
  some t1.1).bind λamr=>
 let sq:=IntKind.u32.wrap (t1.2.1*t1.2.1)
 some (.inl (amr,sq,Md .i64 t1.2.2 1))
 else
 some (.inr t1.1)
def kL(sep:List UInt8)(t:Int×Int):Option ((Int×Int) ⊕ Int):=
 bif decide (t.2≥0)then
 (idx sep t.2).bind λch=>
 let hash:=IntKind.u32.wrap ((IntKind.u32.wrap (t.1*16777619))+(IntKind.u32.wrap (ch.toNat:Int)))
 some (.inl (hash,I8 (t.2 - 1)))
 else
 some (.inr t.1)
def gy(sep:List UInt8):Option (Int×Int):=
 let i:=I8 ((sep.length:Int) - 1)
 (loop (kL sep) (0,i)).bind λajk=>
 (loop kK (1,16777619,(sep.length:Int))).bind λpow2=>
 some (ajk,pow2)
def adN:Spec fam:=⟨[f8],[Q0,Q0],λa=>gy a.1⟩
def gX(s:List UInt8)(sep:List UInt8)(x:Int×Int)(t1:Int×Int):Option ((Int×Int) ⊕ (Int ⊕ Unit)):=
 bif decide (t1.2≥0)then
 (idx s t1.2).bind λch1=>
 let h2:=IntKind.u32.wrap ((IntKind.u32.wrap (t1.1*16777619))+(IntKind.u32.wrap (ch1.toNat:Int)))
 (idx s (I8 (t1.2+(sep.length:Int)))).bind λch2=>
 let h3:=IntKind.u32.wrap (h2 - (IntKind.u32.wrap (x.2*(IntKind.u32.wrap (ch2.toNat:Int)))))
 (
  bif h3 == x.1 then
  (slc s t1.2 (I8 (t1.2+(sep.length:Int)))).bind λs2=>
  some (s2 == sep)
  else
  some false).bind λq1=>
 bif q1 then
  some (.inr (.inl (t1.2)))
 else
  some (.inl (h3,I8 (t1.2 - 1)))
 else
 some (.inr (.inr ()))
def gW(s:List UInt8)(last:Int)(t:Int×Int):Option ((Int×Int) ⊕ Int):=
 bif decide (t.2≥last)then
 (idx s t.2).bind λch=>
 let h:=IntKind.u32.wrap ((IntKind.u32.wrap (t.1*16777619))+(IntKind.u32.wrap (ch.toNat:Int)))
 some (.inl (h,I8 (t.2 - 1)))
 else
 some (.inr t.1)
def dF(s:List UInt8)(sep:List UInt8):Option Int:=
 (gy sep).bind λx=>
 let last:=I8 ((s.length:Int) - (sep.length:Int))
 let i:=I8 ((s.length:Int) - 1)
 (loop (gW s last) (0,i)).bind λh1=>
 (
 bif h1 == x.1 then
  (slc s last (s.length:Int)).bind λs1=>
  some (s1 == sep)
 else
  some false).bind λq=>
 bif q then
 some last
 else
 (loop (gX s sep x) (h1,I8 (last - 1))).bind λq0=>
 match q0 with
 | .inl q2=>
  some q2
 | .inr _=>
  some (-1)
def aek:Spec fam:=⟨[f8,f8],[ge],λa=>dF a.1 a.2.1⟩
def iO(s:List UInt8)(substr:List UInt8):Option Int:=
 bif(substr.length:Int) == 0 then
 some (s.length:Int)
 else
 bif(substr.length:Int) == 1 then
  (idx substr 0).bind λch=>
  (bV s (ch.toNat:Int)).bind λx=>
  some x
 else
  bif(substr.length:Int) == (s.length:Int)then
  bif substr == s then
   some 0
  else
   some (-1)
  else
  bif decide ((substr.length:Int)>(s.length:Int))then
   some (-1)
  else
   (dF s substr).bind λx1=>
   some x1
def aeP:Spec fam:=⟨[f8,f8],[ge],λa=>iO a.1 a.2.1⟩
def iu(Ki:List UInt8):Option (List UInt8×Bool):=
 (iO Ki ([46]:List UInt8)).bind λi=>
 bif decide (i<0)then
 some (([]:List UInt8),false)
 else
 (slc Ki 0 i).bind λs=>
 some (s,true)
def afw:Spec fam:=⟨[f8],[f8,gt],λa=>iu a.1⟩
def ja(s:List UInt8):Option Int:=
 none
def adL:Spec fam:=⟨[f8],[ge],λa=>ja a.1⟩
def gb(s:List UInt8):Option (Int×Int):=
 bif decide ((s.length:Int)<1)then
 some (65533,0)
 else
 (idx s 0).bind λch=>
 none
def adr:Spec fam:=⟨[f8],[.v (.int .i32) [],ge],λa=>gb a.1⟩
def iL(s:List UInt8):Option (Int×Int):=
 (
 bif ! (s == ([]:List UInt8))then
  (idx s 0).bind λch=>
  some (decide ((ch.toNat:Int)<128))
 else
  some false).bind λq=>
 bif q then
 (idx s 0).bind λch1=>
 some (IntKind.i32.wrap (ch1.toNat:Int),1)
 else
 (gb s).bind λx=>
 some (x.1,x.2)
def adK:Spec fam:=⟨[f8],[.v (.int .i32) [],ge],λa=>iL a.1⟩
def r8(n1:Int)(t:List UInt8×List (List UInt8)×Int):Option ((List UInt8×List (List UInt8)×Int) ⊕ ((List UInt8×List (List UInt8)))):=
 bif decide (t.2.2<(I8 (n1 - 1)))then
 (iL t.1).bind λx=>
 (slc t.1 0 x.2).bind λs1=>
 (Ka t.2.2 t.2.1.length).bind λi=>
 (t.2.1[i]?).bind λx1=>
 (slc t.1 x.2 (t.1.length:Int)).bind λs2=>
 some (.inl (s2,List.set t.2.1 i s1,I8 (t.2.2+1)))
 else
 some (.inr (t.1,t.2.1))
def oZ(s:List UInt8)(n:Int):Option (List (List UInt8)):=
 (ja s).bind λl=>
 (
 (
  bif decide (n<0)then
  some true
  else
  some (decide (n>l))).bind λq=>
 bif q then
  some l
 else
  some n).bind λn1=>
 (PV 16 n1 n1 []).bind λl1=>
 (loop (r8 n1) (s,l1,0)).bind λq1=>
 (
 bif decide (n1>0)then
  (Ka (I8 (n1 - 1)) q1.2.length).bind λi1=>
  (q1.2[i1]?).bind λx2=>
  some (List.set q1.2 i1 q1.1)
 else
  some q1.2).bind λa=>
 some a
def aef:Spec fam:=⟨[f8,ge],[t6],λa=>oZ a.1 a.2.1⟩
def mC(s:List UInt8)(sub:List UInt8):Option Int:=cnt1 s sub
def aee:Spec fam:=⟨[f8,f8],[ge],λa=>mC a.1 a.2.1⟩
def dz(s:List UInt8)(c:Int):Option Int:=ixb s c
def adq:Spec fam:=⟨[f8,.v (.int .u8) []],[ge],λa=>dz a.1 a.2.1⟩
def fK(s:List UInt8)(substr:List UInt8):Option Int:=
 (
 bif(substr.length:Int) == 0 then
  some true
 else
  some (substr == s)).bind λq=>
 bif q then
 some 0
 else
 bif(substr.length:Int) == 1 then
  (idx substr 0).bind λch=>
  (dz s (ch.toNat:Int)).bind λx=>
  some x
 else
  bif decide ((substr.length:Int)≥(s.length:Int))then
  some (-1)
  else
  none
def adJ:Spec fam:=⟨[f8,f8],[ge],λa=>fK a.1 a.2.1⟩
def gI(s:List UInt8)(substr:List UInt8):Option Int:=
 (fK s substr).bind λx=>
 some x
def aed:Spec fam:=⟨[f8,f8],[ge],λa=>gI a.1 a.2.1⟩
def kN(sep:List UInt8)(sepSave:Int)(n2:Int)(t:List UInt8×List (List UInt8)×Int):Option ((List UInt8×List (List UInt8)×Int) ⊕ ((List UInt8×List (List UInt8)×Int))):=
 bif decide (t.2.2<(I8 (n2 - 1)))then
 (gI t.1 sep).bind λm=>
 bif decide (m<0)then
  some (.inr (t.1,t.2.1,t.2.2))
 else
  (slc t.1 0 (I8 (m+sepSave))).bind λs1=>
  (Ka t.2.2 t.2.1.length).bind λi=>
  (t.2.1[i]?).bind λx2=>
  (slc t.1 (I8 (m+(sep.length:Int))) (t.1.length:Int)).bind λs2=>
  some (.inl (s2,List.set t.2.1 i s1,I8 (t.2.2+1)))
 else
 some (.inr (t.1,t.2.1,t.2.2))
def jw(s:List UInt8)(sep:List UInt8)(sepSave:Int)(n:Int):Option (List (List UInt8)):=
 bif n == 0 then
 some []
 else
 bif sep == ([]:List UInt8)then
  (oZ s n).bind λx=>
  some x
 else
  (
  bif decide (n<0)then
   (mC s sep).bind λx1=>
   some (I8 (x1+1))
  else
   some n).bind λn1=>
  let n2:=Od n1 (I8 ((s.length:Int)+1))
  (PV 16 n2 n2 []).bind λl=>
  (loop (kN sep sepSave n2) (s,l,0)).bind λq=>
  (Ka q.2.2 q.2.1.length).bind λi1=>
  (q.2.1[i1]?).bind λx3=>
  (Mj 0 (I8 (q.2.2+1)) (List.set q.2.1 i1 q.1).length).bind λp=>
  some (List.take p.2 (List.set q.2.1 i1 q.1))
def aeH:Spec fam:=⟨[f8,f8,ge,ge],[t6],λa=>jw a.1 a.2.1 a.2.2.1 a.2.2.2.1⟩
def eV(s:List UInt8)(sep:List UInt8):Option (List (List UInt8)):=
 (jw s sep 0 (-1)).bind λx=>
 some x
def afg:Spec fam:=⟨[f8,f8],[t6],λa=>eV a.1 a.2.1⟩
def bH(s:List (List UInt8))(f:(Jk fam [.str]→Option Bool))(t:Int):Option (Int ⊕ (Int ⊕ Unit)):=
 bif decide (t<(s.length:Int))then
 (idx s t).bind λx=>
 (f (x,())).bind λr=>
 bif r then
  some (.inr (.inl t))
 else
  some (.inl (I8 (t+1)))
 else
 some (.inr (.inr ()))
def aZ(s:List (List UInt8))(f:(Jk fam [.str]→Option Bool)):Option Int:=
 (loop (bH s f) 0).bind λq0=>
 match q0 with
 | .inl q=>
 some q
 | .inr _=>
 some (-1)
def aej:Spec fam:=⟨[QA,.fn [.str] .bool],[ge],λa=>aZ a.1 a.2.1⟩
def bJ(s:List (List UInt8))(f:(Jk fam [.str]→Option Bool)):Option Bool:=
 (aZ s f).bind λx=>
 some (decide (x≥0))
def aeO:Spec fam:=⟨[QA,.fn [.str] .bool],[gt],λa=>bJ a.1 a.2.1⟩
def gz(n:List UInt8):Option Bool:=
 (jN n).bind λx=>
 some (! x)
def aeN:Spec fam:=⟨[f8],[gt],λa=>gz a.1⟩
def lJ(s:List UInt8):Option Bool:=
 (eV s ([46]:List UInt8)).bind λl=>
 (Ka 0 l.length).bind λi=>
 (l[i]?).bind λx=>
 bif x == ([114,111,111,116]:List UInt8)then
 bif decide ((l.length:Int)≤4)then
  (bJ l (λa'=>gz a'.1)).bind λx1=>
  some (! x1)
 else
  some false
 else
 some false
def afv:Spec fam:=⟨[f8],[gt],λa=>lJ a.1⟩
def pe(s:List Cap)(f:(Jk fam [.st 1]→Option Bool))(t:Int):Option (Int ⊕ (Int ⊕ Unit)):=
 bif decide (t<(s.length:Int))then
 (idx s t).bind λx=>
 (f (x,())).bind λr=>
 bif r then
  some (.inr (.inl t))
 else
  some (.inl (I8 (t+1)))
 else
 some (.inr (.inr ()))
def oq(s:List Cap)(f:(Jk fam [.st 1]→Option Bool)):Option Int:=
 (loop (pe s f) 0).bind λq0=>
 match q0 with
 | .inl q=>
 some q
 | .inr _=>
 some (-1)
def aei:Spec fam:=⟨[Qg,.fn [.st 1] .bool],[ge],λa=>oq a.1 a.2.1⟩
def nN(s:List Cap)(f:(Jk fam [.st 1]→Option Bool)):Option Bool:=
 (oq s f).bind λx=>
 some (decide (x≥0))
def aeM:Spec fam:=⟨[Qg,.fn [.st 1] .bool],[gt],λa=>nN a.1 a.2.1⟩
def jc(c:Cap):Option Bool:=
 bif decide (c.Ls<0)then
 some true
 else
 bif decide (c.Most>10000)then
  some true
 else
  some (decide (c.Ls>c.Most))
def aeL:Spec fam:=⟨[JQ],[gt],λa=>jc a.1⟩
def po(l:List Cap):Option Bool:=
 (nN l (λa'=>jc a'.1)).bind λx=>
 some (! x)
def afu:Spec fam:=⟨[Qg],[gt],λa=>po a.1⟩
def iG(c:I6)(t:List I9×List UInt8×Int):Option ((List I9×List UInt8×Int) ⊕ (Int ⊕ Unit)):=
 bif decide (t.2.2<(c.IX.length:Int))then
 (idx c.IX t.2.2).bind λx=>
 (iu x.J_).bind λx1=>
 (lJ x.J_).bind λx2=>
 bif ! x2 then
  some (.inr (.inl 12))
 else
  (
  bif decide (t.2.2>0)then
   some (OA x.J_ t.2.1)
  else
   some false).bind λq=>
  bif q then
  some (.inr (.inl 7))
  else
  (
   bif x1.2 then
   let e:=Lp (λx3=>x1.1 == x3.k) t.1 (⟨x1.1,0⟩:I9)
   some (e.v == 0)
   else
   some false).bind λq1=>
  bif q1 then
   some (.inr (.inl 12))
  else
   (
   bif decide (x.User<1)then
    some true
   else
    bif decide (x.User>1000000)then
    some true
    else
    bif(x.KU.length:Int) != (c.I7.length:Int)then
     some true
    else
     (po x.KU).bind λx4=>
     some (! x4)).bind λq2=>
   bif q2 then
   some (.inr (.inl 1))
   else
   let e1:=Lp (λx5=>x.J_ == x5.k) t.1 (⟨x.J_,0⟩:I9)
   some (.inl (Ll (λx6=>x.J_ == x6.k) t.1 (⟨x.J_,I8 (e1.v+1)⟩:I9),x.J_,I8 (t.2.2+1)))
 else
 some (.inr (.inr ()))
def lL(c:I6):Option Int:=
 (loop (iG c) ([],([]:List UInt8),0)).bind λq0=>
 match q0 with
 | .inl q3=>
 some q3
 | .inr _=>
 some 0
def alD:Spec fam:=⟨[Q5],[ge],λa=>lL a.1⟩
def j8(c:I6)(Ki:List UInt8)(t:List (List UInt8)×Int):Option ((List (List UInt8)×Int) ⊕ List (List UInt8)):=
 bif decide (t.2<(c.IX.length:Int))then
 (
  (idx c.IX t.2).bind λx=>
  (iu x.J_).bind λx1=>
  (
  bif x1.2 then
   some (x1.1 == Ki)
  else
   some false).bind λq=>
  bif q then
  (app 16 t.1 [x.J_]).bind λl=>
  some l
  else
  some t.1).bind λout=>
 some (.inl (out,I8 (t.2+1)))
 else
 some (.inr t.1)
def ii(c:I6)(Ki:List UInt8):Option (List (List UInt8)):=
 (loop (j8 c Ki) ([],0)).bind λLG=>
 some LG
def aft:Spec fam:=⟨[Q5,f8],[t6],λa=>ii a.1 a.2.1⟩
def iS(s:List I4)(f:(Jk fam [.st 2]→Option Bool))(t:Int):Option (Int ⊕ (Int ⊕ Unit)):=
 bif decide (t<(s.length:Int))then
 (idx s t).bind λx=>
 (f (x,())).bind λr=>
 bif r then
  some (.inr (.inl t))
 else
  some (.inl (I8 (t+1)))
 else
 some (.inr (.inr ()))
def lC(s:List I4)(f:(Jk fam [.st 2]→Option Bool)):Option Int:=
 (loop (iS s f) 0).bind λq0=>
 match q0 with
 | .inl q=>
 some q
 | .inr _=>
 some (-1)
def aeK:Spec fam:=⟨[.v (.slice (.st 2)) [],.fn [.st 2] .bool],[ge],λa=>lC a.1 a.2.1⟩
def lQ(q:I4)(p:List UInt8):Option Bool:=
 some (q.J_ == p)
def aeJ:Spec fam:=⟨[.v (.st 2) [],.rp .str],[gt],λa=>lQ a.1 a.2.1⟩
def gc(c:I6)(Ki:List UInt8):Option (I4×Bool):=
 (lC c.IX (λa'=>lQ a'.1 Ki)).bind λi=>
 bif decide (i<0)then
 some ((⟨[],[],0⟩:I4),false)
 else
 (idx c.IX i).bind λx=>
 (ij x.KU).bind λx1=>
 some ((⟨x.J_,x1,x.User⟩:I4),true)
def afs:Spec fam:=⟨[Q5,f8],[.v (.st 2) [1],gt],λa=>gc a.1 a.2.1⟩
def nV(c:I6)(kids:List (List UInt8))(t2:Int)(t3:Int×Int):Option ((Int×Int) ⊕ Int):=
 bif decide (t3.2<(kids.length:Int))then
 (Ka t3.2 kids.length).bind λi=>
 (kids[i]?).bind λx3=>
 (gc c x3).bind λx4=>
 (Ka t2 x4.1.KU.length).bind λi1=>
 (x4.1.KU[i1]?).bind λx5=>
 let sum:=I8 (t3.1+x5.Ls)
 some (.inl (sum,I8 (t3.2+1)))
 else
 some (.inr t3.1)
def nP(c:I6)(kids:List (List UInt8))(t2:Int):Option (Int ⊕ (Int ⊕ Unit)):=
 bif decide (t2<(c.I7.length:Int))then
 (loop (nV c kids t2) (0,0)).bind λZI=>
 (
  bif decide ((kids.length:Int)>0)then
  some (ZI != 10000)
  else
  some false).bind λq2=>
 bif q2 then
  some (.inr (.inl 13))
 else
  some (.inl (I8 (t2+1)))
 else
 some (.inr (.inr ()))
def nO(c:I6)(t1:Int):Option (Int ⊕ (Int ⊕ Unit)):=
 bif decide (t1<(c.IX.length:Int))then
 (idx c.IX t1).bind λx2=>
 (ii c x2.J_).bind λkids=>
 (loop (nP c kids) 0).bind λq0=>
 match q0 with
 | .inl q3=>
  some (.inr (.inl q3))
 | .inr _=>
  some (.inl (I8 (t1+1)))
 else
 some (.inr (.inr ()))
def nS(x:I4)(t:Int):Option (Int ⊕ (Int ⊕ Unit)):=
 bif decide (t<(x.KU.length:Int))then
 (idx x.KU t).bind λx1=>
 (
  bif x1.Ls != 10000 then
  some true
  else
  some (x1.Most != 10000)).bind λq=>
 bif q then
  some (.inr (.inl 13))
 else
  some (.inl (I8 (t+1)))
 else
 some (.inr (.inr ()))
def pc(c:I6):Option Int:=
 (idx c.IX 0).bind λx=>
 (loop (nS x) 0).bind λq0=>
 match q0 with
 | .inl q1=>
 some q1
 | .inr _=>
 (loop (nO c) 0).bind λq0=>
 match q0 with
 | .inl q4=>
  some q4
 | .inr _=>
  some 0
def alC:Spec fam:=⟨[Q5],[ge],λa=>pc a.1⟩
def jS(c:I6):Option Int:=
 (
 bif(c.I7.length:Int) == 0 then
  some true
 else
  bif decide ((c.I7.length:Int)>3)then
  some true
  else
  some (decide ((c.IX.length:Int)>16))).bind λq=>
 bif q then
 some 4
 else
 (lZ c.I7).bind λe=>
 bif e != 0 then
  some e
 else
  (
  bif(c.IX.length:Int) == 0 then
   some true
  else
   (idx c.IX 0).bind λx=>
   some (! (x.J_ == ([114,111,111,116]:List UInt8)))).bind λq1=>
  bif q1 then
  some 12
  else
  (lL c).bind λe1=>
  bif e1 != 0 then
   some e1
  else
   (pc c).bind λx1=>
   some x1
def amd:Spec fam:=⟨[Q5],[ge],λa=>jS a.1⟩
def aO(e:Int):Option Output:=
 some (⟨e,[],[],[],0⟩:Output)
def alF:Spec fam:=⟨[ge],[QN],λa=>aO a.1⟩
def cf(a:App):Option Bool:=
 bif a.GN == 1 then
 some true
 else
 some (a.GN == 2)
def aln:Spec fam:=⟨[QP],[gt],λa=>cf a.1⟩
def jG(c:I6)(Ki:List UInt8):Option Bool:=
 (gc c Ki).bind λx=>
 bif x.2 then
 (ii c Ki).bind λx1=>
 some ((x1.length:Int) == 0)
 else
 some false
def alh:Spec fam:=⟨[Q5,f8],[gt],λa=>jG a.1 a.2.1⟩
def gN(s:List UInt8):Option (Int×Bool):=Vg s
def aeh:Spec fam:=⟨[f8],[ge,gt],λa=>gN a.1⟩
def kA(s:List UInt8)(sep:List UInt8):Option (List UInt8×List UInt8×Bool):=
 (fK s sep).bind λi=>
 bif decide (i≥0)then
 (slc s 0 i).bind λs1=>
 (slc s (I8 (i+(sep.length:Int))) (s.length:Int)).bind λs2=>
 some (s1,s2,true)
 else
 some (s,([]:List UInt8),false)
def ads:Spec fam:=⟨[f8,f8],[f8,f8,gt],λa=>kA a.1 a.2.1⟩
def pz(s:List UInt8)(sep:List UInt8):Option (List UInt8×List UInt8×Bool):=
 (kA s sep).bind λx=>
 some (x.1,x.2.1,x.2.2)
def adM:Spec fam:=⟨[f8,f8],[f8,f8,gt],λa=>pz a.1 a.2.1⟩
def m9(w:List UInt8):Option (Cap×Bool):=
 (pz w ([47]:List UInt8)).bind λx=>
 (gN x.1).bind λx1=>
 (gN x.2.1).bind λx2=>
 bif x.2.2 then
 bif x1.2 then
  some ((⟨x1.1,x2.1⟩:Cap),x2.2)
 else
  some ((⟨x1.1,x2.1⟩:Cap),false)
 else
 some ((⟨x1.1,x2.1⟩:Cap),false)
def aeg:Spec fam:=⟨[f8],[JQ,gt],λa=>m9 a.1⟩
def d4(l:List (List UInt8))(t:Bool×I4×Int):Option ((Bool×I4×Int) ⊕ ((Bool×I4))):=
 bif decide (t.2.2<(l.length:Int))then
 (idx l t.2.2).bind λx3=>
 (m9 x3).bind λx4=>
 (
  bif t.1 then
  some x4.2
  else
  some false).bind λok=>
 (app 16 t.2.1.KU [x4.1]).bind λl1=>
 some (.inl (ok,(⟨t.2.1.J_,l1,t.2.1.User⟩:I4),I8 (t.2.2+1)))
 else
 some (.inr (t.1,t.2.1))
def fM(r:Reader)(w:List (List UInt8)):Option (Int×Reader):=
 bif decide ((r.c.IX.length:Int)≥16)then
 some (4,r)
 else
 bif(w.length:Int) != (I8 (3+(r.c.I7.length:Int)))then
  some (6,r)
 else
  (idx w 2).bind λx=>
  (gN x).bind λx1=>
  (idx w 1).bind λx2=>
  (slc w 3 (w.length:Int)).bind λl=>
  (loop (d4 l) (x1.2,(⟨x2,[],x1.1⟩:I4),0)).bind λq=>
  bif ! q.1 then
  some (6,r)
  else
  (app 48 r.c.IX [q.2]).bind λl2=>
  some (0,(⟨⟨r.c.I7,l2⟩,r.seen⟩:Reader))
def aeI:Spec fam:=⟨[Qm,QA],[ge],λa=>fM a.1 a.2.1⟩
def gr(r:Reader)(w:List (List UInt8)):Option (Int×Reader):=
 bif(w.length:Int) == 0 then
 some (0,r)
 else
 (
  bif ! r.seen then
  (idx w 0).bind λx=>
  some (x == ([108,97,98,101,108,115]:List UInt8))
  else
  some false).bind λq=>
 bif q then
  bif decide ((w.length:Int)>3)then
  some (4,(⟨⟨r.c.I7,r.c.IX⟩,true⟩:Reader))
  else
  (PV 16 (w.length:Int) (w.length:Int) []).bind λl=>
  (Mj 1 (l.length:Int) l.length).bind λp=>
  (slc w 1 (w.length:Int)).bind λl1=>
  some (0,(⟨⟨LD l p.1 p.2 l1,r.c.IX⟩,true⟩:Reader))
 else
  (
  bif ! r.seen then
   some true
  else
   (idx w 0).bind λx1=>
   some (! (x1 == ([113,117,101,117,101]:List UInt8)))).bind λq1=>
  bif q1 then
  some (6,r)
  else
  (fM r w).bind λx2=>
  some (x2.1,x2.2)
def afh:Spec fam:=⟨[Qm,QA],[ge],λa=>gr a.1 a.2.1⟩
def cR(del:(Jk fam [.str]→Option Bool))(t:List (List UInt8)×Int×Int):Option ((List (List UInt8)×Int×Int) ⊕ ((List (List UInt8)×Int))):=
 bif decide (t.2.2<(t.1.length:Int))then
 (
  (Ka t.2.2 t.1.length).bind λi1=>
  (t.1[i1]?).bind λx=>
  (del (x,())).bind λr=>
  bif ! r then
  (Ka t.2.1 t.1.length).bind λi2=>
  (t.1[i2]?).bind λx1=>
  some (List.set t.1 i2 x,I8 (t.2.1+1))
  else
  some (t.1,t.2.1)).bind λq=>
 some (.inl (q.1,q.2,I8 (t.2.2+1)))
 else
 some (.inr (t.1,t.2.1))
def bk(s:List (List UInt8))(del:(Jk fam [.str]→Option Bool)):Option (List (List UInt8)):=
 (aZ s del).bind λi=>
 bif i == (-1)then
 some s
 else
 (loop (cR del) (s,i,I8 (i+1))).bind λq1=>
 (Mj q1.2 (q1.1.length:Int) q1.1.length).bind λp=>
 (Mj 0 q1.2 (LD q1.1 p.1 p.2 (List.replicate p.2 [])).length).bind λp1=>
 some (List.take p1.2 (LD q1.1 p.1 p.2 (List.replicate p.2 [])))
def aeG:Spec fam:=⟨[t6,.fn [.str] .bool],[t6],λa=>bk a.1 a.2.1⟩
def ss(w:List UInt8):Option Bool:=
 some (w == ([]:List UInt8))
def aeF:Spec fam:=⟨[f8],[gt],λa=>ss a.1⟩
def nj(line:List UInt8):Option (List (List UInt8)):=
 (eV line ([32]:List UInt8)).bind λx=>
 (bk x (λa'=>ss a'.1)).bind λx1=>
 some x1
def aff:Spec fam:=⟨[f8],[t6],λa=>nj a.1⟩
def ta(a:Int)(cmp:(Jk fam [.st 2,.st 2]→Option Int))(t1:List I4×Int):Option ((List I4×Int) ⊕ List I4):=
 (
 bif decide (t1.2>a)then
  (Ka t1.2 t1.1.length).bind λi=>
  (t1.1[i]?).bind λx=>
  (Ka (I8 (t1.2 - 1)) t1.1.length).bind λi1=>
  (t1.1[i1]?).bind λx1=>
  (cmp (x,x1,())).bind λr=>
  some (decide (r<0))
 else
  some false).bind λq=>
 bif q then
 (Ka (I8 (t1.2 - 1)) t1.1.length).bind λi2=>
 (t1.1[i2]?).bind λx2=>
 (Ka t1.2 t1.1.length).bind λi3=>
 (t1.1[i3]?).bind λx3=>
 (Ka t1.2 t1.1.length).bind λi4=>
 (t1.1[i4]?).bind λx4=>
 (Ka (I8 (t1.2 - 1)) (List.set t1.1 i4 x2).length).bind λi5=>
 ((List.set t1.1 i4 x2)[i5]?).bind λx5=>
 some (.inl (List.set (List.set t1.1 i4 x2) i5 x3,I8 (t1.2 - 1)))
 else
 some (.inr t1.1)
def tg(a:Int)(b:Int)(cmp:(Jk fam [.st 2,.st 2]→Option Int))(t:List I4×Int):Option ((List I4×Int) ⊕ List I4):=
 bif decide (t.2<b)then
 (loop (ta a cmp) (t.1,t.2)).bind λMH=>
 some (.inl (MH,I8 (t.2+1)))
 else
 some (.inr t.1)
def iJ(data:List I4)(a:Int)(b:Int)(cmp:(Jk fam [.st 2,.st 2]→Option Int)):Option (List I4):=
 (loop (tg a b cmp) (data,I8 (a+1))).bind λNz=>
 some Nz
def aec:Spec fam:=⟨[ac,ge,ge,.fn [.st 2,.st 2] (.int .i64)],[],λa=>iJ a.1 a.2.1 a.2.2.1 a.2.2.2.1⟩
def tu(a:Int)(b:Int)(n:Int)(t:List I4×Int):Option ((List I4×Int) ⊕ List I4):=
 bif decide (t.2<n)then
 (Ka (I8 (b+t.2)) t.1.length).bind λi=>
 (t.1[i]?).bind λx=>
 (Ka (I8 (a+t.2)) t.1.length).bind λi1=>
 (t.1[i1]?).bind λx1=>
 (Ka (I8 (a+t.2)) t.1.length).bind λi2=>
 (t.1[i2]?).bind λx2=>
 (Ka (I8 (b+t.2)) (List.set t.1 i2 x).length).bind λi3=>
 ((List.set t.1 i2 x)[i3]?).bind λx3=>
 some (.inl (List.set (List.set t.1 i2 x) i3 x1,I8 (t.2+1)))
 else
 some (.inr t.1)
def iE(data:List I4)(a:Int)(b:Int)(n:Int)(cmp:(Jk fam [.st 2,.st 2]→Option Int)):Option (List I4):=
 (loop (tu a b n) (data,0)).bind λMH=>
 some MH
def adp:Spec fam:=⟨[ac,ge,ge,ge,.fn [.st 2,.st 2] (.int .i64)],[],λa=>iE a.1 a.2.1 a.2.2.1 a.2.2.2.1 a.2.2.2.2.1⟩
def tj(m:Int)(cmp:(Jk fam [.st 2,.st 2]→Option Int))(t:List I4×Int×Int):Option ((List I4×Int×Int) ⊕ ((List I4×Int))):=
 bif t.2.1 != t.2.2 then
 bif decide (t.2.1>t.2.2)then
  (iE t.1 (I8 (m - t.2.1)) m t.2.2 cmp).bind λx=>
  let i:=I8 (t.2.1 - t.2.2)
  some (.inl (x,i,t.2.2))
 else
  (iE t.1 (I8 (m - t.2.1)) (I8 ((I8 (m+t.2.2)) - t.2.1)) t.2.1 cmp).bind λx1=>
  let j:=I8 (t.2.2 - t.2.1)
  some (.inl (x1,t.2.1,j))
 else
 some (.inr (t.1,t.2.1))
def qf(data:List I4)(a:Int)(m:Int)(b:Int)(cmp:(Jk fam [.st 2,.st 2]→Option Int)):Option (List I4):=
 (loop (tj m cmp) (data,I8 (m - a),I8 (b - m))).bind λq=>
 (iE q.1 (I8 (m - q.2)) m q.2 cmp).bind λx2=>
 some x2
def adI:Spec fam:=⟨[ac,ge,ge,ge,.fn [.st 2,.st 2] (.int .i64)],[],λa=>qf a.1 a.2.1 a.2.2.1 a.2.2.2.1 a.2.2.2.2.1⟩
def ra(data:List I4)(cmp:(Jk fam [.st 2,.st 2]→Option Int))(p:Int)(t4:Int×Int):Option ((Int×Int) ⊕ Int):=
 bif decide (t4.1<t4.2)then
 let c:=I8 (Md .u64 (IntKind.u64.wrap (I8 (t4.1+t4.2))) 1)
 (Ka (I8 (p - c)) data.length).bind λi14=>
 (data[i14]?).bind λOo=>
 (Ka c data.length).bind λi15=>
 (data[i15]?).bind λPO=>
 (cmp (Oo,PO,())).bind λr2=>
 bif ! (decide (r2<0))then
  some (.inl (I8 (c+1),t4.2))
 else
  some (.inl (t4.1,c))
 else
 some (.inr t4.1)
def q_(i9:Int)(t3:List I4×Int):Option ((List I4×Int) ⊕ List I4):=
 bif decide (t3.2>i9)then
 (Ka (I8 (t3.2 - 1)) t3.1.length).bind λi10=>
 (t3.1[i10]?).bind λx8=>
 (Ka t3.2 t3.1.length).bind λi11=>
 (t3.1[i11]?).bind λx9=>
 (Ka t3.2 t3.1.length).bind λi12=>
 (t3.1[i12]?).bind λx10=>
 (Ka (I8 (t3.2 - 1)) (List.set t3.1 i12 x8).length).bind λi13=>
 ((List.set t3.1 i12 x8)[i13]?).bind λM_=>
 some (.inl (List.set (List.set t3.1 i12 x8) i13 x9,I8 (t3.2 - 1)))
 else
 some (.inr t3.1)
def re(data:List I4)(m:Int)(cmp:(Jk fam [.st 2,.st 2]→Option Int))(t2:Int×Int):Option ((Int×Int) ⊕ Int):=
 bif decide (t2.1<t2.2)then
 let h1:=I8 (Md .u64 (IntKind.u64.wrap (I8 (t2.1+t2.2))) 1)
 (Ka m data.length).bind λi7=>
 (data[i7]?).bind λx6=>
 (Ka h1 data.length).bind λi8=>
 (data[i8]?).bind λx7=>
 (cmp (x6,x7,())).bind λr1=>
 bif ! (decide (r1<0))then
  some (.inl (I8 (h1+1),t2.2))
 else
  some (.inl (t2.1,h1))
 else
 some (.inr t2.1)
def qY(i2:Int)(t1:List I4×Int):Option ((List I4×Int) ⊕ List I4):=
 bif decide (t1.2<(I8 (i2 - 1)))then
 (Ka (I8 (t1.2+1)) t1.1.length).bind λi3=>
 (t1.1[i3]?).bind λx2=>
 (Ka t1.2 t1.1.length).bind λi4=>
 (t1.1[i4]?).bind λx3=>
 (Ka t1.2 t1.1.length).bind λi5=>
 (t1.1[i5]?).bind λx4=>
 (Ka (I8 (t1.2+1)) (List.set t1.1 i5 x2).length).bind λi6=>
 ((List.set t1.1 i5 x2)[i6]?).bind λx5=>
 some (.inl (List.set (List.set t1.1 i5 x2) i6 x3,I8 (t1.2+1)))
 else
 some (.inr t1.1)
def qZ(data:List I4)(a:Int)(cmp:(Jk fam [.st 2,.st 2]→Option Int))(t:Int×Int):Option ((Int×Int) ⊕ Int):=
 bif decide (t.1<t.2)then
 let h:=I8 (Md .u64 (IntKind.u64.wrap (I8 (t.1+t.2))) 1)
 (Ka h data.length).bind λi=>
 (data[i]?).bind λx=>
 (Ka a data.length).bind λi1=>
 (data[i1]?).bind λx1=>
 (cmp (x,x1,())).bind λr=>
 bif decide (r<0)then
  some (.inl (I8 (h+1),t.2))
 else
  some (.inl (t.1,h))
 else
 some (.inr t.1)
def uE(self:(List I4)→Int→Int→Int→((Jk fam [.st 2,.st 2]→Option Int))→Option (List I4))(data:List I4)(a:Int)(m:Int)(b:Int)(cmp:(Jk fam [.st 2,.st 2]→Option Int)):Option (List I4):=
 bif(I8 (m - a)) == 1 then
 (loop (qZ data a cmp) (m,b)).bind λi2=>
 (loop (qY i2) (data,a)).bind λMH=>
 some MH
 else
 bif(I8 (b - m)) == 1 then
  (loop (re data m cmp) (a,m)).bind λi9=>
  (loop (q_ i9) (data,m)).bind λNz=>
  some Nz
 else
  let mid:=I8 (Md .u64 (IntKind.u64.wrap (I8 (a+b))) 1)
  (
  bif decide (m>mid)then
   let start:=I8 ((I8 (mid+m)) - b)
   some (start,mid)
  else
   some (a,m)).bind λq=>
  let p:=I8 ((I8 (mid+m)) - 1)
  (loop (ra data cmp p) (q.1,q.2)).bind λL9=>
  let end_:=I8 ((I8 (mid+m)) - L9)
  (
  (
   bif decide (L9<m)then
   some (decide (m<end_))
   else
   some false).bind λq1=>
  bif q1 then
   (qf data L9 m end_ cmp).bind λN_=>
   some N_
  else
   some data).bind λSr=>
  (
  (
   bif decide (a<L9)then
   some (decide (L9<mid))
   else
   some false).bind λq2=>
  bif q2 then
   (self Sr a L9 mid cmp).bind λSH=>
   some SH
  else
   some Sr).bind λSq=>
  (
  bif decide (mid<end_)then
   some (decide (end_<b))
  else
   some false).bind λq3=>
  bif q3 then
  (self Sq mid end_ b cmp).bind λUM=>
  some UM
  else
  some Sq
def ju:Nat→(List I4)→Int→Int→Int→((Jk fam [.st 2,.st 2]→Option Int))→Option (List I4)
 | 0=>λ_ _ _ _ _=>none
 | n+1=>uE (ju n)
def lg(a0:List I4)(a1:Int)(a2:Int)(a3:Int)(a4:(Jk fam [.st 2,.st 2]→Option Int)):Option (List I4):=ju 64 a0 a1 a2 a3 a4
def aov:Hint:=(.s (JJ (.c (JJ (.s .z (.s JI (.s (JJ ((JX [(0,ac),(13,ge)] [0,13] [(4,[(0,ac)])] .z))) .z)))) .z)) (.s (JJ (.c (JJ (.s .z (.s JL (.s (JJ ((JX [(0,ac),(17,ge)] [0,17] [(8,[(0,ac)])] .z))) .z)))) .z)) (JJ (.s .z (JJ (.s JP (JJ (.s JH (JJ (.s (.j [0,185] [(0,[(0,ac)])] JR) (.s (.j [0,199] [(0,[(0,ac)])] JS) JT)))))))))))
def aeb:Spec fam:=⟨[ac,ge,ge,ge,.fn [.st 2,.st 2] (.int .i64)],[],λa=>lg a.1 a.2.1 a.2.2.1 a.2.2.2.1 a.2.2.2.2.1⟩
def He(n:Nat):Spec fam:=⟨[.row (.st 2) false,.v (.int .i64) [],.v (.int .i64) [],.v (.int .i64) [],.fn [.st 2,.st 2] (.int .i64)],[],λa=>ju n a.1 a.2.1 a.2.2.1 a.2.2.2.1 a.2.2.2.2.1⟩
def tp(n:Int)(cmp:(Jk fam [.st 2,.st 2]→Option Int))(t1:List I4×Int)(t2:List I4×Int×Int):Option ((List I4×Int×Int) ⊕ ((List I4×Int))):=
 bif decide (t2.2.2≤n)then
 (lg t2.1 t2.2.1 (I8 (t2.2.1+t1.2)) t2.2.2 cmp).bind λx2=>
 let b:=I8 (t2.2.2+(I8 (2*t1.2)))
 some (.inl (x2,t2.2.2,b))
 else
 some (.inr (t2.1,t2.2.1))
def iQ(n:Int)(cmp:(Jk fam [.st 2,.st 2]→Option Int))(t1:List I4×Int):Option ((List I4×Int) ⊕ List I4):=
 bif decide (t1.2<n)then
 (loop (tp n cmp t1) (t1.1,0,I8 (2*t1.2))).bind λq1=>
 (
  let m:=I8 (q1.2+t1.2)
  bif decide (m<n)then
  (lg q1.1 q1.2 m n cmp).bind λx3=>
  some x3
  else
  some q1.1).bind λMH=>
 some (.inl (MH,I8 (t1.2*2)))
 else
 some (.inr t1.1)
def iU(n:Int)(cmp:(Jk fam [.st 2,.st 2]→Option Int))(t:List I4×Int×Int):Option ((List I4×Int×Int) ⊕ ((List I4×Int))):=
 bif decide (t.2.2≤n)then
 (iJ t.1 t.2.1 t.2.2 cmp).bind λx=>
 some (.inl (x,t.2.2,I8 (t.2.2+20)))
 else
 some (.inr (t.1,t.2.1))
def lh(data:List I4)(n:Int)(cmp:(Jk fam [.st 2,.st 2]→Option Int)):Option (List I4):=
 (loop (iU n cmp) (data,0,20)).bind λq=>
 (iJ q.1 q.2 n cmp).bind λx1=>
 (loop (iQ n cmp) (x1,20)).bind λNz=>
 some Nz
def aeE:Spec fam:=⟨[ac,ge,.fn [.st 2,.st 2] (.int .i64)],[],λa=>lh a.1 a.2.1 a.2.2.1⟩
def iF(x:List I4)(cmp:(Jk fam [.st 2,.st 2]→Option Int)):Option (List I4):=
 (lh x (x.length:Int) cmp).bind λx1=>
 some x1
def afe:Spec fam:=⟨[ac,.fn [.st 2,.st 2] (.int .i64)],[],λa=>iF a.1 a.2.1⟩
def fR(x:List UInt8):Option Bool:=
 some (! (x == x))
def aeD:Spec fam:=⟨[f8],[gt],λa=>fR a.1⟩
def bZ(x:List UInt8)(y:List UInt8):Option Int:=
 (fR x).bind λZC=>
 (fR y).bind λU6=>
 bif ZC then
 bif U6 then
  some 0
 else
  some (-1)
 else
 bif U6 then
  some 1
 else
  bif Op.bytesLess x y then
  some (-1)
  else
  bif ! (OA x y)then
   some 1
  else
   some 0
def afc:Spec fam:=⟨[f8,f8],[ge],λa=>bZ a.1 a.2.1⟩
def ol(a:I4)(b:I4):Option Int:=
 (bZ a.J_ b.J_).bind λx=>
 some x
def afd:Spec fam:=⟨[.v (.st 2) [],.v (.st 2) []],[ge],λa=>ol a.1 a.2.1⟩
def ji(x3:List I4)(t1:I6×Int):Option ((I6×Int) ⊕ ((I6×Int) ⊕ I6)):=
 bif decide (t1.2<(x3.length:Int))then
 (
  bif decide (t1.2>0)then
  (Ka (I8 (t1.2 - 1)) x3.length).bind λi1=>
  (x3[i1]?).bind λx4=>
  (Ka t1.2 x3.length).bind λi2=>
  (x3[i2]?).bind λx5=>
  some (x4.J_ == x5.J_)
  else
  some false).bind λq2=>
 bif q2 then
  some (.inr (.inl ((⟨[],[]⟩:I6),7)))
 else
  some (.inl (t1.1,I8 (t1.2+1)))
 else
 some (.inr (.inr (t1.1)))
def jg(x:List (List UInt8))(t:I6×Reader×Int):Option ((I6×Reader×Int) ⊕ ((I6×Int) ⊕ (I6×Reader))):=
 bif decide (t.2.2<(x.length:Int))then
 (Ka t.2.2 x.length).bind λi=>
 (x[i]?).bind λx1=>
 (nj x1).bind λx2=>
 (gr t.2.1 x2).bind λe=>
 bif e.1 != 0 then
  some (.inr (.inl ((⟨[],[]⟩:I6),e.1)))
 else
  some (.inl (t.1,e.2,I8 (t.2.2+1)))
 else
 some (.inr (.inr (t.1,t.2.1)))
def mW(s:List UInt8):Option (I6×Int):=
 bif decide ((s.length:Int)>2000)then
 some ((⟨[],[]⟩:I6),5)
 else
 (eV s ([10]:List UInt8)).bind λx=>
 (loop (jg x) ((⟨[],[]⟩:I6),(⟨⟨[],[]⟩,false⟩:Reader),0)).bind λq0=>
 match q0 with
 | .inl q=>
  some (q.1,q.2)
 | .inr q1=>
  bif ! q1.2.seen then
  some ((⟨[],[]⟩:I6),6)
  else
  (iF q1.2.c.IX (λa'=>ol a'.1 a'.2.1)).bind λx3=>
  (loop (ji x3) (q1.1,0)).bind λq0=>
  match q0 with
  | .inl q3=>
   some (q3.1,q3.2)
  | .inr q4=>
   some ((⟨q1.2.c.I7,x3⟩:I6),0)
def ak1:Spec fam:=⟨[f8],[.v (.st 3) [0,1],ge],λa=>mW a.1⟩
def b_(s1:List (List UInt8))(s2:List (List UInt8))(t:Int):Option (Int ⊕ (Bool ⊕ Unit)):=
 bif decide (t<(s1.length:Int))then
 (idx s1 t).bind λx=>
 (idx s2 t).bind λx1=>
 bif ! (x == x1)then
  some (.inr (.inl false))
 else
  some (.inl (I8 (t+1)))
 else
 some (.inr (.inr ()))
def cI(s1:List (List UInt8))(s2:List (List UInt8)):Option Bool:=
 bif(s1.length:Int) != (s2.length:Int)then
 some false
 else
 (loop (b_ s1 s2) 0).bind λq0=>
 match q0 with
 | .inl q=>
  some q
 | .inr _=>
  some true
def ak0:Spec fam:=⟨[QA,QA],[gt],λa=>cI a.1 a.2.1⟩
def ci(t:Step)(x:I6×Int)(t1:Output×Int):Option ((Output×Int) ⊕ (Output ⊕ Output)):=
 bif decide (t1.2<(t.s.IY.length:Int))then
 (idx t.s.IY t1.2).bind λx4=>
 (
  (cf x4).bind λx5=>
  bif x5 then
  (jG x.1 x4.I4).bind λx6=>
  some (! x6)
  else
  some false).bind λq1=>
 bif q1 then
  (aO 14).bind λx7=>
  some (.inr (.inl x7))
 else
  some (.inl (t1.1,I8 (t1.2+1)))
 else
 some (.inr (.inr (t1.1)))
def cY(t:Step):Option (Output×Step):=
 (mW t.x.Text).bind λx=>
 (
 bif x.2 == 0 then
  (jS x.1).bind λe=>
  some e
 else
  some x.2).bind λe1=>
 bif e1 != 0 then
 (aO e1).bind λx1=>
 some (x1,t)
 else
 (
  bif decide ((t.s.I6.I7.length:Int)>(x.1.I7.length:Int))then
  some true
  else
  (Mj 0 (t.s.I6.I7.length:Int) x.1.I7.length).bind λp=>
  (cI t.s.I6.I7 (sub x.1.I7 p.1 p.2)).bind λx2=>
  some (! x2)).bind λq=>
 bif q then
  (aO 14).bind λx3=>
  some (x3,t)
 else
  (loop (ci t x) ((⟨0,[],[],[],0⟩:Output),0)).bind λq0=>
  match q0 with
  | .inl q2=>
  some (q2,t)
  | .inr q3=>
  some ((⟨0,[],[],[],0⟩:Output),(⟨⟨⟨x.1.I7,x.1.IX⟩,t.s.Jb,t.s.IY,t.s.IW,t.s.Jj,t.s.Ji,t.s.Now,t.s.Jq,t.s.Seq⟩,⟨t.x.Kind,t.x.Id,t.x.J6,t.x.N,t.x.Text,⟨t.x.Node.Id,t.x.Node.I_,t.x.Node.KF,⟨t.x.Node.Cap.Mem,t.x.Node.Cap.IZ⟩,t.x.Node.Kz,t.x.Node.J6,t.x.Node.Up⟩,⟨t.x.App.Id,t.x.App.GN,t.x.App.I4,t.x.App.User,t.x.App.Jt,⟨t.x.App.I5.Mem,t.x.App.I5.IZ⟩,t.x.App.Ju,t.x.App.Kz,t.x.App.J6,t.x.App.Ke,t.x.App.KE,t.x.App.Told,t.x.App.Lg⟩,t.x.Ju,t.x.Ids,⟨t.x.Jd.Id,t.x.Jd.I_,t.x.Jd.From,t.x.Jd.Until,⟨t.x.Jd.Need.Mem,t.x.Jd.Need.IZ⟩⟩⟩⟩:Step))
def alQ:Spec fam:=⟨[QH],[QN],λa=>cY a.1⟩
def c9(t:Step)(s:GN)(e:Int):Option (Output×Step):=
 bif e != 0 then
 (aO e).bind λx=>
 some (x,t)
 else
 some ((⟨0,[],[],[],0⟩:Output),(⟨⟨⟨s.I6.I7,s.I6.IX⟩,s.Jb,s.IY,s.IW,s.Jj,s.Ji,s.Now,s.Jq,s.Seq⟩,⟨t.x.Kind,t.x.Id,t.x.J6,t.x.N,t.x.Text,⟨t.x.Node.Id,t.x.Node.I_,t.x.Node.KF,⟨t.x.Node.Cap.Mem,t.x.Node.Cap.IZ⟩,t.x.Node.Kz,t.x.Node.J6,t.x.Node.Up⟩,⟨t.x.App.Id,t.x.App.GN,t.x.App.I4,t.x.App.User,t.x.App.Jt,⟨t.x.App.I5.Mem,t.x.App.I5.IZ⟩,t.x.App.Ju,t.x.App.Kz,t.x.App.J6,t.x.App.Ke,t.x.App.KE,t.x.App.Told,t.x.App.Lg⟩,t.x.Ju,t.x.Ids,⟨t.x.Jd.Id,t.x.Jd.I_,t.x.Jd.From,t.x.Jd.Until,⟨t.x.Jd.Need.Mem,t.x.Jd.Need.IZ⟩⟩⟩⟩:Step))
def alP:Spec fam:=⟨[.box (.st 19) [],f9,ge],[QN],λa=>c9 a.1 a.2.1 a.2.2.1⟩
def kJ(l:List Int):Option (List Int):=
 (PV 8 (l.length:Int) (l.length:Int) 0).bind λl1=>
 some (LD l1 0 l1.length l)
def afb:Spec fam:=⟨[QQ],[f0],λa=>kJ a.1⟩
def oi(x9:List App)(t1:List App×Int):Option ((List App×Int) ⊕ List App):=
 bif decide (t1.2<(x9.length:Int))then
 (Ka t1.2 t1.1.length).bind λi2=>
 (t1.1[i2]?).bind λx10=>
 (lq x10.Ju).bind λM_=>
 (kJ x10.Ke).bind λOo=>
 (kJ x10.KE).bind λPO=>
 (kJ x10.Told).bind λN_=>
 (kJ x10.Lg).bind λSH=>
 (Ka t1.2 t1.1.length).bind λi3=>
 (t1.1[i3]?).bind λUM=>
 some (.inl (List.set t1.1 i3 (⟨x10.Id,x10.GN,x10.I4,x10.User,x10.Jt,⟨x10.I5.Mem,x10.I5.IZ⟩,M_,x10.Kz,x10.J6,Oo,PO,N_,SH⟩:App),I8 (t1.2+1)))
 else
 some (.inr t1.1)
def rg(x1:List I4)(t:List I4×Int):Option ((List I4×Int) ⊕ List I4):=
 bif decide (t.2<(x1.length:Int))then
 (Ka t.2 t.1.length).bind λi=>
 (t.1[i]?).bind λx2=>
 (ij x2.KU).bind λx3=>
 (Ka t.2 t.1.length).bind λi1=>
 (t.1[i1]?).bind λx4=>
 some (.inl (List.set t.1 i1 (⟨x4.J_,x3,x4.User⟩:I4),I8 (t.2+1)))
 else
 some (.inr t.1)
def mA(s:GN):Option GN:=
 (aW s.I6.I7).bind λx=>
 (iv s.I6.IX).bind λx1=>
 (loop (rg x1) (x1,0)).bind λq=>
 (jx s.Jb).bind λx5=>
 (d7 s.IW).bind λx6=>
 (jA s.Jj).bind λx7=>
 (jI s.Ji).bind λx8=>
 (kW s.IY).bind λx9=>
 (loop (oi x9) (x9,0)).bind λq1=>
 some (⟨⟨x,q⟩,x5,q1,x6,x7,x8,s.Now,s.Jq,s.Seq⟩:GN)
def af6:Spec fam:=⟨[f9],[QF],λa=>mA a.1⟩
def oG(s:List Node)(f:(Jk fam [.st 4]→Option Bool))(t:Int):Option (Int ⊕ (Int ⊕ Unit)):=
 bif decide (t<(s.length:Int))then
 (idx s t).bind λx=>
 (f (x,())).bind λr=>
 bif r then
  some (.inr (.inl t))
 else
  some (.inl (I8 (t+1)))
 else
 some (.inr (.inr ()))
def jk(s:List Node)(f:(Jk fam [.st 4]→Option Bool)):Option Int:=
 (loop (oG s f) 0).bind λq0=>
 match q0 with
 | .inl q=>
 some q
 | .inr _=>
 some (-1)
def afq:Spec fam:=⟨[Qh,.fn [.st 4] .bool],[ge],λa=>jk a.1 a.2.1⟩
def rD(i:Int)(n:Node):Option Bool:=
 some (n.Id == i)
def afa:Spec fam:=⟨[ge,Ql],[gt],λa=>rD a.1 a.2.1⟩
def kT(s:GN)(Lc:Int):Option Int:=
 (jk s.Jb (λa'=>rD Lc a'.1)).bind λx=>
 some x
def af5:Spec fam:=⟨[f9,ge],[ge],λa=>kT a.1 a.2.1⟩
def cZ(n:Int)(most:Int):Option Bool:=
 bif decide (n≥0)then
 some (decide (n≤most))
 else
 some false
def af4:Spec fam:=⟨[ge,ge],[gt],λa=>cZ a.1 a.2.1⟩
def uX(s:List Node)(i:Int)(v:List Node):Option (List Node):=
 (Mj i (s.length:Int) s.length).bind λp=>
 bif(v.length:Int) == 0 then
 some s
 else
 bif i == (s.length:Int)then
  (app 64 s v).bind λl=>
  some l
 else
  none
def mI(s:List Node)(i:Int)(v:List Node):Option (List Node):=ins s i v
def aoB:Hint:=.z
def af3:Spec fam:=⟨[Qe,ge,Qe],[Qe],λa=>mI a.1 a.2.1 a.2.2.1⟩
def Gi:Spec fam:=⟨[.v (.slice (.st 4)) [0],.v (.int .i64) [],.v (.slice (.st 4)) [0]],[.v (.slice (.st 4)) [0]],λa=>uX a.1 a.2.1 a.2.2.1⟩
def mR(n:Node)(x:GN)(k:Int):Option (Int ⊕ Int):=
 (
 bif decide (k<(x.Jb.length:Int))then
  (Ka k x.Jb.length).bind λi3=>
  (x.Jb[i3]?).bind λx8=>
  some (decide (x8.Id<n.Id))
 else
  some false).bind λq3=>
 bif q3 then
 some (.inl (I8 (k+1)))
 else
 some (.inr k)
def il(s:GN)(n:Node):Option (GN×Int):=
 (mA s).bind λx=>
 (kT x n.Id).bind λi=>
 (
 (cZ n.Id 999).bind λx1=>
 bif ! x1 then
  some true
 else
  (cZ n.I_ (I8 ((x.I6.I7.length:Int) - 1))).bind λx2=>
  bif ! x2 then
  some true
  else
  (cZ n.KF 99).bind λx3=>
  bif ! x3 then
   some true
  else
   (cZ n.Cap.Mem 1073741824).bind λx4=>
   bif ! x4 then
   some true
   else
   (cZ n.Cap.IZ 1073741824).bind λx5=>
   some (! x5)).bind λq=>
 bif q then
 some (x,1)
 else
 (
  bif decide (i≥0)then
  (Ka i x.Jb.length).bind λi1=>
  (x.Jb[i1]?).bind λx6=>
  some x6.Up
  else
  some false).bind λq1=>
 bif q1 then
  some (x,7)
 else
  (
  bif decide (i<0)then
   some (decide ((x.Jb.length:Int)≥12))
  else
   some false).bind λq2=>
  bif q2 then
  some (x,4)
  else
  bif decide (i≥0)then
   (Ka i x.Jb.length).bind λi2=>
   (x.Jb[i2]?).bind λx7=>
   some ((⟨⟨x.I6.I7,x.I6.IX⟩,List.set x.Jb i2 (⟨n.Id,n.I_,n.KF,⟨n.Cap.Mem,n.Cap.IZ⟩,x.Now,0,true⟩:Node),x.IY,x.IW,x.Jj,x.Ji,x.Now,x.Jq,x.Seq⟩:GN),0)
  else
   (loop (mR n x) 0).bind λk1=>
   (mI x.Jb k1 [(⟨n.Id,n.I_,n.KF,⟨n.Cap.Mem,n.Cap.IZ⟩,x.Now,0,true⟩:Node)]).bind λx9=>
   some ((⟨⟨x.I6.I7,x.I6.IX⟩,x9,x.IY,x.IW,x.Jj,x.Ji,x.Now,x.Jq,x.Seq⟩:GN),0)
def alO:Spec fam:=⟨[f9,Ql],[QF,ge],λa=>il a.1 a.2.1⟩
def fu(s:GN)(Lc:Int):Option (Node×Bool):=
 (kT s Lc).bind λi=>
 bif decide (i<0)then
 some ((⟨0,0,0,⟨0,0⟩,0,0,false⟩:Node),false)
 else
 (idx s.Jb i).bind λx=>
 some (x,true)
def alo:Spec fam:=⟨[f9,ge],[Ql,gt],λa=>fu a.1 a.2.1⟩
def so(t:Step)(node:Int)(t1:List Int×Int):Option ((List Int×Int) ⊕ List Int):=
 bif decide (t1.2<(t.s.IW.length:Int))then
 (
  (idx t.s.IW t1.2).bind λx=>
  bif x.Node == node then
  (app 8 t1.1 [x.Id]).bind λl=>
  some l
  else
  some t1.1).bind λout=>
 some (.inl (out,I8 (t1.2+1)))
 else
 some (.inr t1.1)
def dq(t:Step)(node:Int):Option (List Int):=
 (loop (so t node) ([],0)).bind λLG=>
 some LG
def af2:Spec fam:=⟨[.rp (.st 19),ge],[f0],λa=>dq a.1 a.2.1⟩
def m0(s:GN)(Lc:Int)(Xo:Int):Option (GN×Int):=
 (mA s).bind λx=>
 (kT x Lc).bind λi=>
 bif decide (i<0)then
 some (x,2)
 else
 (Ka i x.Jb.length).bind λi1=>
 (x.Jb[i1]?).bind λx1=>
 bif ! x1.Up then
  some (x,18)
 else
  (
  bif decide (Xo<0)then
   some true
  else
   (Ka i x.Jb.length).bind λi2=>
   (x.Jb[i2]?).bind λx2=>
   some (decide (Xo<x2.J6))).bind λq=>
  bif q then
  some (x,15)
  else
  (Ka i x.Jb.length).bind λi3=>
  (x.Jb[i3]?).bind λx3=>
  bif decide ((I8 (Xo - x3.J6))>1)then
   some (x,1)
  else
   (Ka i x.Jb.length).bind λi4=>
   (x.Jb[i4]?).bind λx4=>
   (Ka i (List.set x.Jb i4 (⟨x4.Id,x4.I_,x4.KF,⟨x4.Cap.Mem,x4.Cap.IZ⟩,x.Now,x4.J6,x4.Up⟩:Node)).length).bind λi5=>
   ((List.set x.Jb i4 (⟨x4.Id,x4.I_,x4.KF,⟨x4.Cap.Mem,x4.Cap.IZ⟩,x.Now,x4.J6,x4.Up⟩:Node))[i5]?).bind λx5=>
   some ((⟨⟨x.I6.I7,x.I6.IX⟩,List.set (List.set x.Jb i4 (⟨x4.Id,x4.I_,x4.KF,⟨x4.Cap.Mem,x4.Cap.IZ⟩,x.Now,x4.J6,x4.Up⟩:Node)) i5 (⟨x5.Id,x5.I_,x5.KF,⟨x5.Cap.Mem,x5.Cap.IZ⟩,x5.Kz,Xo,x5.Up⟩:Node),x.IY,x.IW,x.Jj,x.Ji,x.Now,x.Jq,x.Seq⟩:GN),0)
def af0:Spec fam:=⟨[f9,ge,ge],[QF,ge],λa=>m0 a.1 a.2.1 a.2.2.1⟩
def fj(s:List Int)(f:(Jk fam [.int .i64]→Option Bool))(t:Int):Option (Int ⊕ (Int ⊕ Unit)):=
 bif decide (t<(s.length:Int))then
 (idx s t).bind λx=>
 (f (x,())).bind λr=>
 bif r then
  some (.inr (.inl t))
 else
  some (.inl (I8 (t+1)))
 else
 some (.inr (.inr ()))
def bW(s:List Int)(f:(Jk fam [.int .i64]→Option Bool)):Option Int:=
 (loop (fj s f) 0).bind λq0=>
 match q0 with
 | .inl q=>
 some q
 | .inr _=>
 some (-1)
def ae_:Spec fam:=⟨[QQ,.fn [.int .i64] .bool],[ge],λa=>bW a.1 a.2.1⟩
def eN(del:(Jk fam [.int .i64]→Option Bool))(t:List Int×Int×Int):Option ((List Int×Int×Int) ⊕ ((List Int×Int))):=
 bif decide (t.2.2<(t.1.length:Int))then
 (
  (Ka t.2.2 t.1.length).bind λi1=>
  (t.1[i1]?).bind λx=>
  (del (x,())).bind λr=>
  bif ! r then
  (Ka t.2.1 t.1.length).bind λi2=>
  (t.1[i2]?).bind λx1=>
  some (List.set t.1 i2 x,I8 (t.2.1+1))
  else
  some (t.1,t.2.1)).bind λq=>
 some (.inl (q.1,q.2,I8 (t.2.2+1)))
 else
 some (.inr (t.1,t.2.1))
def bn(s:List Int)(del:(Jk fam [.int .i64]→Option Bool)):Option (List Int):=
 (bW s del).bind λi=>
 bif i == (-1)then
 some s
 else
 (loop (eN del) (s,i,I8 (i+1))).bind λq1=>
 (Mj q1.2 (q1.1.length:Int) q1.1.length).bind λp=>
 (Mj 0 q1.2 (LD q1.1 p.1 p.2 (List.replicate p.2 0)).length).bind λp1=>
 some (List.take p1.2 (LD q1.1 p.1 p.2 (List.replicate p.2 0)))
def afZ:Spec fam:=⟨[f0,.fn [.int .i64] .bool],[f0],λa=>bn a.1 a.2.1⟩
def mJ(s:List Int):Option (List Int):=
 bif s.isEmpty then
 none
 else
 (app 8 [] s).bind λl=>
 some l
def bS(s:List Int):Option (List Int):=app 8 [] s
def aoA:Hint:=.z
def afY:Spec fam:=⟨[QQ],[f0],λa=>bS a.1⟩
def Ei:Spec fam:=⟨[.v (.slice (.int .i64)) []],[.v (.slice (.int .i64)) [0]],λa=>mJ a.1⟩
def dA(s:List Int)(v:Int):Option Bool:=
 (cJ s v).bind λx=>
 some (decide (x≥0))
def afW:Spec fam:=⟨[QQ,ge],[gt],λa=>dA a.1 a.2.1⟩
def eJ(Lc:Int)(p:List Int):Option Bool:=
 (dA p Lc).bind λx=>
 some (! x)
def afX:Spec fam:=⟨[ge,.rp (.slice (.int .i64))],[gt],λa=>eJ a.1 a.2.1⟩
def bu(v:Vec):Option Bool:=
 bif decide (v.Mem≥0)then
 bif decide (v.Mem≤1125899906842624)then
  bif decide (v.IZ≥0)then
  some (decide (v.IZ≤1125899906842624))
  else
  some false
 else
  some false
 else
 some false
def afp:Spec fam:=⟨[t7],[gt],λa=>bu a.1⟩
def ic(v:Vec):Option (Vec×Int):=
 (bu v).bind λx=>
 bif ! x then
 some ((⟨0,0⟩:Vec),11)
 else
 some (v,0)
def afo:Spec fam:=⟨[t7],[t7,ge],λa=>ic a.1⟩
def cz(a:Vec)(b:Vec):Option (Vec×Int):=
 (
 (bu a).bind λx=>
 bif ! x then
  some true
 else
  (bu b).bind λx1=>
  some (! x1)).bind λq=>
 bif q then
 some ((⟨0,0⟩:Vec),1)
 else
 (ic (⟨I8 (a.Mem+b.Mem),I8 (a.IZ+b.IZ)⟩:Vec)).bind λx2=>
 some (x2.1,x2.2)
def alk:Spec fam:=⟨[t7,t7],[t7,ge],λa=>cz a.1 a.2.1⟩
def xx(s:GN)(Lc:Int)(t:Vec×Int):Option ((Vec×Int) ⊕ Vec):=
 bif decide (t.2<(s.IW.length:Int))then
 (
  (idx s.IW t.2).bind λx=>
  bif x.Node == Lc then
  (cz t.1 x.Kj).bind λx1=>
  some x1.1
  else
  some t.1).bind λout=>
 some (.inl (out,I8 (t.2+1)))
 else
 some (.inr t.1)
def qs(s:GN)(Lc:Int):Option Vec:=
 (loop (xx s Lc) ((⟨0,0⟩:Vec),0)).bind λLG=>
 some LG
def aea:Spec fam:=⟨[f9,ge],[t7],λa=>qs a.1 a.2.1⟩
def m_(s:GN)(Lc:Int):Option Vec:=
 (fu s Lc).bind λx=>
 (
 bif ! x.2 then
  some true
 else
  some (! x.1.Up)).bind λq=>
 bif q then
 some (⟨0,0⟩:Vec)
 else
 (qs s Lc).bind λx1=>
 some (⟨imax (I8 (x.1.Cap.Mem - x1.Mem)) 0,imax (I8 (x.1.Cap.IZ - x1.IZ)) 0⟩:Vec)
def aeC:Spec fam:=⟨[f9,ge],[t7],λa=>m_ a.1 a.2.1⟩
def de(s:GN)(Lc:Int):Option (App×Bool):=
 (jO s Lc).bind λi=>
 bif decide (i<0)then
 some ((⟨0,0,[],0,0,⟨0,0⟩,[],0,0,[],[],[],[]⟩:App),false)
 else
 (idx s.IY i).bind λx=>
 (ie x).bind λx1=>
 some (x1,true)
def alp:Spec fam:=⟨[f9,ge],[Qd,gt],λa=>de a.1 a.2.1⟩
def jy(x:Slot)(p:Attempt):Option Bool:=
 some (x.Node == p.n.Id)
def ad_:Spec fam:=⟨[Qs,.OU (.st 20)],[gt],λa=>jy a.1 a.2.1⟩
def iw(a:App)(prio:Int)(t:Ask×Int):Option ((Ask×Int) ⊕ ((Ask×Bool) ⊕ Ask)):=
 bif decide (t.2<(a.Ju.length:Int))then
 (idx a.Ju t.2).bind λx=>
 bif x.Jt == prio then
  some (.inr (.inl (x,true)))
 else
  some (.inl (t.1,I8 (t.2+1)))
 else
 some (.inr (.inr (t.1)))
def lN(a:App)(prio:Int):Option (Ask×Bool):=
 (loop (iw a prio) ((⟨0,0,⟨0,0⟩,0,0,0,0⟩:Ask),0)).bind λq0=>
 match q0 with
 | .inl q=>
 some (q.1,q.2)
 | .inr q1=>
 some ((⟨0,0,⟨0,0⟩,0,0,0,0⟩:Ask),false)
def ad9:Spec fam:=⟨[QP,ge],[Q3,gt],λa=>lN a.1 a.2.1⟩
def iV(a:Ask)(n:Node):Option Int:=
 (
 (
  bif ! n.Up then
  some true
  else
  some (n.I_ != a.I_)).bind λq=>
 bif q then
  some (.inr (.inl 4))
 else
  bif a.KF == (-1)then
  some (.inl ())
  else
  (
   bif a.Node == n.Id then
   some (a.Node == n.Id)
   else
   bif a.Node == (-1)then
    some (a.KF == n.KF)
   else
    some false).bind λq1=>
  bif q1 then
   some (.inl ())
  else
   bif a.KF == n.KF then
   some (.inr (.inr (.inr ())))
   else
   some (.inr (.inr (.inl ()))):Option (Unit ⊕ Int ⊕ Unit ⊕ Unit)).bind λq0=>
 match q0 with
 | .inl _=>
 some 1
 | .inr (.inl q2)=>
 some q2
 | .inr (.inr (.inl _))=>
 some 3
 | .inr (.inr (.inr _))=>
 some 2
def adH:Spec fam:=⟨[Q3,Ql],[ge],λa=>iV a.1 a.2.1⟩
def my(a:Ask)(n:Node):Option Bool:=
 (iV a n).bind λx=>
 bif x == 1 then
 some true
 else
 bif x == 2 then
  some (decide (a.Nh≥2))
 else
  bif x == 3 then
  some (decide (a.Nh≥4))
  else
  some false
def ad8:Spec fam:=⟨[Q3,Ql],[gt],λa=>my a.1 a.2.1⟩
def d9(a:Vec)(b:Vec):Option Bool:=
 bif decide (a.Mem≤b.Mem)then
 some (decide (a.IZ≤b.IZ))
 else
 some false
def alj:Spec fam:=⟨[t7,t7],[gt],λa=>d9 a.1 a.2.1⟩
def dQ(t:Attempt)(x:Ask):Option Bool:=
 (iV x t.n).bind λx1=>
 bif x1 != 4 then
 (d9 x.Kj t.n.Cap).bind λx2=>
 some x2
 else
 some false
def ad7:Spec fam:=⟨[.rp (.st 20),Q3],[gt],λa=>dQ a.1 a.2.1⟩
def gQ(v:View)(c:Cont)(t:App×Int):Option ((App×Int) ⊕ ((App×Bool) ⊕ App)):=
 bif decide (t.2<(v.s.IY.length:Int))then
 (idx v.s.IY t.2).bind λx=>
 bif x.Id == c.App then
  some (.inr (.inl (x,true)))
 else
  some (.inl (t.1,I8 (t.2+1)))
 else
 some (.inr (.inr (t.1)))
def gj(v:View)(c:Cont):Option (App×Bool):=
 (loop (gQ v c) ((⟨0,0,[],0,0,⟨0,0⟩,[],0,0,[],[],[],[]⟩:App),0)).bind λq0=>
 match q0 with
 | .inl q=>
 some (q.1,q.2)
 | .inr q1=>
 some ((⟨0,0,[],0,0,⟨0,0⟩,[],0,0,[],[],[],[]⟩:App),false)
def ac8:Spec fam:=⟨[Qw,QI],[QP,gt],λa=>gj a.1 a.2.1⟩
def fU(s:List UInt8)(prefix_:List UInt8):Option Bool:=
 bif decide ((s.length:Int)≥(prefix_.length:Int))then
 (slc s 0 (prefix_.length:Int)).bind λs1=>
 some (s1 == prefix_)
 else
 some false
def acP:Spec fam:=⟨[f8,f8],[gt],λa=>fU a.1 a.2.1⟩
def iP(s:List UInt8)(prefix_:List UInt8):Option Bool:=
 (fU s prefix_).bind λx=>
 some x
def acY:Spec fam:=⟨[f8,f8],[gt],λa=>iP a.1 a.2.1⟩
def fZ(v:View)(a:App):Option Bool:=
 (
 bif a.I4 == v.Ki then
  some true
 else
  (cat v.Ki ([46]:List UInt8)).bind λs=>
  (iP a.I4 s).bind λx=>
  some x).bind λbelow=>
 bif below then
 bif v.user == (-1)then
  some true
 else
  some (a.User == v.user)
 else
 some false
def ac7:Spec fam:=⟨[Qw,QP],[gt],λa=>fZ a.1 a.2.1⟩
def rX(v:View)(t:Vec×Int):Option ((Vec×Int) ⊕ Vec):=
 bif decide (t.2<(v.s.IW.length:Int))then
 (
  (idx v.s.IW t.2).bind λx=>
  (gj v x).bind λx1=>
  (
  bif x1.2 then
   bif x.I_ == v.label then
   (fZ v x1.1).bind λx2=>
   some x2
   else
   some false
  else
   some false).bind λq=>
  bif q then
  (cz t.1 x.Kj).bind λx3=>
  some x3.1
  else
  some t.1).bind λout=>
 some (.inl (out,I8 (t.2+1)))
 else
 some (.inr t.1)
def e_(v:View):Option Vec:=
 (loop (rX v) ((⟨0,0⟩:Vec),0)).bind λLG=>
 some LG
def adw:Spec fam:=⟨[Qw],[t7],λa=>e_ a.1⟩
def cU(s:GN)(Ki:List UInt8)(label:Int):Option Vec:=
 (e_ (⟨⟨⟨s.I6.I7,s.I6.IX⟩,s.Jb,s.IY,s.IW,s.Jj,s.Ji,s.Now,s.Jq,s.Seq⟩,Ki,label,(-1)⟩:View)).bind λx=>
 some x
def adX:Spec fam:=⟨[f9,f8,ge],[t7],λa=>cU a.1 a.2.1 a.2.2.1⟩
def eA(l:List Vec)(t:Vec×Int):Option ((Vec×Int) ⊕ Vec):=
 bif decide (t.2<(l.length:Int))then
 (idx l t.2).bind λx=>
 (cz t.1 x).bind λx1=>
 some (.inl (x1.1,I8 (t.2+1)))
 else
 some (.inr t.1)
def jE(l:List Vec):Option Vec:=
 (loop (eA l) ((⟨0,0⟩:Vec),0)).bind λout=>
 some out
def aem:Spec fam:=⟨[Qr],[t7],λa=>jE a.1⟩
def iK(s:GN)(label:Int)(t:List Vec×Int):Option ((List Vec×Int) ⊕ List Vec):=
 bif decide (t.2<(s.Jb.length:Int))then
 (
  (idx s.Jb t.2).bind λx=>
  (
  bif x.Up then
   some (x.I_ == label)
  else
   some false).bind λq=>
  bif q then
  (app 16 t.1 [x.Cap]).bind λl=>
  some l
  else
  some t.1).bind λl1=>
 some (.inl (l1,I8 (t.2+1)))
 else
 some (.inr t.1)
def em(s:GN)(label:Int):Option Vec:=
 (loop (iK s label) ([],0)).bind λl2=>
 (jE l2).bind λx1=>
 some x1
def aeQ:Spec fam:=⟨[f9,ge],[t7],λa=>em a.1 a.2.1⟩
def iD(x:Int)(y:Int):Option (Int×Int):=
 let w0:=IntKind.u64.wrap ((Pb .u64 x 4294967295)*(Pb .u64 y 4294967295))
 let t:=IntKind.u64.wrap ((IntKind.u64.wrap ((Md .u64 x 32)*(Pb .u64 y 4294967295)))+(Md .u64 w0 32))
 let w1:=IntKind.u64.wrap ((Pb .u64 t 4294967295)+(IntKind.u64.wrap ((Pb .u64 x 4294967295)*(Md .u64 y 32))))
 let hi:=IntKind.u64.wrap ((IntKind.u64.wrap ((IntKind.u64.wrap ((Md .u64 x 32)*(Md .u64 y 32)))+(Md .u64 t 32)))+(Md .u64 w1 32))
 some (hi,IntKind.u64.wrap (x*y))
def acU:Spec fam:=⟨[QG,QG],[QG,QG],λa=>iD a.1 a.2.1⟩
def va(x:Int):Option Int:=
 (
 bif decide (x≥4294967296)then
  some (Md .u64 x 32,32)
 else
  some (x,0)).bind λq=>
 (
 bif decide (q.1≥65536)then
  some (Md .u64 q.1 16,I8 (q.2+16))
 else
  some (q.1,q.2)).bind λq1=>
 (
 bif decide (q1.1≥256)then
  some (Md .u64 q1.1 8,I8 (q1.2+8))
 else
  some (q1.1,q1.2)).bind λq2=>
 (idx ([0,1,2,2,3,3,3,3,4,4,4,4,4,4,4,4,5,5,5,5,5,5,5,5,5,5,5,5,5,5,5,5,6,6,6,6,6,6,6,6,6,6,6,6,6,6,6,6,6,6,6,6,6,6,6,6,6,6,6,6,6,6,6,6,7,7,7,7,7,7,7,7,7,7,7,7,7,7,7,7,7,7,7,7,7,7,7,7,7,7,7,7,7,7,7,7,7,7,7,7,7,7,7,7,7,7,7,7,7,7,7,7,7,7,7,7,7,7,7,7,7,7,7,7,7,7,7,7,8,8,8,8,8,8,8,8,8,8,8,8,8,8,8,8,8,8,8,8,8,8,8,8,8,8,8,8,8,8,8,8,8,8,8,8,8,8,8,8,8,8,8,8,8,8,8,8,8,8,8,8,8,8,8,8,8,8,8,8,8,8,8,8,8,8,8,8,8,8,8,8,8,8,8,8,8,8,8,8,8,8,8,8,8,8,8,8,8,8,8,8,8,8,8,8,8,8,8,8,8,8,8,8,8,8,8,8,8,8,8,8,8,8,8,8,8,8,8,8,8,8,8,8,8,8,8,8]:List UInt8) (IntKind.u8.wrap q2.1)).bind λch=>
 let n:=I8 (q2.2+(I8 (ch.toNat:Int)))
 some n
def adQ:Spec fam:=⟨[QG],[ge],λa=>va a.1⟩
def kM(x:Int):Option Int:=
 (va x).bind λx1=>
 some (I8 (64 - x1))
def acO:Spec fam:=⟨[QG],[ge],λa=>kM a.1⟩
def xw(SA:Int)(yn0:Int)(un0:Int)(t1:Int×Int):Option ((Int×Int) ⊕ Int):=
 (
 bif decide (t1.2≥4294967296)then
  some true
 else
  some (decide ((IntKind.u64.wrap (t1.2*yn0))>(IntKind.u64.wrap ((IntKind.u64.wrap (4294967296*t1.1))+un0))))).bind λq2=>
 bif q2 then
 bif decide ((IntKind.u64.wrap (t1.1+SA))≥4294967296)then
  some (.inr (IntKind.u64.wrap (t1.2 - 1)))
 else
  some (.inl (IntKind.u64.wrap (t1.1+SA),IntKind.u64.wrap (t1.2 - 1)))
 else
 some (.inr t1.2)
def xy(SA:Int)(yn0:Int)(un1:Int)(t:Int×Int):Option ((Int×Int) ⊕ Int):=
 (
 bif decide (t.1≥4294967296)then
  some true
 else
  some (decide ((IntKind.u64.wrap (t.1*yn0))>(IntKind.u64.wrap ((IntKind.u64.wrap (4294967296*t.2))+un1))))).bind λq=>
 bif q then
 bif decide ((IntKind.u64.wrap (t.2+SA))≥4294967296)then
  some (.inr (IntKind.u64.wrap (t.1 - 1)))
 else
  some (.inl (IntKind.u64.wrap (t.1 - 1),IntKind.u64.wrap (t.2+SA)))
 else
 some (.inr t.1)
def qN(hi:Int)(lo:Int)(y:Int):Option (Int×Int):=
 bif y == 0 then
 none
 else
 bif decide (y≤hi)then
  none
 else
  bif hi == 0 then
  (nz y).bind λ_=>
  (nz y).bind λ_=>
  some (IntKind.u64.wrap (Int.tdiv lo y),Int.tmod lo y)
  else
  (kM y).bind λx=>
  (nn (IntKind.u64.wrap x)).bind λ_=>
  let SA:=Md .u64 (NW .u64 y (IntKind.u64.wrap x)) 32
  let yn0:=Pb .u64 (NW .u64 y (IntKind.u64.wrap x)) 4294967295
  (nn (IntKind.u64.wrap x)).bind λ_=>
  (nn (IntKind.u64.wrap (64 - (IntKind.u64.wrap x)))).bind λ_=>
  let WX:=orK .u64 (NW .u64 hi (IntKind.u64.wrap x)) (Md .u64 lo (IntKind.u64.wrap (64 - (IntKind.u64.wrap x))))
  (nn (IntKind.u64.wrap x)).bind λ_=>
  let un1:=Md .u64 (NW .u64 lo (IntKind.u64.wrap x)) 32
  let un0:=Pb .u64 (NW .u64 lo (IntKind.u64.wrap x)) 4294967295
  (nz SA).bind λ_=>
  let amq:=IntKind.u64.wrap (WX - (IntKind.u64.wrap ((IntKind.u64.wrap (Int.tdiv WX SA))*SA)))
  (loop (xy SA yn0 un1) (IntKind.u64.wrap (Int.tdiv WX SA),amq)).bind λq1=>
  let WY:=IntKind.u64.wrap ((IntKind.u64.wrap ((IntKind.u64.wrap (WX*4294967296))+un1)) - (IntKind.u64.wrap (q1*(NW .u64 y (IntKind.u64.wrap x)))))
  (nz SA).bind λ_=>
  let aga:=IntKind.u64.wrap (WY - (IntKind.u64.wrap ((IntKind.u64.wrap (Int.tdiv WY SA))*SA)))
  (loop (xw SA yn0 un0) (aga,IntKind.u64.wrap (Int.tdiv WY SA))).bind λq0=>
  (nn (IntKind.u64.wrap x)).bind λ_=>
  let quo:=IntKind.u64.wrap ((IntKind.u64.wrap (q1*4294967296))+q0)
  let rem:=Md .u64 (IntKind.u64.wrap ((IntKind.u64.wrap ((IntKind.u64.wrap (WY*4294967296))+un0)) - (IntKind.u64.wrap (q0*(NW .u64 y (IntKind.u64.wrap x)))))) (IntKind.u64.wrap x)
  some (quo,rem)
def acT:Spec fam:=⟨[QG,QG,QG],[QG,QG],λa=>qN a.1 a.2.1 a.2.2.1⟩
def md(n:Int)(bp:Int):Option Int:=
 (iD (IntKind.u64.wrap n) (IntKind.u64.wrap bp)).bind λx=>
 (qN x.1 x.2 10000).bind λx1=>
 some (I8 x1.1)
def ac4:Spec fam:=⟨[ge,ge],[ge],λa=>md a.1 a.2.1⟩
def kC(a:Vec)(bp:Int):Option (Vec×Int):=
 (
 (bu a).bind λx=>
 bif ! x then
  some true
 else
  bif decide (bp<0)then
  some true
  else
  some (decide (bp>1000000))).bind λq=>
 bif q then
 some ((⟨0,0⟩:Vec),1)
 else
 (md a.Mem bp).bind λx1=>
 (md a.IZ bp).bind λx2=>
 (ic (⟨x1,x2⟩:Vec)).bind λx3=>
 some (x3.1,x3.2)
def adl:Spec fam:=⟨[t7,ge],[t7,ge],λa=>kC a.1 a.2.1⟩
def BF(t:List UInt8×List (List UInt8)):Option ((List UInt8×List (List UInt8)) ⊕ List (List UInt8)):=
 bif ! (t.1 == ([]:List UInt8))then
 (app 16 t.2 [t.1]).bind λl=>
 (iu t.1).bind λx=>
 some (.inl (x.1,l))
 else
 some (.inr t.2)
def pS(Ki:List UInt8):Option (List (List UInt8)):=
 (loop BF (Ki,[])).bind λout=>
 some out
def adk:Spec fam:=⟨[f8],[t6],λa=>pS a.1⟩
def qT(s:GN)(label:Int)(part:(Jk fam [.st 1]→Option Int))(up:List (List UInt8))(t:Vec×Vec×Int):Option ((Vec×Vec×Int) ⊕ (Vec ⊕ (Vec×Vec))):=
 bif decide (t.2.2≥0)then
 (Ka t.2.2 up.length).bind λi1=>
 (up[i1]?).bind λx2=>
 (gc s.I6 x2).bind λx3=>
 (
  bif ! x3.2 then
  some true
  else
  bif decide (label<0)then
   some true
  else
   some (decide (label≥(x3.1.KU.length:Int)))).bind λq=>
 bif q then
  some (.inr (.inl (⟨0,0⟩:Vec)))
 else
  (Ka label x3.1.KU.length).bind λi2=>
  (x3.1.KU[i2]?).bind λx4=>
  (part (x4,())).bind λr=>
  (kC t.2.1 r).bind λx5=>
  some (.inl (t.1,x5.1,I8 (t.2.2 - 1)))
 else
 some (.inr (.inr (t.1,t.2.1)))
def kh(s:GN)(Ki:List UInt8)(label:Int)(part:(Jk fam [.st 1]→Option Int)):Option Vec:=
 (pS Ki).bind λup=>
 (gc s.I6 Ki).bind λx=>
 bif ! x.2 then
 some (⟨0,0⟩:Vec)
 else
 (em s label).bind λx1=>
 let i:=I8 ((up.length:Int) - 2)
 (loop (qT s label part up) ((⟨0,0⟩:Vec),x1,i)).bind λq0=>
 match q0 with
 | .inl q1=>
  some q1
 | .inr q2=>
  some q2.2
def ado:Spec fam:=⟨[f9,f8,ge,.fn [.st 1] (.int .i64)],[t7],λa=>kh a.1 a.2.1 a.2.2.1 a.2.2.2.1⟩
def ko(c:Cap):Option Int:=
 some c.Ls
def adn:Spec fam:=⟨[JQ],[ge],λa=>ko a.1⟩
def fG(s:GN)(Ki:List UInt8)(label:Int):Option Vec:=
 (kh s Ki label (λa'=>ko a'.1)).bind λx=>
 some x
def adG:Spec fam:=⟨[f9,f8,ge],[t7],λa=>fG a.1 a.2.1 a.2.2.1⟩
def fg(t:Attempt)(a:App)(x:Ask):Option Bool:=
 (cU t.s a.I4 t.n.I_).bind λx1=>
 (cz x1 x.Kj).bind λx2=>
 bif x2.2 == 0 then
 (fG t.s a.I4 t.n.I_).bind λx3=>
 (d9 x2.1 x3).bind λx4=>
 some x4
 else
 some false
def ad6:Spec fam:=⟨[.rp (.st 20),QP,Q3],[gt],λa=>fg a.1 a.2.1 a.2.2.1⟩
def lk(s:GN)(Ki:List UInt8)(label:Int)(user:Int):Option Vec:=
 bif user == (-1)then
 some (⟨0,0⟩:Vec)
 else
 (e_ (⟨⟨⟨s.I6.I7,s.I6.IX⟩,s.Jb,s.IY,s.IW,s.Jj,s.Ji,s.Now,s.Jq,s.Seq⟩,Ki,label,user⟩:View)).bind λx=>
 some x
def adF:Spec fam:=⟨[f9,f8,ge,ge],[t7],λa=>lk a.1 a.2.1 a.2.2.1 a.2.2.2.1⟩
def nr(s:GN)(Ki:List UInt8)(label:Int):Option Vec:=
 (gc s.I6 Ki).bind λx=>
 (fG s Ki label).bind λx1=>
 (kC x1 x.1.User).bind λx2=>
 some x2.1
def adE:Spec fam:=⟨[f9,f8,ge],[t7],λa=>nr a.1 a.2.1 a.2.2.1⟩
def eD(t:Attempt)(a:App):Option Bool:=
 (lk t.s a.I4 t.n.I_ a.User).bind λx=>
 (nr t.s a.I4 t.n.I_).bind λx1=>
 (d9 x x1).bind λx2=>
 some x2
def ad5:Spec fam:=⟨[.rp (.st 20),QP],[gt],λa=>eD a.1 a.2.1⟩
def eM(t:Attempt)(x:Ask):Option Bool:=
 (d9 x.Kj t.free).bind λx1=>
 some x1
def ad4:Spec fam:=⟨[.rp (.st 20),Q3],[gt],λa=>eM a.1 a.2.1⟩
def kQ(c:Cap):Option Int:=
 some c.Most
def ac3:Spec fam:=⟨[JQ],[ge],λa=>kQ a.1⟩
def m6(s:GN)(Ki:List UInt8)(label:Int):Option Vec:=
 (kh s Ki label (λa'=>kQ a'.1)).bind λx=>
 some x
def adj:Spec fam:=⟨[f9,f8,ge],[t7],λa=>m6 a.1 a.2.1 a.2.2.1⟩
def jp(s:GN)(label:Int)(t:List Vec×Int):Option ((List Vec×Int) ⊕ List Vec):=
 bif decide (t.2<(s.Ji.length:Int))then
 (
  (idx s.Ji t.2).bind λx=>
  (
  bif x.I_ == label then
   bif decide (x.From≤s.Now)then
   some (decide (x.Until>s.Now))
   else
   some false
  else
   some false).bind λq=>
  bif q then
  (app 16 t.1 [x.Need]).bind λl=>
  some l
  else
  some t.1).bind λl1=>
 some (.inl (l1,I8 (t.2+1)))
 else
 some (.inr t.1)
def nt(s:GN)(label:Int):Option Vec:=
 (loop (jp s label) ([],0)).bind λl2=>
 (jE l2).bind λx1=>
 some x1
def adi:Spec fam:=⟨[f9,ge],[t7],λa=>nt a.1 a.2.1⟩
def mP(s:GN)(label:Int)(size:Vec)(x:List (List UInt8))(t:Int):Option (Int ⊕ (Bool ⊕ Unit)):=
 bif decide (t<(x.length:Int))then
 (Ka t x.length).bind λi=>
 (x[i]?).bind λx1=>
 (cU s x1 label).bind λx2=>
 (cz x2 size).bind λx3=>
 (
  bif x3.2 != 0 then
  some true
  else
  (m6 s x1 label).bind λx4=>
  (d9 x3.1 x4).bind λx5=>
  some (! x5)).bind λq=>
 bif q then
  some (.inr (.inl false))
 else
  (em s label).bind λx6=>
  (nt s label).bind λx7=>
  (
  bif x1 == ([114,111,111,116]:List UInt8)then
   bif ! (((imax (I8 (x6.Mem - x7.Mem)) 0) == x6.Mem)&&((imax (I8 (x6.IZ - x7.IZ)) 0) == x6.IZ))then
   (d9 x3.1 (⟨imax (I8 (x6.Mem - x7.Mem)) 0,imax (I8 (x6.IZ - x7.IZ)) 0⟩:Vec)).bind λx8=>
   some (! x8)
   else
   some false
  else
   some false).bind λq1=>
  bif q1 then
  some (.inr (.inl false))
  else
  some (.inl (I8 (t+1)))
 else
 some (.inr (.inr ()))
def nq(s:GN)(Ki:List UInt8)(label:Int)(size:Vec):Option Bool:=
 (pS Ki).bind λx=>
 (loop (mP s label size x) 0).bind λq0=>
 match q0 with
 | .inl q2=>
 some q2
 | .inr _=>
 some true
def adD:Spec fam:=⟨[f9,f8,ge,t7],[gt],λa=>nq a.1 a.2.1 a.2.2.1 a.2.2.2.1⟩
def eI(t:Attempt)(a:App)(x:Ask):Option Bool:=
 (nq t.s a.I4 t.n.I_ x.Kj).bind λx1=>
 some x1
def ad3:Spec fam:=⟨[.rp (.st 20),QP,Q3],[gt],λa=>eI a.1 a.2.1 a.2.2.1⟩
def mO(s:List Slot)(i:Int)(j:Int):Option (List Slot):=del s i j
def ad2:Spec fam:=⟨[Q1,ge,ge],[Q1],λa=>mO a.1 a.2.1 a.2.2.1⟩
def wo(s:List App)(i:Int)(v:List App):Option (List App):=
 (Mj i (s.length:Int) s.length).bind λp=>
 bif(v.length:Int) == 0 then
 some s
 else
 bif i == (s.length:Int)then
  (app 200 s v).bind λl=>
  some l
 else
  none
def oy(s:List App)(i:Int)(v:List App):Option (List App):=ins s i v
def aoy:Hint:=.z
def ae8:Spec fam:=⟨[QR,ge,QR],[QR],λa=>oy a.1 a.2.1 a.2.2.1⟩
def Hm:Spec fam:=⟨[.v (.slice (.st 6)) [0],.v (.int .i64) [],.v (.slice (.st 6)) [0]],[.v (.slice (.st 6)) [0]],λa=>wo a.1 a.2.1 a.2.2.1⟩
def tx(s:GN)(a:App)(k:Int):Option (Int ⊕ Int):=
 (
 bif decide (k<(s.IY.length:Int))then
  (Ka k s.IY.length).bind λi2=>
  (s.IY[i2]?).bind λx1=>
  some (decide (x1.Id<a.Id))
 else
  some false).bind λq=>
 bif q then
 some (.inl (I8 (k+1)))
 else
 some (.inr k)
def nK(s:GN)(a:App):Option GN:=
 (jO s a.Id).bind λi=>
 bif decide (i≥0)then
 (Ka i s.IY.length).bind λi1=>
 (s.IY[i1]?).bind λx=>
 some (⟨⟨s.I6.I7,s.I6.IX⟩,s.Jb,List.set s.IY i1 a,s.IW,s.Jj,s.Ji,s.Now,s.Jq,s.Seq⟩:GN)
 else
 (loop (tx s a) 0).bind λk1=>
 (oy s.IY k1 [a]).bind λx2=>
 some (⟨⟨s.I6.I7,s.I6.IX⟩,s.Jb,x2,s.IW,s.Jj,s.Ji,s.Now,s.Jq,s.Seq⟩:GN)
def afQ:Spec fam:=⟨[QF,Qd],[QF],λa=>nK a.1 a.2.1⟩
def kU(s:GN)(a:App):Option GN:=
 (gw s).bind λx=>
 (ie a).bind λx1=>
 (nK x x1).bind λx2=>
 some x2
def afK:Spec fam:=⟨[f9,.ln (.st 6)],[QF],λa=>kU a.1 a.2.1⟩
def w_(a:Ask)(p:Int):Option Bool:=
 some (a.Jt == p)
def ac2:Spec fam:=⟨[Q3,.rp (.int .i64)],[gt],λa=>w_ a.1 a.2.1⟩
def pR(l:List Ask)(prio:Int):Option Int:=
 (jT l (λa'=>w_ a'.1 prio)).bind λx=>
 some x
def adh:Spec fam:=⟨[Q2,ge],[ge],λa=>pR a.1 a.2.1⟩
def ot(s:List Ask)(i:Int)(j:Int):Option (List Ask):=del s i j
def adg:Spec fam:=⟨[QC,ge,ge],[QC],λa=>ot a.1 a.2.1 a.2.2.1⟩
def oR(l:List Ask)(prio:Int):Option (List Ask×Bool):=
 (kY l).bind λout=>
 (pR out prio).bind λi=>
 bif decide (i<0)then
 some (out,false)
 else
 (Ka i out.length).bind λi1=>
 (out[i1]?).bind λx=>
 (Ka i (List.set out i1 (⟨x.Jt,x.I_,⟨x.Kj.Mem,x.Kj.IZ⟩,x.KC,x.Node,x.KF,0⟩:Ask)).length).bind λi2=>
 ((List.set out i1 (⟨x.Jt,x.I_,⟨x.Kj.Mem,x.Kj.IZ⟩,x.KC,x.Node,x.KF,0⟩:Ask))[i2]?).bind λx1=>
 (Ka i (List.set out i1 (⟨x.Jt,x.I_,⟨x.Kj.Mem,x.Kj.IZ⟩,x.KC,x.Node,x.KF,0⟩:Ask)).length).bind λi3=>
 ((List.set out i1 (⟨x.Jt,x.I_,⟨x.Kj.Mem,x.Kj.IZ⟩,x.KC,x.Node,x.KF,0⟩:Ask))[i3]?).bind λx2=>
 (
  (Ka i (List.set (List.set out i1 (⟨x.Jt,x.I_,⟨x.Kj.Mem,x.Kj.IZ⟩,x.KC,x.Node,x.KF,0⟩:Ask)) i3 (⟨x2.Jt,x2.I_,⟨x2.Kj.Mem,x2.Kj.IZ⟩,I8 (x1.KC - 1),x2.Node,x2.KF,x2.Nh⟩:Ask)).length).bind λi4=>
  ((List.set (List.set out i1 (⟨x.Jt,x.I_,⟨x.Kj.Mem,x.Kj.IZ⟩,x.KC,x.Node,x.KF,0⟩:Ask)) i3 (⟨x2.Jt,x2.I_,⟨x2.Kj.Mem,x2.Kj.IZ⟩,I8 (x1.KC - 1),x2.Node,x2.KF,x2.Nh⟩:Ask))[i4]?).bind λx3=>
  bif decide (x3.KC≤0)then
  (ot (List.set (List.set out i1 (⟨x.Jt,x.I_,⟨x.Kj.Mem,x.Kj.IZ⟩,x.KC,x.Node,x.KF,0⟩:Ask)) i3 (⟨x2.Jt,x2.I_,⟨x2.Kj.Mem,x2.Kj.IZ⟩,I8 (x1.KC - 1),x2.Node,x2.KF,x2.Nh⟩:Ask)) i (I8 (i+1))).bind λLG=>
  some LG
  else
  some (List.set (List.set out i1 (⟨x.Jt,x.I_,⟨x.Kj.Mem,x.Kj.IZ⟩,x.KC,x.Node,x.KF,0⟩:Ask)) i3 (⟨x2.Jt,x2.I_,⟨x2.Kj.Mem,x2.Kj.IZ⟩,I8 (x1.KC - 1),x2.Node,x2.KF,x2.Nh⟩:Ask))).bind λU_=>
 some (U_,true)
def adC:Spec fam:=⟨[Q2,ge],[QC,gt],λa=>oR a.1 a.2.1⟩
def uJ(s:List Cont)(i:Int)(v:List Cont):Option (List Cont):=
 (Mj i (s.length:Int) s.length).bind λp=>
 bif(v.length:Int) == 0 then
 some s
 else
 bif i == (s.length:Int)then
  (app 72 s v).bind λl=>
  some l
 else
  none
def mM(s:List Cont)(i:Int)(v:List Cont):Option (List Cont):=ins s i v
def aou:Hint:=.z
def adB:Spec fam:=⟨[QU,ge,QU],[QU],λa=>mM a.1 a.2.1 a.2.2.1⟩
def F5:Spec fam:=⟨[.v (.slice (.st 7)) [0],.v (.int .i64) [],.v (.slice (.st 7)) [0]],[.v (.slice (.st 7)) [0]],λa=>uJ a.1 a.2.1 a.2.2.1⟩
def iM(t:Attempt)(x2:GN)(k:Int):Option (Int ⊕ Int):=
 (
 bif decide (k<(x2.IW.length:Int))then
  (Ka k x2.IW.length).bind λi=>
  (x2.IW[i]?).bind λx3=>
  some (decide (x3.Id<(I8 ((NW .i64 t.s.Jq 20)+(I8 (t.s.Seq+1))))))
 else
  some false).bind λq=>
 bif q then
 some (.inl (I8 (k+1)))
 else
 some (.inr k)
def cv(t:Attempt)(a:App)(x:Ask):Option (Cont×Attempt):=
 (oR a.Ju x.Jt).bind λx1=>
 (
 bif a.GN == 1 then
  some (⟨a.Id,2,a.I4,a.User,a.Jt,⟨a.I5.Mem,a.I5.IZ⟩,[],t.s.Now,0,a.Ke,a.KE,a.Told,a.Lg⟩:App)
 else
  (app 8 a.Ke [I8 ((NW .i64 t.s.Jq 20)+(I8 (t.s.Seq+1)))]).bind λl=>
  some (⟨a.Id,a.GN,a.I4,a.User,a.Jt,⟨a.I5.Mem,a.I5.IZ⟩,x1.1,a.Kz,a.J6,l,a.KE,a.Told,a.Lg⟩:App)).bind λa1=>
 (kU (⟨⟨t.s.I6.I7,t.s.I6.IX⟩,t.s.Jb,t.s.IY,t.s.IW,t.s.Jj,t.s.Ji,t.s.Now,t.s.Jq,I8 (t.s.Seq+1)⟩:GN) a1).bind λx2=>
 (loop (iM t x2) 0).bind λk1=>
 (mM x2.IW k1 [(⟨I8 ((NW .i64 t.s.Jq 20)+(I8 (t.s.Seq+1))),a.Id,t.n.Id,⟨x.Kj.Mem,x.Kj.IZ⟩,x.Jt,x.I_,a.GN == 1,0⟩:Cont)]).bind λx4=>
 some ((⟨I8 ((NW .i64 t.s.Jq 20)+(I8 (t.s.Seq+1))),a.Id,t.n.Id,⟨x.Kj.Mem,x.Kj.IZ⟩,x.Jt,x.I_,a.GN == 1,0⟩:Cont),(⟨⟨⟨x2.I6.I7,x2.I6.IX⟩,x2.Jb,x2.IY,x4,x2.Jj,x2.Ji,x2.Now,x2.Jq,x2.Seq⟩,⟨t.n.Id,t.n.I_,t.n.KF,⟨t.n.Cap.Mem,t.n.Cap.IZ⟩,t.n.Kz,t.n.J6,t.n.Up⟩,⟨t.free.Mem,t.free.IZ⟩⟩:Attempt))
def ad1:Spec fam:=⟨[pp,Q7,Q3],[QI],λa=>cv a.1 a.2.1 a.2.2.1⟩
def eF(t:Attempt):Option (Int×Cont×Bool×Attempt):=
 (gA t.s.Jj (λa'=>jy a'.1 t)).bind λi=>
 bif decide (i<0)then
 some (0,(⟨0,0,0,⟨0,0⟩,0,0,false,0⟩:Cont),false,t)
 else
 (Ka i t.s.Jj.length).bind λi1=>
 (t.s.Jj[i1]?).bind λx=>
 (de t.s x.App).bind λx1=>
 (lN x1.1 x.Jt).bind λx2=>
 (
  bif x1.2 then
  (cf x1.1).bind λx3=>
  bif x3 then
   bif x2.2 then
   (my x2.1 t.n).bind λx4=>
   bif x4 then
    (dQ t x2.1).bind λx5=>
    bif x5 then
    (fg t x1.1 x2.1).bind λx6=>
    bif x6 then
     (eD t x1.1).bind λx7=>
     some x7
    else
     some false
    else
    some false
   else
    some false
   else
   some false
  else
   some false
  else
  some false).bind λstays=>
 (
  bif stays then
  (eM t x2.1).bind λx8=>
  bif x8 then
   (eI t x1.1 x2.1).bind λx9=>
   some (! x9)
  else
   some true
  else
  some false).bind λq=>
 bif q then
  some (3,(⟨0,0,0,⟨0,0⟩,0,0,false,0⟩:Cont),true,t)
 else
  (mO t.s.Jj i (I8 (i+1))).bind λx10=>
  bif ! stays then
  some (0,(⟨0,0,0,⟨0,0⟩,0,0,false,0⟩:Cont),false,(⟨⟨⟨t.s.I6.I7,t.s.I6.IX⟩,t.s.Jb,t.s.IY,t.s.IW,x10,t.s.Ji,t.s.Now,t.s.Jq,t.s.Seq⟩,⟨t.n.Id,t.n.I_,t.n.KF,⟨t.n.Cap.Mem,t.n.Cap.IZ⟩,t.n.Kz,t.n.J6,t.n.Up⟩,⟨t.free.Mem,t.free.IZ⟩⟩:Attempt))
  else
  (cv (⟨⟨⟨t.s.I6.I7,t.s.I6.IX⟩,t.s.Jb,t.s.IY,t.s.IW,x10,t.s.Ji,t.s.Now,t.s.Jq,t.s.Seq⟩,⟨t.n.Id,t.n.I_,t.n.KF,⟨t.n.Cap.Mem,t.n.Cap.IZ⟩,t.n.Kz,t.n.J6,t.n.Up⟩,⟨t.free.Mem,t.free.IZ⟩⟩:Attempt) x1.1 x2.1).bind λM_=>
  some (1,M_.1,true,M_.2)
def aeB:Spec fam:=⟨[pp],[ge,QI,gt],λa=>eF a.1⟩
def tH(s:List Load)(f:(Jk fam [.st 17,.st 17]→Option Int)):Option (List Load):=XG (F:=fam) (.st 17) f s
def ac1:Spec fam:=⟨[.row (.st 17) false,.fn [.st 17,.st 17] (.int .i64)],[],λa=>tH a.1 a.2.1⟩
def en(vals:List Int)(t:Int):Option (Int ⊕ (Int ⊕ Unit)):=
 bif decide (t<(vals.length:Int))then
 (idx vals t).bind λx=>
 bif x != 0 then
  some (.inr (.inl x))
 else
  some (.inl (I8 (t+1)))
 else
 some (.inr (.inr ()))
def gO(vals:List Int):Option Int:=
 (loop (en vals) 0).bind λq0=>
 match q0 with
 | .inl q=>
 some q
 | .inr _=>
 some 0
def adS:Spec fam:=⟨[QQ],[ge],λa=>gO a.1⟩
def dm(r:OG)(q:OG):Option Int:=
 (
 bif r.of == 0 then
  some (q.of == 0)
 else
  some false).bind λq1=>
 bif q1 then
 some 0
 else
 bif r.of == 0 then
  some 1
 else
  bif q.of == 0 then
  some (-1)
  else
  (iD r.n q.of).bind λx=>
  (iD q.n r.of).bind λx1=>
  (
   bif decide (x.1<x1.1)then
   some true
   else
   bif x.1 == x1.1 then
    some (decide (x.2<x1.2))
   else
    some false).bind λq2=>
  bif q2 then
   some (-1)
  else
   (
   bif x.1 == x1.1 then
    some (x.2 == x1.2)
   else
    some false).bind λq3=>
   bif q3 then
   some 0
   else
   some 1
def acM:Spec fam:=⟨[Qv,Qv],[ge],λa=>dm a.1 a.2.1⟩
def lH(a:Vec)(p:Vec)(get:(Jk fam [.st 0]→Option Int)):Option OG:=
 (get (a,())).bind λr=>
 (get (p,())).bind λr1=>
 bif r == 0 then
 some (⟨0,1⟩:OG)
 else
 some (⟨IntKind.u64.wrap r,IntKind.u64.wrap r1⟩:OG)
def acK:Spec fam:=⟨[t7,t7,.fn [.st 0] (.int .i64)],[Qv],λa=>lH a.1 a.2.1 a.2.2.1⟩
def kH(v:Vec):Option Int:=
 some v.Mem
def acJ:Spec fam:=⟨[t7],[ge],λa=>kH a.1⟩
def iy(v:Vec):Option Int:=
 some v.IZ
def acI:Spec fam:=⟨[t7],[ge],λa=>iy a.1⟩
def mr(a:Vec)(p:Vec):Option OG:=
 (lH a p (λa'=>kH a'.1)).bind λx=>
 (lH a p (λa'=>iy a'.1)).bind λx1=>
 (dm x x1).bind λx2=>
 bif decide (x2<0)then
 some x1
 else
 some x
def acN:Spec fam:=⟨[t7,t7],[Qv],λa=>mr a.1 a.2.1⟩
def ng(a:Vec)(p:Vec)(b:Vec)(q:Vec):Option Int:=
 (
 (bu a).bind λx=>
 bif ! x then
  some true
 else
  (bu p).bind λx1=>
  bif ! x1 then
  some true
  else
  (bu b).bind λx2=>
  bif ! x2 then
   some true
  else
   (bu q).bind λx3=>
   some (! x3)).bind λq1=>
 bif q1 then
 some 0
 else
 (mr a p).bind λx4=>
 (mr b q).bind λx5=>
 (dm x4 x5).bind λx6=>
 some x6
def acS:Spec fam:=⟨[t7,t7,t7,t7],[ge],λa=>ng a.1 a.2.1 a.2.2.1 a.2.2.2.1⟩
def fh(a:Load)(b:Load):Option Int:=
 (ng a.used a.least b.used b.least).bind λx=>
 (bZ a.Ki b.Ki).bind λx1=>
 (gO [x,x1]).bind λx2=>
 some x2
def ac0:Spec fam:=⟨[.v (.st 17) [],.v (.st 17) []],[ge],λa=>fh a.1 a.2.1⟩
def jr(x4:List Load)(t1:List (List UInt8)×Int):Option ((List (List UInt8)×Int) ⊕ List (List UInt8)):=
 bif decide (t1.2<(x4.length:Int))then
 (Ka t1.2 x4.length).bind λi1=>
 (x4[i1]?).bind λx5=>
 (Mj t1.2 (t1.1.length:Int) t1.1.length).bind λp=>
 some (.inl (LD t1.1 p.1 p.2 [x5.Ki],I8 (t1.2+1)))
 else
 some (.inr t1.1)
def js(s:GN)(label:Int)(x:List (List UInt8))(t:List Load×Int):Option ((List Load×Int) ⊕ List Load):=
 bif decide (t.2<(x.length:Int))then
 (Ka t.2 x.length).bind λi=>
 (x[i]?).bind λx1=>
 (cU s x1 label).bind λx2=>
 (fG s x1 label).bind λx3=>
 (app 48 t.1 [(⟨x1,⟨x2.Mem,x2.IZ⟩,⟨x3.Mem,x3.IZ⟩⟩:Load)]).bind λl=>
 some (.inl (l,I8 (t.2+1)))
 else
 some (.inr t.1)
def na(s:GN)(Ki:List UInt8)(label:Int):Option (List (List UInt8)):=
 (ii s.I6 Ki).bind λx=>
 (loop (js s label x) ([],0)).bind λl1=>
 (tH l1 (λa'=>fh a'.1 a'.2.1)).bind λx4=>
 (PV 16 (x4.length:Int) (x4.length:Int) []).bind λl2=>
 (loop (jr x4) (l2,0)).bind λout=>
 some out
def adf:Spec fam:=⟨[f9,f8,ge],[t6],λa=>na a.1 a.2.1 a.2.2.1⟩
def go(s:GN)(label:Int)(deep:Int)(self:GN→(List UInt8)→Int→Int→Option (List (List UInt8)))(kids:List (List UInt8))(t:List (List UInt8)×Int):Option ((List (List UInt8)×Int) ⊕ List (List UInt8)):=
 bif decide (t.2<(kids.length:Int))then
 (Ka t.2 kids.length).bind λi=>
 (kids[i]?).bind λx=>
 (self s x label (I8 (deep+1))).bind λx1=>
 (app 16 t.1 x1).bind λl=>
 some (.inl (l,I8 (t.2+1)))
 else
 some (.inr t.1)
def mN(self:GN→(List UInt8)→Int→Int→Option (List (List UInt8)))(s:GN)(Ki:List UInt8)(label:Int)(deep:Int):Option (List (List UInt8)):=
 (na s Ki label).bind λkids=>
 (
 bif(kids.length:Int) == 0 then
  some true
 else
  some (decide (deep>4))).bind λq=>
 bif q then
 some [Ki]
 else
 (loop (go s label deep self kids) ([],0)).bind λout=>
 some out
def eR:Nat→GN→(List UInt8)→Int→Int→Option (List (List UInt8))
 | 0=>λ_ _ _ _=>none
 | n+1=>mN (eR n)
def tE(a0:GN)(a1:List UInt8)(a2:Int)(a3:Int):Option (List (List UInt8)):=eR 64 a0 a1 a2 a3
def aot:Hint:=(JJ (.s .z (.s (.s (.j [17,18,19,20,21,22,23] [(0,[(23,gt)])] .z) .z) (JJ (.s (JJ ((JX [(10,t6),(28,ge)] [10,12,28] [(2,[(10,t6)])] .z))) .z)))))
def adA:Spec fam:=⟨[f9,f8,ge,ge],[t6],λa=>tE a.1 a.2.1 a.2.2.1 a.2.2.2.1⟩
def GH(n:Nat):Spec fam:=⟨[.v (.st 10) [],.v .str [],.v (.int .i64) [],.v (.int .i64) []],[.v (.slice (.str)) [0]],λa=>eR n a.1 a.2.1 a.2.2.1 a.2.2.2.1⟩
def nZ(s:GN)(label:Int):Option (List (List UInt8)):=
 (tE s ([114,111,111,116]:List UInt8) label 1).bind λx=>
 some x
def adZ:Spec fam:=⟨[f9,ge],[t6],λa=>nZ a.1 a.2.1⟩
def uY(a:Int)(cmp:(Jk fam [.st 6,.st 6]→Option Int))(t1:List App×Int):Option ((List App×Int) ⊕ List App):=
 (
 bif decide (t1.2>a)then
  (Ka t1.2 t1.1.length).bind λi=>
  (t1.1[i]?).bind λx=>
  (Ka (I8 (t1.2 - 1)) t1.1.length).bind λi1=>
  (t1.1[i1]?).bind λx1=>
  (cmp (x,x1,())).bind λr=>
  some (decide (r<0))
 else
  some false).bind λq=>
 bif q then
 (Ka (I8 (t1.2 - 1)) t1.1.length).bind λi2=>
 (t1.1[i2]?).bind λx2=>
 (Ka t1.2 t1.1.length).bind λi3=>
 (t1.1[i3]?).bind λx3=>
 (Ka t1.2 t1.1.length).bind λi4=>
 (t1.1[i4]?).bind λx4=>
 (Ka (I8 (t1.2 - 1)) (List.set t1.1 i4 x2).length).bind λi5=>
 ((List.set t1.1 i4 x2)[i5]?).bind λx5=>
 some (.inl (List.set (List.set t1.1 i4 x2) i5 x3,I8 (t1.2 - 1)))
 else
 some (.inr t1.1)
def uP(a:Int)(b:Int)(cmp:(Jk fam [.st 6,.st 6]→Option Int))(t:List App×Int):Option ((List App×Int) ⊕ List App):=
 bif decide (t.2<b)then
 (loop (uY a cmp) (t.1,t.2)).bind λMH=>
 some (.inl (MH,I8 (t.2+1)))
 else
 some (.inr t.1)
def jW(data:List App)(a:Int)(b:Int)(cmp:(Jk fam [.st 6,.st 6]→Option Int)):Option (List App):=
 (loop (uP a b cmp) (data,I8 (a+1))).bind λNz=>
 some Nz
def acR:Spec fam:=⟨[t8,ge,ge,.fn [.st 6,.st 6] (.int .i64)],[],λa=>jW a.1 a.2.1 a.2.2.1 a.2.2.2.1⟩
def uV(a:Int)(b:Int)(n:Int)(t:List App×Int):Option ((List App×Int) ⊕ List App):=
 bif decide (t.2<n)then
 (Ka (I8 (b+t.2)) t.1.length).bind λi=>
 (t.1[i]?).bind λx=>
 (Ka (I8 (a+t.2)) t.1.length).bind λi1=>
 (t.1[i1]?).bind λx1=>
 (Ka (I8 (a+t.2)) t.1.length).bind λi2=>
 (t.1[i2]?).bind λx2=>
 (Ka (I8 (b+t.2)) (List.set t.1 i2 x).length).bind λi3=>
 ((List.set t.1 i2 x)[i3]?).bind λx3=>
 some (.inl (List.set (List.set t.1 i2 x) i3 x1,I8 (t.2+1)))
 else
 some (.inr t.1)
def jZ(data:List App)(a:Int)(b:Int)(n:Int)(cmp:(Jk fam [.st 6,.st 6]→Option Int)):Option (List App):=
 (loop (uV a b n) (data,0)).bind λMH=>
 some MH
def acH:Spec fam:=⟨[t8,ge,ge,ge,.fn [.st 6,.st 6] (.int .i64)],[],λa=>jZ a.1 a.2.1 a.2.2.1 a.2.2.2.1 a.2.2.2.2.1⟩
def u3(m:Int)(cmp:(Jk fam [.st 6,.st 6]→Option Int))(t:List App×Int×Int):Option ((List App×Int×Int) ⊕ ((List App×Int))):=
 bif t.2.1 != t.2.2 then
 bif decide (t.2.1>t.2.2)then
  (jZ t.1 (I8 (m - t.2.1)) m t.2.2 cmp).bind λx=>
  let i:=I8 (t.2.1 - t.2.2)
  some (.inl (x,i,t.2.2))
 else
  (jZ t.1 (I8 (m - t.2.1)) (I8 ((I8 (m+t.2.2)) - t.2.1)) t.2.1 cmp).bind λx1=>
  let j:=I8 (t.2.2 - t.2.1)
  some (.inl (x1,t.2.1,j))
 else
 some (.inr (t.1,t.2.1))
def ri(data:List App)(a:Int)(m:Int)(b:Int)(cmp:(Jk fam [.st 6,.st 6]→Option Int)):Option (List App):=
 (loop (u3 m cmp) (data,I8 (m - a),I8 (b - m))).bind λq=>
 (jZ q.1 (I8 (m - q.2)) m q.2 cmp).bind λx2=>
 some x2
def acL:Spec fam:=⟨[t8,ge,ge,ge,.fn [.st 6,.st 6] (.int .i64)],[],λa=>ri a.1 a.2.1 a.2.2.1 a.2.2.2.1 a.2.2.2.2.1⟩
def tk(data:List App)(cmp:(Jk fam [.st 6,.st 6]→Option Int))(p:Int)(t4:Int×Int):Option ((Int×Int) ⊕ Int):=
 bif decide (t4.1<t4.2)then
 let c:=I8 (Md .u64 (IntKind.u64.wrap (I8 (t4.1+t4.2))) 1)
 (Ka (I8 (p - c)) data.length).bind λi14=>
 (data[i14]?).bind λOo=>
 (Ka c data.length).bind λi15=>
 (data[i15]?).bind λPO=>
 (cmp (Oo,PO,())).bind λr2=>
 bif ! (decide (r2<0))then
  some (.inl (I8 (c+1),t4.2))
 else
  some (.inl (t4.1,c))
 else
 some (.inr t4.1)
def tv(i9:Int)(t3:List App×Int):Option ((List App×Int) ⊕ List App):=
 bif decide (t3.2>i9)then
 (Ka (I8 (t3.2 - 1)) t3.1.length).bind λi10=>
 (t3.1[i10]?).bind λx8=>
 (Ka t3.2 t3.1.length).bind λi11=>
 (t3.1[i11]?).bind λx9=>
 (Ka t3.2 t3.1.length).bind λi12=>
 (t3.1[i12]?).bind λx10=>
 (Ka (I8 (t3.2 - 1)) (List.set t3.1 i12 x8).length).bind λi13=>
 ((List.set t3.1 i12 x8)[i13]?).bind λM_=>
 some (.inl (List.set (List.set t3.1 i12 x8) i13 x9,I8 (t3.2 - 1)))
 else
 some (.inr t3.1)
def tw(data:List App)(m:Int)(cmp:(Jk fam [.st 6,.st 6]→Option Int))(t2:Int×Int):Option ((Int×Int) ⊕ Int):=
 bif decide (t2.1<t2.2)then
 let h1:=I8 (Md .u64 (IntKind.u64.wrap (I8 (t2.1+t2.2))) 1)
 (Ka m data.length).bind λi7=>
 (data[i7]?).bind λx6=>
 (Ka h1 data.length).bind λi8=>
 (data[i8]?).bind λx7=>
 (cmp (x6,x7,())).bind λr1=>
 bif ! (decide (r1<0))then
  some (.inl (I8 (h1+1),t2.2))
 else
  some (.inl (t2.1,h1))
 else
 some (.inr t2.1)
def th(i2:Int)(t1:List App×Int):Option ((List App×Int) ⊕ List App):=
 bif decide (t1.2<(I8 (i2 - 1)))then
 (Ka (I8 (t1.2+1)) t1.1.length).bind λi3=>
 (t1.1[i3]?).bind λx2=>
 (Ka t1.2 t1.1.length).bind λi4=>
 (t1.1[i4]?).bind λx3=>
 (Ka t1.2 t1.1.length).bind λi5=>
 (t1.1[i5]?).bind λx4=>
 (Ka (I8 (t1.2+1)) (List.set t1.1 i5 x2).length).bind λi6=>
 ((List.set t1.1 i5 x2)[i6]?).bind λx5=>
 some (.inl (List.set (List.set t1.1 i5 x2) i6 x3,I8 (t1.2+1)))
 else
 some (.inr t1.1)
def tc(data:List App)(a:Int)(cmp:(Jk fam [.st 6,.st 6]→Option Int))(t:Int×Int):Option ((Int×Int) ⊕ Int):=
 bif decide (t.1<t.2)then
 let h:=I8 (Md .u64 (IntKind.u64.wrap (I8 (t.1+t.2))) 1)
 (Ka h data.length).bind λi=>
 (data[i]?).bind λx=>
 (Ka a data.length).bind λi1=>
 (data[i1]?).bind λx1=>
 (cmp (x,x1,())).bind λr=>
 bif decide (r<0)then
  some (.inl (I8 (h+1),t.2))
 else
  some (.inl (t.1,h))
 else
 some (.inr t.1)
def wt(self:(List App)→Int→Int→Int→((Jk fam [.st 6,.st 6]→Option Int))→Option (List App))(data:List App)(a:Int)(m:Int)(b:Int)(cmp:(Jk fam [.st 6,.st 6]→Option Int)):Option (List App):=
 bif(I8 (m - a)) == 1 then
 (loop (tc data a cmp) (m,b)).bind λi2=>
 (loop (th i2) (data,a)).bind λMH=>
 some MH
 else
 bif(I8 (b - m)) == 1 then
  (loop (tw data m cmp) (a,m)).bind λi9=>
  (loop (tv i9) (data,m)).bind λNz=>
  some Nz
 else
  let mid:=I8 (Md .u64 (IntKind.u64.wrap (I8 (a+b))) 1)
  (
  bif decide (m>mid)then
   let start:=I8 ((I8 (mid+m)) - b)
   some (start,mid)
  else
   some (a,m)).bind λq=>
  let p:=I8 ((I8 (mid+m)) - 1)
  (loop (tk data cmp p) (q.1,q.2)).bind λL9=>
  let end_:=I8 ((I8 (mid+m)) - L9)
  (
  (
   bif decide (L9<m)then
   some (decide (m<end_))
   else
   some false).bind λq1=>
  bif q1 then
   (ri data L9 m end_ cmp).bind λN_=>
   some N_
  else
   some data).bind λSr=>
  (
  (
   bif decide (a<L9)then
   some (decide (L9<mid))
   else
   some false).bind λq2=>
  bif q2 then
   (self Sr a L9 mid cmp).bind λSH=>
   some SH
  else
   some Sr).bind λSq=>
  (
  bif decide (mid<end_)then
   some (decide (end_<b))
  else
   some false).bind λq3=>
  bif q3 then
  (self Sq mid end_ b cmp).bind λUM=>
  some UM
  else
  some Sq
def lz:Nat→(List App)→Int→Int→Int→((Jk fam [.st 6,.st 6]→Option Int))→Option (List App)
 | 0=>λ_ _ _ _ _=>none
 | n+1=>wt (lz n)
def oD(a0:List App)(a1:Int)(a2:Int)(a3:Int)(a4:(Jk fam [.st 6,.st 6]→Option Int)):Option (List App):=lz 64 a0 a1 a2 a3 a4
def aoq:Hint:=(.s (JJ (.c (JJ (.s .z (.s JI (.s (JJ ((JX [(0,t8),(13,ge)] [0,13] [(4,[(0,t8)])] .z))) .z)))) .z)) (.s (JJ (.c (JJ (.s .z (.s JL (.s (JJ ((JX [(0,t8),(17,ge)] [0,17] [(8,[(0,t8)])] .z))) .z)))) .z)) (JJ (.s .z (JJ (.s JP (JJ (.s JH (JJ (.s (.j [0,185] [(0,[(0,t8)])] JR) (.s (.j [0,199] [(0,[(0,t8)])] JS) JT)))))))))))
def acQ:Spec fam:=⟨[t8,ge,ge,ge,.fn [.st 6,.st 6] (.int .i64)],[],λa=>oD a.1 a.2.1 a.2.2.1 a.2.2.2.1 a.2.2.2.2.1⟩
end
end Go.Fx.D
