/-
  The functions of the program that this law reaches, as functions over plain data (printed by a program). Conditions: none.
-/
import Derived.Test.YteodpoelbdakgaaGreatD0
namespace Go.Fx.D
open Go Go.Fx Go.Proofs
set_option linter.unusedVariables false
noncomputable section
def fx (s : State) (id_ : Int) (t : List Plan × Int) : Option ((List Plan × Int) ⊕ List Plan) :=
 bif decide (t.2 < (s.Plans.length : Int)) then
 (
  (idx s.Plans t.2).bind fun x =>
  bif x.Id != id_ then
  (idx s.Plans t.2).bind fun x1 =>
  (app 48 t.1 [x1]).bind fun l =>
  some l
  else
  some t.1).bind fun l1 =>
 some (.inl (l1,w64 (t.2 + 1)))
 else
 some (.inr t.1)
def iU (s : State) (id_ : Int) : Option (State × Int) :=
 (loop (fx s id_) ([],0)).bind fun l2 =>
 bif (l2.length : Int) == (s.Plans.length : Int) then
 some (s,2)
 else
 some ((⟨⟨s.Conf.Labels,s.Conf.Queues⟩,s.Nodes,s.Apps,s.Conts,s.Slots,l2,s.Now,s.Epoch,s.Seq⟩ : State),0)
def h131 : Hint:=(.s .z (.s .z (.s (.s .z (.b (.l [(6,.v (.slice (.st 9)) [0]),(7,.v (.int .i64) [])] [6,7] [(2,[(6,.v (.slice (.st 9)) [0])])] (.s .z (.s (.j [6] [(0,[(6,.v (.slice (.st 9)) [0])])] .z) .z))))) .z)))
def sp131 : Spec fam:=⟨[.v (.st 10) [],.v (.int .i64) []],[.v (.st 10) [],.v (.int .i64) []],fun a => iU a.1 a.2.1⟩
def fg (s : State) (x : Input) : Option (State × Output) :=
 bif x.Kind == 1 then
 (gJ s x.Text).bind fun x1 =>
 some (x1.1,x1.2)
 else
 bif x.Kind == 2 then
  (bm s x.Node).bind fun x2 =>
  some (x2.1,(⟨x2.2,[],[],[],0⟩ : Output))
 else
  bif x.Kind == 3 then
  (ja s x).bind fun x3 =>
  some (x3.1,x3.2)
  else
  bif x.Kind == 4 then
   (bw s x.App).bind fun x4 =>
   some (x4.1,(⟨x4.2,[],[],[],0⟩ : Output))
  else
   bif x.Kind == 5 then
   (gZ s x).bind fun x5 =>
   some (x5.1,x5.2)
   else
   bif x.Kind == 6 then
    (gu s x.Id 3).bind fun x6 =>
    some (x6.1,x6.2)
   else
    bif x.Kind == 7 then
    (gu s x.Id 4).bind fun x7 =>
    some (x7.1,x7.2)
    else
    bif x.Kind == 8 then
     (iS s x.N).bind fun x8 =>
     some (x8.1,x8.2)
    else
     bif x.Kind == 9 then
     (ju s x.Plan x.N).bind fun x9 =>
     some (x9.1,(⟨x9.2.2,[],[],[],x9.2.1⟩ : Output))
     else
     bif x.Kind == 10 then
      (iU s x.Id).bind fun x10 =>
      some (x10.1,(⟨x10.2,[],[],[],0⟩ : Output))
     else
      bif x.Kind == 11 then
      bif decide (s.Epoch ≥ 1048576) then
       (aJ s 11).bind fun x11 =>
       some (x11.1,x11.2)
      else
       some ((⟨⟨s.Conf.Labels,s.Conf.Queues⟩,s.Nodes,s.Apps,s.Conts,s.Slots,s.Plans,s.Now,w64 (s.Epoch + 1),0⟩ : State),(⟨0,[],[],[],0⟩ : Output))
      else
      (aJ s 3).bind fun x12 =>
      some (x12.1,x12.2)
def h60 : Hint:=.z
def sp60 : Spec fam:=⟨[.v (.st 10) [],.v (.st 15) []],[.v (.st 10) [],.v (.st 13) [1,2,3]],fun a => fg a.1 a.2.1⟩
def co (self : Int → Option (List UInt8)) (n : Int) : Option (List UInt8) :=
 bif decide (n < 0) then
 bif n == (-9223372036854775808) then
  some ([45,57,50,50,51,51,55,50,48,51,54,56,53,52,55,55,53,56,48,56] : List UInt8)
 else
  (self (w64 (0 - n))).bind fun x =>
  (cat ([45] : List UInt8) x).bind fun s =>
  some s
 else
 bif decide (n ≥ 10) then
  (self (w64 (Int.tdiv n 10))).bind fun x1 =>
  (self (Int.tmod n 10)).bind fun x2 =>
  (cat x1 x2).bind fun s1 =>
  some s1
 else
  some (List.map toB [IntKind.u8.wrap (w64 (48 + n))])
def bA : Nat → Int → Option (List UInt8)
 | 0 => fun _ => none
 | n + 1 => co (bA n)
def bW (a0 : Int) : Option (List UInt8):=bA 64 a0
def h133 : Hint:=.z
def sp133 : Spec fam:=⟨[.v (.int .i64) []],[.v .str []],fun a => bW a.1⟩
def EV (n : Nat) : Spec fam:=⟨[.v (.int .i64) []],[.v .str []],fun a => bA n a.1⟩
def gX (x1 : Queue) (t2 : List UInt8 × Int) : Option ((List UInt8 × Int) ⊕ List UInt8) :=
 bif decide (t2.2 < (x1.Caps.length : Int)) then
 (cat t2.1 ([32] : List UInt8)).bind fun s7 =>
 (idx x1.Caps t2.2).bind fun x3 =>
 (bW x3.Least).bind fun x4 =>
 (cat s7 x4).bind fun s8 =>
 (cat s8 ([47] : List UInt8)).bind fun s9 =>
 (idx x1.Caps t2.2).bind fun x5 =>
 (bW x5.Most).bind fun x6 =>
 (cat s9 x6).bind fun s10 =>
 some (.inl (s10,w64 (t2.2 + 1)))
 else
 some (.inr t2.1)
def gA (c : Conf) (t1 : List UInt8 × Int) : Option ((List UInt8 × Int) ⊕ List UInt8) :=
 bif decide (t1.2 < (c.Queues.length : Int)) then
 (idx c.Queues t1.2).bind fun x1 =>
 (cat t1.1 ([113,117,101,117,101,32] : List UInt8)).bind fun s3 =>
 (cat s3 x1.Path).bind fun s4 =>
 (cat s4 ([32] : List UInt8)).bind fun s5 =>
 (bW x1.User).bind fun x2 =>
 (cat s5 x2).bind fun s6 =>
 (loop (gX x1) (s6,0)).bind fun out1 =>
 (cat out1 ([10] : List UInt8)).bind fun s11 =>
 some (.inl (s11,w64 (t1.2 + 1)))
 else
 some (.inr t1.1)
def mQ (c : Conf) (t : List UInt8 × Int) : Option ((List UInt8 × Int) ⊕ List UInt8) :=
 bif decide (t.2 < (c.Labels.length : Int)) then
 (cat t.1 ([32] : List UInt8)).bind fun s =>
 (idx c.Labels t.2).bind fun x =>
 (cat s x).bind fun s1 =>
 some (.inl (s1,w64 (t.2 + 1)))
 else
 some (.inr t.1)
def gy (c : Conf) : Option (List UInt8) :=
 (loop (mQ c) (([108,97,98,101,108,115] : List UInt8),1)).bind fun out =>
 (cat out ([10] : List UInt8)).bind fun s2 =>
 (loop (gA c) (s2,0)).bind fun out2 =>
 some out2
def h61 : Hint:=(.s .z (.s .z (.s (.s .z (.b (.l [(3,.v .str []),(4,.v (.int .i64) [])] [3,4] [(2,[(3,.v .str [])])] .z))) (.s .z (.s (.s .z (.b (.l [(3,.v .str []),(5,.v (.int .i64) [])] [3,5,6,7] [(4,[(3,.v .str [])])] (.s .z (.s (.b (.s .z (.s .z (.s (.s .z (.b (.l [(3,.v .str []),(7,.v (.int .i64) [])] [3,7] [(6,[(3,.v .str [])])] .z))) .z)))) .z))))) .z)))))
def sp61 : Spec fam:=⟨[.v (.st 3) []],[.v .str []],fun a => gy a.1⟩
def aV (at_ : Int) (n : Int) : Option Int :=
 (nz n).bind fun _ =>
 (
 bif decide ((Int.tmod at_ n) < 0) then
  let k:=w64 ((Int.tmod at_ n) + n)
  some k
 else
  some (Int.tmod at_ n)).bind fun k1 =>
 some k1
def h134 : Hint:=(.s .z (.s .z (.s (.j [5] [(0,[(5,.v (.int .i64) [])])] .z) .z)))
def sp134 : Spec fam:=⟨[.v (.int .i64) [],.v (.int .i64) []],[.v (.int .i64) []],fun a => aV a.1 a.2.1⟩
def b9 (ns : List Int) (i : Int) : Option Int :=
 bif (ns.length : Int) == 0 then
 some i
 else
 (nz (ns.length : Int)).bind fun _ =>
 (idx ns (Int.tmod i (ns.length : Int))).bind fun x =>
 some x
def h136 : Hint:=.z
def sp136 : Spec fam:=⟨[.v (.slice (.int .i64)) [],.v (.int .i64) []],[.v (.int .i64) []],fun a => b9 a.1 a.2.1⟩
def dj (kids : List (List UInt8)) (t3 : Conf × Int) (t4 : Conf × Int × Int) (n : Int) (x17 : Int) (t5 : Conf × Int) : Option ((Conf × Int) ⊕ Conf) :=
 bif decide (t5.2 < (t5.1.Queues.length : Int)) then
 (
  (inb t5.2 t5.1.Queues.length).bind fun i3 =>
  (t5.1.Queues[i3]?).bind fun x18 =>
  (inb t4.2.2 kids.length).bind fun i4 =>
  (kids[i4]?).bind fun x19 =>
  bif x18.Path == x19 then
  (inb t5.2 t5.1.Queues.length).bind fun i5 =>
  (t5.1.Queues[i5]?).bind fun x20 =>
  (t5.1.Queues[i5]?).bind fun x21 =>
  (inb t3.2 x21.Caps.length).bind fun i6 =>
  (t5.1.Queues[i5]?).bind fun x22 =>
  (x22.Caps[i6]?).bind fun y =>
  some (⟨t5.1.Labels,List.set t5.1.Queues i5 (⟨x22.Path,List.set x22.Caps i6 (⟨n,x17⟩ : Cap),x22.User⟩ : Queue)⟩ : Conf)
  else
  some t5.1).bind fun c1 =>
 some (.inl (c1,w64 (t5.2 + 1)))
 else
 some (.inr t5.1)
def di (ns : List Int) (t2 : Conf × Int) (kids : List (List UInt8)) (t3 : Conf × Int) (t4 : Conf × Int × Int) : Option ((Conf × Int × Int) ⊕ Conf) :=
 bif decide (t4.2.2 < (kids.length : Int)) then
 (
  bif decide (t4.2.2 < (w64 ((kids.length : Int) - 1))) then
  (b9 ns (w64 ((w64 (t2.2 + t4.2.2)) + t3.2))).bind fun x8 =>
  (aV x8 (w64 (t4.2.1 + 1))).bind fun x9 =>
  (b9 ns (w64 ((w64 (t2.2 * t4.2.2)) + t3.2))).bind fun x10 =>
  (aV x10 4).bind fun x11 =>
  (inb x11 [0,w64 (Int.tdiv t4.2.1 2),t4.2.1,x9].length).bind fun i1 =>
  ([0,w64 (Int.tdiv t4.2.1 2),t4.2.1,x9][i1]?).bind fun x12 =>
  some x12
  else
  some t4.2.1).bind fun n =>
 (b9 ns (w64 (t4.2.2 + t3.2))).bind fun x13 =>
 (aV x13 (w64 ((w64 (10000 - n)) + 1))).bind fun x14 =>
 (b9 ns (w64 (t2.2 + (w64 (2 * t4.2.2))))).bind fun x15 =>
 (aV x15 3).bind fun x16 =>
 (inb x16 [10000,n,w64 (n + x14)].length).bind fun i2 =>
 ([10000,n,w64 (n + x14)][i2]?).bind fun x17 =>
 (loop (dj kids t3 t4 n x17) (t4.1,0)).bind fun c2 =>
 some (.inl (c2,w64 (t4.2.1 - n),w64 (t4.2.2 + 1)))
 else
 some (.inr t4.1)
def gz (ns : List Int) (t2 : Conf × Int) (kids : List (List UInt8)) (t3 : Conf × Int) : Option ((Conf × Int) ⊕ Conf) :=
 bif decide (t3.2 < (t3.1.Labels.length : Int)) then
 (loop (di ns t2 kids t3) (t3.1,10000,0)).bind fun c3 =>
 some (.inl (c3,w64 (t3.2 + 1)))
 else
 some (.inr t3.1)
def dl (ns : List Int) (x2 : List (List UInt8)) (t2 : Conf × Int) : Option ((Conf × Int) ⊕ Conf) :=
 bif decide (t2.2 < (x2.length : Int)) then
 (idx x2 t2.2).bind fun x7 =>
 (bC t2.1 x7).bind fun kids =>
 (loop (gz ns t2 kids) (t2.1,0)).bind fun c4 =>
 some (.inl (c4,w64 (t2.2 + 1)))
 else
 some (.inr t2.1)
def gM (t : Conf × Int) (t1 : Queue × Int) : Option ((Queue × Int) ⊕ Queue) :=
 bif decide (t1.2 < (t.1.Labels.length : Int)) then
 (app 16 t1.1.Caps [(⟨10000,10000⟩ : Cap)]).bind fun l =>
 some (.inl ((⟨t1.1.Path,l,t1.1.User⟩ : Queue),w64 (t1.2 + 1)))
 else
 some (.inr t1.1)
def dn (ns : List Int) (x2 : List (List UInt8)) (t : Conf × Int) : Option ((Conf × Int) ⊕ Conf) :=
 bif decide (t.2 < (x2.length : Int)) then
 (idx x2 t.2).bind fun x3 =>
 (
  (
  bif decide (t.2 < (ns.length : Int)) then
   (idx ns t.2).bind fun x4 =>
   some ((Int.tmod x4 3) == 0)
  else
   some false).bind fun q =>
  bif q then
  (idx ns t.2).bind fun x5 =>
  (aV x5 20000).bind fun x6 =>
  some (⟨x3,[],w64 (1 + x6)⟩ : Queue)
  else
  some (⟨x3,[],1000000⟩ : Queue)).bind fun q1 =>
 (loop (gM t) (q1,0)).bind fun q2 =>
 (app 48 t.1.Queues [q2]).bind fun l1 =>
 some (.inl ((⟨t.1.Labels,l1⟩ : Conf),w64 (t.2 + 1)))
 else
 some (.inr t.1)
def gm (shape : Int) (ns : List Int) : Option Conf :=
 (aV (w64 (Int.tdiv shape 5)) 2).bind fun x =>
 (inS 0 (w64 (1 + x)) [([] : List UInt8),([103,112,117] : List UInt8)].length).bind fun p =>
 (aV shape 5).bind fun x1 =>
 (inb x1 [[([114,111,111,116] : List UInt8)],[([114,111,111,116] : List UInt8),([114,111,111,116,46,97] : List UInt8),([114,111,111,116,46,98] : List UInt8)],[([114,111,111,116] : List UInt8),([114,111,111,116,46,97] : List UInt8),([114,111,111,116,46,97,46,120] : List UInt8),([114,111,111,116,46,97,46,121] : List UInt8),([114,111,111,116,46,98] : List UInt8)],[([114,111,111,116] : List UInt8),([114,111,111,116,46,97] : List UInt8),([114,111,111,116,46,98] : List UInt8),([114,111,111,116,46,98,46,120] : List UInt8),([114,111,111,116,46,98,46,120,46,112] : List UInt8),([114,111,111,116,46,98,46,120,46,113] : List UInt8),([114,111,111,116,46,99] : List UInt8)],[([114,111,111,116] : List UInt8),([114,111,111,116,46,97] : List UInt8)]].length).bind fun i =>
 ([[([114,111,111,116] : List UInt8)],[([114,111,111,116] : List UInt8),([114,111,111,116,46,97] : List UInt8),([114,111,111,116,46,98] : List UInt8)],[([114,111,111,116] : List UInt8),([114,111,111,116,46,97] : List UInt8),([114,111,111,116,46,97,46,120] : List UInt8),([114,111,111,116,46,97,46,121] : List UInt8),([114,111,111,116,46,98] : List UInt8)],[([114,111,111,116] : List UInt8),([114,111,111,116,46,97] : List UInt8),([114,111,111,116,46,98] : List UInt8),([114,111,111,116,46,98,46,120] : List UInt8),([114,111,111,116,46,98,46,120,46,112] : List UInt8),([114,111,111,116,46,98,46,120,46,113] : List UInt8),([114,111,111,116,46,99] : List UInt8)],[([114,111,111,116] : List UInt8),([114,111,111,116,46,97] : List UInt8)]][i]?).bind fun x2 =>
 (loop (dn ns x2) ((⟨sub [([] : List UInt8),([103,112,117] : List UInt8)] p.1 p.2,[]⟩ : Conf),0)).bind fun c =>
 (loop (dl ns x2) (c,0)).bind fun c5 =>
 some c5
def h62 : Hint:=(.s .z (.s .z (.s .z (.s .z (.s (.s .z (.b (.l [(6,.box (.st 3) [1001]),(8,.v (.int .i64) [])] [6,8,9,10,59] [(2,[(6,.box (.st 3) [1001])])] (.s .z (.s (.b (.s .z (.s (.j [9,59] [(0,[(9,.box (.st 2) [1])])] (.s (.j [] [(0,[(59,.v .bool [])])] .z) .z)) (.s (.s .z (.b (.l [(9,.box (.st 2) [1]),(10,.v (.int .i64) [])] [9,10] [(4,[(9,.box (.st 2) [1])])] .z))) .z)))) .z))))) (.s (.s .z (.b (.l [(6,.box (.st 3) [1001]),(11,.v (.int .i64) [])] [6,11,12,13,14,15,16,17,18] [(6,[(6,.box (.st 3) [1001])])] (.s .z (.s (.b (.s .z (.s .z (.b (.l [(6,.box (.st 3) [1001]),(13,.v (.int .i64) [])] [6,13,14,15,16,17,18] [(8,[(6,.box (.st 3) [1001])])] (.s .z (.s (.b (.s .z (.s .z (.b (.l [(6,.box (.st 3) [1001]),(14,.v (.int .i64) []),(15,.v (.int .i64) [])] [6,14,15,16,17,18] [(10,[(6,.box (.st 3) [1001])])] (.s .z (.s (.b (.s .z (.s (.j [16] [(0,[(16,.v (.int .i64) [])])] .z) (.s .z (.s .z (.s .z (.b (.l [(6,.box (.st 3) [1001]),(18,.v (.int .i64) [])] [6,18] [(12,[(6,.box (.st 3) [1001])])] (.s .z (.s (.j [6] [(0,[(6,.box (.st 3) [1001])])] .z) .z)))))))))) .z))))))) .z))))))) .z))))) .z))))))
def sp62 : Spec fam:=⟨[.v (.int .i64) [],.v (.slice (.int .i64)) []],[.v (.st 3) [1001]],fun a => gm a.1 a.2.1⟩
def eV (c : Conf) (t : List (List UInt8) × Int) : Option ((List (List UInt8) × Int) ⊕ List (List UInt8)) :=
 bif decide (t.2 < (c.Queues.length : Int)) then
 (
  (idx c.Queues t.2).bind fun x =>
  (aW c x.Path).bind fun x1 =>
  bif x1 then
  (idx c.Queues t.2).bind fun x2 =>
  (app 16 t.1 [x2.Path]).bind fun l =>
  some l
  else
  some t.1).bind fun l1 =>
 some (.inl (l1,w64 (t.2 + 1)))
 else
 some (.inr t.1)
def iw (c : Conf) : Option (List (List UInt8)) :=
 (loop (eV c) ([],0)).bind fun l2 =>
 some l2
def h18 : Hint:=(.s .z (.s .z (.s (.s .z (.b (.l [(3,.v (.slice (.str)) [0]),(4,.v (.int .i64) [])] [3,4] [(2,[(3,.v (.slice (.str)) [0])])] (.s .z (.s (.j [3] [(0,[(3,.v (.slice (.str)) [0])])] .z) .z))))) .z)))
def sp18 : Spec fam:=⟨[.v (.st 3) []],[.v (.slice (.str)) [0]],fun a => iw a.1⟩
def ar (at_ : Int) (n : Int) : Option Int :=
 (nz n).bind fun _ =>
 (
 bif decide ((Int.tmod at_ n) < 0) then
  let k:=w64 ((Int.tmod at_ n) + n)
  some k
 else
  some (Int.tmod at_ n)).bind fun k1 =>
 some k1
def h137 : Hint:=(.s .z (.s .z (.s (.j [5] [(0,[(5,.v (.int .i64) [])])] .z) .z)))
def sp137 : Spec fam:=⟨[.v (.int .i64) [],.v (.int .i64) []],[.v (.int .i64) []],fun a => ar a.1 a.2.1⟩
def dz (n : Int) : Option Vec :=
 (ar n 5).bind fun x =>
 (inb x [(⟨1,1⟩ : Vec),(⟨2,1⟩ : Vec),(⟨4,4⟩ : Vec),(⟨3,2⟩ : Vec),(⟨1,3⟩ : Vec)].length).bind fun i =>
 ([(⟨1,1⟩ : Vec),(⟨2,1⟩ : Vec),(⟨4,4⟩ : Vec),(⟨3,2⟩ : Vec),(⟨1,3⟩ : Vec)][i]?).bind fun x1 =>
 some x1
def h138 : Hint:=.z
def sp138 : Spec fam:=⟨[.v (.int .i64) []],[.v (.st 0) []],fun a => dz a.1⟩
def cw (a : Act) (s : State) (x1 : App) (t : Input × Int) : Option ((Input × Int) ⊕ Input) :=
 bif decide (t.2 < (s.Conts.length : Int)) then
 (
  (
  (idx s.Conts t.2).bind fun x11 =>
  bif x11.App == x1.Id then
   (ar (w64 (a.D + t.2)) 11).bind fun x12 =>
   some (x12 == 10)
  else
   some false).bind fun q =>
  bif q then
  (idx s.Conts t.2).bind fun x13 =>
  (app 8 t.1.Ids [x13.Id]).bind fun l =>
  some (⟨t.1.Kind,t.1.Id,t.1.Beat,t.1.N,t.1.Text,⟨t.1.Node.Id,t.1.Node.Label,t.1.Node.Rack,⟨t.1.Node.Cap.Mem,t.1.Node.Cap.Cores⟩,t.1.Node.Seen,t.1.Node.Beat,t.1.Node.Up⟩,⟨t.1.App.Id,t.1.App.State,t.1.App.Queue,t.1.App.User,t.1.App.Prio,⟨t.1.App.Master.Mem,t.1.App.Master.Cores⟩,t.1.App.Asks,t.1.App.Seen,t.1.App.Beat,t.1.App.Grants,t.1.App.Kills,t.1.App.Told,t.1.App.Lost⟩,t.1.Asks,l,⟨t.1.Plan.Id,t.1.Plan.Label,t.1.Plan.From,t.1.Plan.Until,⟨t.1.Plan.Need.Mem,t.1.Plan.Need.Cores⟩⟩⟩ : Input)
  else
  some t.1).bind fun x14 =>
 some (.inl (x14,w64 (t.2 + 1)))
 else
 some (.inr t.1)
def d6 (a : Act) (s : State) : Option Input :=
 bif (s.Apps.length : Int) == 0 then
 some (⟨5,0,0,0,[],⟨0,0,0,⟨0,0⟩,0,0,false⟩,⟨0,0,[],0,0,⟨0,0⟩,[],0,0,[],[],[],[]⟩,[],[],⟨0,0,0,0,⟨0,0⟩⟩⟩ : Input)
 else
 (ar a.A (s.Apps.length : Int)).bind fun x =>
 (idx s.Apps x).bind fun x1 =>
 (ar a.B 8).bind fun x2 =>
 (
  bif decide ((Int.tmod a.C 3) > 0) then
  (ar a.B 5).bind fun x3 =>
  (ar a.C (s.Conf.Labels.length : Int)).bind fun x4 =>
  (dz a.D).bind fun x5 =>
  (ar a.D 7).bind fun x6 =>
  (
   bif (Int.tmod a.D 4) == 1 then
   (ar a.C 3).bind fun x7 =>
   some (⟨x3,x4,⟨x5.Mem,x5.Cores⟩,x6,(-1),x7,0⟩ : Ask)
   else
   some (⟨x3,x4,⟨x5.Mem,x5.Cores⟩,x6,(-1),(-1),0⟩ : Ask)).bind fun k =>
  (
   bif (Int.tmod a.D 4) == 2 then
   (ar a.C 3).bind fun x8 =>
   (ar a.B 6).bind fun x9 =>
   some (⟨k.Prio,k.Label,⟨k.Size.Mem,k.Size.Cores⟩,k.Count,x9,x8,k.Missed⟩ : Ask)
   else
   some k).bind fun k1 =>
  some (⟨5,x1.Id,w64 ((w64 (x1.Beat + 1)) - (w64 (Int.tdiv x2 6))),0,[],⟨0,0,0,⟨0,0⟩,0,0,false⟩,⟨0,0,[],0,0,⟨0,0⟩,[],0,0,[],[],[],[]⟩,[k1],[],⟨0,0,0,0,⟨0,0⟩⟩⟩ : Input)
  else
  some (⟨5,x1.Id,w64 ((w64 (x1.Beat + 1)) - (w64 (Int.tdiv x2 6))),0,[],⟨0,0,0,⟨0,0⟩,0,0,false⟩,⟨0,0,[],0,0,⟨0,0⟩,[],0,0,[],[],[],[]⟩,[],[],⟨0,0,0,0,⟨0,0⟩⟩⟩ : Input)).bind fun x10 =>
 (loop (cw a s x1) (x10,0)).bind fun x15 =>
 some x15
def h139 : Hint:=(.s .z (.s .z (.s .z (.s .z (.s .z (.s (.j [5,7] [(0,[(5,.box (.st 15) [20,23,24,25,26,27,28])])] (.s .z (.c (.s .z (.s (.j [7] [(0,[(7,.box (.st 5) [])])] .z) (.s (.j [7] [(0,[(7,.box (.st 5) [])])] .z) .z))) .z))) (.s (.s .z (.b (.l [(5,.box (.st 15) [20,23,24,25,26,27,28]),(8,.v (.int .i64) [])] [5,8,104] [(2,[(5,.box (.st 15) [20,23,24,25,26,27,28])])] (.s .z (.s (.j [5,104] [(0,[(5,.box (.st 15) [20,23,24,25,26,27,28])])] (.b (.s (.j [] [(0,[(104,.v .bool [])])] .z) .z))) .z))))) .z)))))))
def sp139 : Spec fam:=⟨[.v (.st 11) [],.v (.st 10) []],[.v (.st 15) [20,23,24,25,26,27,28]],fun a => d6 a.1 a.2.1⟩
def cV (a : Act) (s : State) (id_ : Int) (t1 : Input × Int) : Option ((Input × Int) ⊕ Input) :=
 bif decide (t1.2 < (s.Conts.length : Int)) then
 (
  (
  (idx s.Conts t1.2).bind fun x11 =>
  bif x11.Node == id_ then
   (ar (w64 (a.C + t1.2)) 9).bind fun x12 =>
   some (x12 == 8)
  else
   some false).bind fun q2 =>
  bif q2 then
  (idx s.Conts t1.2).bind fun x13 =>
  (app 8 t1.1.Ids [x13.Id]).bind fun l =>
  some (⟨t1.1.Kind,t1.1.Id,t1.1.Beat,t1.1.N,t1.1.Text,⟨t1.1.Node.Id,t1.1.Node.Label,t1.1.Node.Rack,⟨t1.1.Node.Cap.Mem,t1.1.Node.Cap.Cores⟩,t1.1.Node.Seen,t1.1.Node.Beat,t1.1.Node.Up⟩,⟨t1.1.App.Id,t1.1.App.State,t1.1.App.Queue,t1.1.App.User,t1.1.App.Prio,⟨t1.1.App.Master.Mem,t1.1.App.Master.Cores⟩,t1.1.App.Asks,t1.1.App.Seen,t1.1.App.Beat,t1.1.App.Grants,t1.1.App.Kills,t1.1.App.Told,t1.1.App.Lost⟩,t1.1.Asks,l,⟨t1.1.Plan.Id,t1.1.Plan.Label,t1.1.Plan.From,t1.1.Plan.Until,⟨t1.1.Plan.Need.Mem,t1.1.Plan.Need.Cores⟩⟩⟩ : Input)
  else
  some t1.1).bind fun x14 =>
 some (.inl (x14,w64 (t1.2 + 1)))
 else
 some (.inr t1.1)
def cX (a : Act) (s : State) (id_ : Int) (t : Input × Int) : Option ((Input × Int) ⊕ Input) :=
 bif decide (t.2 < (s.Nodes.length : Int)) then
 (
  (idx s.Nodes t.2).bind fun x6 =>
  bif x6.Id == id_ then
  (idx s.Nodes t.2).bind fun x7 =>
  (ar a.B 8).bind fun x8 =>
  some (⟨t.1.Kind,t.1.Id,w64 ((w64 (x7.Beat + 1)) - (w64 (Int.tdiv x8 6))),t.1.N,t.1.Text,⟨t.1.Node.Id,t.1.Node.Label,t.1.Node.Rack,⟨t.1.Node.Cap.Mem,t.1.Node.Cap.Cores⟩,t.1.Node.Seen,t.1.Node.Beat,t.1.Node.Up⟩,⟨t.1.App.Id,t.1.App.State,t.1.App.Queue,t.1.App.User,t.1.App.Prio,⟨t.1.App.Master.Mem,t.1.App.Master.Cores⟩,t.1.App.Asks,t.1.App.Seen,t.1.App.Beat,t.1.App.Grants,t.1.App.Kills,t.1.App.Told,t.1.App.Lost⟩,t.1.Asks,t.1.Ids,⟨t.1.Plan.Id,t.1.Plan.Label,t.1.Plan.From,t.1.Plan.Until,⟨t.1.Plan.Need.Mem,t.1.Plan.Need.Cores⟩⟩⟩ : Input)
  else
  some t.1).bind fun x9 =>
 some (.inl (x9,w64 (t.2 + 1)))
 else
 some (.inr t.1)
def eK (a : Act) (s : State) : Option Input :=
 (ar a.A 6).bind fun id_ =>
 (iw s.Conf).bind fun leaves =>
 (ar a.B 4).bind fun x =>
 (
 (ar a.Kind 16).bind fun x1 =>
 (
  bif x1 == 0 then
  some (x1 == 0)
  else
  some (x1 == 1)).bind fun q =>
 bif q then
  (ar a.B (s.Conf.Labels.length : Int)).bind fun x2 =>
  (ar a.C 3).bind fun x3 =>
  (ar a.D 12).bind fun x4 =>
  (ar a.D 8).bind fun x5 =>
  some (⟨2,id_,0,w64 (1 + x),[],⟨id_,x2,x3,⟨w64 (4 + x4),w64 (4 + x5)⟩,0,0,false⟩,⟨0,0,[],0,0,⟨0,0⟩,[],0,0,[],[],[],[]⟩,[],[],⟨0,0,0,0,⟨0,0⟩⟩⟩ : Input)
 else
  (
  bif x1 == 2 then
   some (x1 == 2)
  else
   bif x1 == 3 then
   some (x1 == 3)
   else
   bif x1 == 4 then
    some (x1 == 4)
   else
    some (x1 == 5)).bind fun q1 =>
  bif q1 then
  (loop (cX a s id_) ((⟨3,id_,0,w64 (1 + x),[],⟨0,0,0,⟨0,0⟩,0,0,false⟩,⟨0,0,[],0,0,⟨0,0⟩,[],0,0,[],[],[],[]⟩,[],[],⟨0,0,0,0,⟨0,0⟩⟩⟩ : Input),0)).bind fun x10 =>
  (loop (cV a s id_) (x10,0)).bind fun x15 =>
  some x15
  else
  (
   bif x1 == 6 then
   some (x1 == 6)
   else
   some (x1 == 7)).bind fun q3 =>
  bif q3 then
   (ar a.A 20).bind fun x16 =>
   (ar a.B (leaves.length : Int)).bind fun x17 =>
   (inb x17 leaves.length).bind fun i =>
   (leaves[i]?).bind fun x18 =>
   (ar a.C 3).bind fun x19 =>
   (ar a.D 3).bind fun x20 =>
   (dz (w64 (Int.tdiv a.D 3))).bind fun x21 =>
   some (⟨4,id_,0,w64 (1 + x),[],⟨0,0,0,⟨0,0⟩,0,0,false⟩,⟨x16,0,x18,x19,x20,⟨x21.Mem,x21.Cores⟩,[],0,0,[],[],[],[]⟩,[],[],⟨0,0,0,0,⟨0,0⟩⟩⟩ : Input)
  else
   (
   bif x1 == 8 then
    some (x1 == 8)
   else
    bif x1 == 9 then
    some (x1 == 9)
    else
    some (x1 == 10)).bind fun q4 =>
   bif q4 then
   (d6 a s).bind fun x22 =>
   some x22
   else
   bif x1 == 11 then
    (ar a.B 2).bind fun x23 =>
    (inb x23 [6,7].length).bind fun i1 =>
    ([6,7][i1]?).bind fun x24 =>
    (ar a.A 20).bind fun x25 =>
    some (⟨x24,x25,0,w64 (1 + x),[],⟨0,0,0,⟨0,0⟩,0,0,false⟩,⟨0,0,[],0,0,⟨0,0⟩,[],0,0,[],[],[],[]⟩,[],[],⟨0,0,0,0,⟨0,0⟩⟩⟩ : Input)
   else
    (
    bif x1 == 12 then
     some (x1 == 12)
    else
     some (x1 == 13)).bind fun q5 =>
    bif q5 then
    (ar a.A 5).bind fun x26 =>
    some (⟨8,id_,0,w64 (1 + x26),[],⟨0,0,0,⟨0,0⟩,0,0,false⟩,⟨0,0,[],0,0,⟨0,0⟩,[],0,0,[],[],[],[]⟩,[],[],⟨0,0,0,0,⟨0,0⟩⟩⟩ : Input)
    else
    bif x1 == 14 then
     (ar a.D 3).bind fun x27 =>
     (inb x27 [9,9,10].length).bind fun i2 =>
     ([9,9,10][i2]?).bind fun x28 =>
     (ar a.B (s.Conf.Labels.length : Int)).bind fun x29 =>
     (ar a.C 5).bind fun x30 =>
     (dz a.D).bind fun x31 =>
     (ar a.C 12).bind fun x32 =>
     some (⟨x28,id_,0,w64 (1 + x32),[],⟨0,0,0,⟨0,0⟩,0,0,false⟩,⟨0,0,[],0,0,⟨0,0⟩,[],0,0,[],[],[],[]⟩,[],[],⟨id_,x29,w64 (s.Now + x30),w64 (s.Now + 20),⟨x31.Mem,x31.Cores⟩⟩⟩ : Input)
    else
     bif x1 == 15 then
     (ar a.A 3).bind fun x33 =>
     (inb x33 [11,1,1].length).bind fun i3 =>
     ([11,1,1][i3]?).bind fun x34 =>
     (gm a.B [a.C,a.D]).bind fun x35 =>
     (gy x35).bind fun x36 =>
     some (⟨x34,id_,0,w64 (1 + x),x36,⟨0,0,0,⟨0,0⟩,0,0,false⟩,⟨0,0,[],0,0,⟨0,0⟩,[],0,0,[],[],[],[]⟩,[],[],⟨0,0,0,0,⟨0,0⟩⟩⟩ : Input)
     else
     some (⟨0,id_,0,w64 (1 + x),[],⟨0,0,0,⟨0,0⟩,0,0,false⟩,⟨0,0,[],0,0,⟨0,0⟩,[],0,0,[],[],[],[]⟩,[],[],⟨0,0,0,0,⟨0,0⟩⟩⟩ : Input)).bind fun x37 =>
 some x37
def h63 : Hint:=(.s .z (.s .z (.s .z (.s .z (.s (.j [8,9,10,27,28,29,30,53,109,121,148,168] [(0,[(8,.box (.st 15) [20,23,24,25,26,27,28])])] (.s .z (.b (.s (.j [] [(0,[(30,.v .bool [])])] .z) (.c .z (.s (.j [] [(0,[(53,.v .bool [])])] .z) (.c (.s .z (.s (.s .z (.b (.l [(8,.box (.st 15) [20,23,24,25,26,27,28]),(9,.v (.int .i64) [])] [8,9] [(3,[(8,.box (.st 15) [20,23,24,25,26,27,28])])] (.s .z (.s (.j [8] [(0,[(8,.box (.st 15) [20,23,24,25,26,27,28])])] .z) .z))))) (.s .z (.b (.l [(8,.box (.st 15) [20,23,24,25,26,27,28]),(10,.v (.int .i64) [])] [8,10,109] [(5,[(8,.box (.st 15) [20,23,24,25,26,27,28])])] (.s .z (.s (.j [8,109] [(0,[(8,.box (.st 15) [20,23,24,25,26,27,28])])] (.b (.s (.j [] [(0,[(109,.v .bool [])])] .z) .z))) .z))))))) (.s (.j [] [(0,[(121,.v .bool [])])] .z) (.c .z (.s (.j [] [(0,[(148,.v .bool [])])] .z) (.c .z (.s .z (.c .z (.s (.j [] [(0,[(168,.v .bool [])])] .z) .z)))))))))))))) .z)))))
def sp63 : Spec fam:=⟨[.v (.st 11) [],.v (.st 10) []],[.v (.st 15) [20,23,24,25,26,27,28]],fun a => eK a.1 a.2.1⟩
def bT (x : Script) (t : State × Int) : Option ((State × Int) ⊕ State) :=
 bif decide (t.2 < (x.Acts.length : Int)) then
 (idx x.Acts t.2).bind fun x5 =>
 (eK x5 t.1).bind fun x6 =>
 (fg t.1 x6).bind fun x7 =>
 some (.inl (x7.1,w64 (t.2 + 1)))
 else
 some (.inr t.1)
def bI (x : Script) : Option State :=
 (jA).bind fun x1 =>
 (gm x.Shape x.Ns).bind fun x2 =>
 (gy x2).bind fun x3 =>
 (fg x1 (⟨1,0,0,0,x3,⟨0,0,0,⟨0,0⟩,0,0,false⟩,⟨0,0,[],0,0,⟨0,0⟩,[],0,0,[],[],[],[]⟩,[],[],⟨0,0,0,0,⟨0,0⟩⟩⟩ : Input)).bind fun x4 =>
 (
 bif x4.2.Err == 0 then
  some x4.1
 else
  some x1).bind fun s =>
 (loop (bT x) (s,0)).bind fun s1 =>
 some s1
def h17 : Hint:=(.s .z (.s .z (.s .z (.s (.j [3] [(0,[(3,.box (.st 10) [])])] .z) (.s (.s .z (.b (.l [(3,.box (.st 10) []),(6,.v (.int .i64) [])] [3,6] [(2,[(3,.box (.st 10) [])])] .z))) .z)))))
def sp17 : Spec fam:=⟨[.v (.st 12) []],[.v (.st 10) []],fun a => bI a.1⟩
def bD (v : Vec) : Option Bool :=
 bif decide (v.Mem ≥ 0) then
 bif decide (v.Mem ≤ 1125899906842624) then
  bif decide (v.Cores ≥ 0) then
  some (decide (v.Cores ≤ 1125899906842624))
  else
  some false
 else
  some false
 else
 some false
def h170 : Hint:=.z
def sp170 : Spec fam:=⟨[.v (.st 0) []],[.v .bool []],fun a => bD a.1⟩
def fK (s : State) (t3 : Bool × Int) (t4 : Bool × Int) : Option ((Bool × Int) ⊕ Bool) :=
 (idx s.Apps t3.2).bind fun x8 =>
 bif decide (t4.2 < (x8.Asks.length : Int)) then
 (
  bif t4.1 then
  (idx s.Apps t3.2).bind fun x9 =>
  (idx x9.Asks t4.2).bind fun x10 =>
  (bD x10.Size).bind fun x11 =>
  some x11
  else
  some false).bind fun ok7 =>
 some (.inl (ok7,w64 (t4.2 + 1)))
 else
 some (.inr t4.1)
def fO (s : State) (t3 : Bool × Int) : Option ((Bool × Int) ⊕ Bool) :=
 bif decide (t3.2 < (s.Apps.length : Int)) then
 (
  bif t3.1 then
  (idx s.Apps t3.2).bind fun x6 =>
  (bD x6.Master).bind fun x7 =>
  some x7
  else
  some false).bind fun ok6 =>
 (loop (fK s t3) (ok6,0)).bind fun ok8 =>
 some (.inl (ok8,w64 (t3.2 + 1)))
 else
 some (.inr t3.1)
def fE (s : State) (t2 : Bool × Int) : Option ((Bool × Int) ⊕ Bool) :=
 bif decide (t2.2 < (s.Plans.length : Int)) then
 (
  bif t2.1 then
  (idx s.Plans t2.2).bind fun x4 =>
  (bD x4.Need).bind fun x5 =>
  some x5
  else
  some false).bind fun ok4 =>
 some (.inl (ok4,w64 (t2.2 + 1)))
 else
 some (.inr t2.1)
def f_ (s : State) (t1 : Bool × Int) : Option ((Bool × Int) ⊕ Bool) :=
 bif decide (t1.2 < (s.Conts.length : Int)) then
 (
  bif t1.1 then
  (idx s.Conts t1.2).bind fun x2 =>
  (bD x2.Size).bind fun x3 =>
  some x3
  else
  some false).bind fun ok2 =>
 some (.inl (ok2,w64 (t1.2 + 1)))
 else
 some (.inr t1.1)
def fX (s : State) (t : Bool × Int) : Option ((Bool × Int) ⊕ Bool) :=
 bif decide (t.2 < (s.Nodes.length : Int)) then
 (
  bif t.1 then
  (idx s.Nodes t.2).bind fun x =>
  (bD x.Cap).bind fun x1 =>
  some x1
  else
  some false).bind fun ok =>
 some (.inl (ok,w64 (t.2 + 1)))
 else
 some (.inr t.1)
def iX (s : State) : Option Bool :=
 (loop (fX s) (true,0)).bind fun ok1 =>
 (loop (f_ s) (ok1,0)).bind fun ok3 =>
 (loop (fE s) (ok3,0)).bind fun ok5 =>
 (loop (fO s) (ok5,0)).bind fun ok9 =>
 some ok9
def h92 : Hint:=(.s .z (.s .z (.s (.s .z (.b (.l [(3,.v .bool []),(4,.v (.int .i64) [])] [3,4] [(2,[(3,.v .bool [])])] (.s .z (.s (.j [3] [(0,[(3,.v .bool [])])] .z) .z))))) (.s (.s .z (.b (.l [(3,.v .bool []),(5,.v (.int .i64) [])] [3,5] [(4,[(3,.v .bool [])])] (.s .z (.s (.j [3] [(0,[(3,.v .bool [])])] .z) .z))))) (.s (.s .z (.b (.l [(3,.v .bool []),(6,.v (.int .i64) [])] [3,6] [(6,[(3,.v .bool [])])] (.s .z (.s (.j [3] [(0,[(3,.v .bool [])])] .z) .z))))) (.s (.s .z (.b (.l [(3,.v .bool []),(7,.v (.int .i64) [])] [3,7,8] [(8,[(3,.v .bool [])])] (.s .z (.s (.b (.s (.j [3] [(0,[(3,.v .bool [])])] .z) (.s .z (.b (.l [(3,.v .bool []),(8,.v (.int .i64) [])] [3,8] [(10,[(3,.v .bool [])])] (.s .z (.s (.j [3] [(0,[(3,.v .bool [])])] .z) .z))))))) .z))))) .z))))))
def sp92 : Spec fam:=⟨[.v (.st 10) []],[.v .bool []],fun a => iX a.1⟩
def dV (s : State) (t4 : Bool × Int) : Option ((Bool × Int) ⊕ Bool) :=
 bif decide (t4.2 < (s.Plans.length : Int)) then
 (
  bif t4.1 then
  (idx s.Plans (w64 (t4.2 - 1))).bind fun x8 =>
  (idx s.Plans t4.2).bind fun x9 =>
  let ok12:=decide (x8.Id < x9.Id)
  some ok12
  else
  some false).bind fun ok13 =>
 some (.inl (ok13,w64 (t4.2 + 1)))
 else
 some (.inr t4.1)
def dI (s : State) (t3 : Bool × Int) : Option ((Bool × Int) ⊕ Bool) :=
 bif decide (t3.2 < (s.Slots.length : Int)) then
 (
  bif t3.1 then
  (idx s.Slots (w64 (t3.2 - 1))).bind fun x6 =>
  (idx s.Slots t3.2).bind fun x7 =>
  let ok9:=decide (x6.Node < x7.Node)
  some ok9
  else
  some false).bind fun ok10 =>
 some (.inl (ok10,w64 (t3.2 + 1)))
 else
 some (.inr t3.1)
def dJ (s : State) (t2 : Bool × Int) : Option ((Bool × Int) ⊕ Bool) :=
 bif decide (t2.2 < (s.Conts.length : Int)) then
 (
  bif t2.1 then
  (idx s.Conts (w64 (t2.2 - 1))).bind fun x4 =>
  (idx s.Conts t2.2).bind fun x5 =>
  let ok6:=decide (x4.Id < x5.Id)
  some ok6
  else
  some false).bind fun ok7 =>
 some (.inl (ok7,w64 (t2.2 + 1)))
 else
 some (.inr t2.1)
def dH (s : State) (t1 : Bool × Int) : Option ((Bool × Int) ⊕ Bool) :=
 bif decide (t1.2 < (s.Apps.length : Int)) then
 (
  bif t1.1 then
  (idx s.Apps (w64 (t1.2 - 1))).bind fun x2 =>
  (idx s.Apps t1.2).bind fun x3 =>
  let ok3:=decide (x2.Id < x3.Id)
  some ok3
  else
  some false).bind fun ok4 =>
 some (.inl (ok4,w64 (t1.2 + 1)))
 else
 some (.inr t1.1)
def dK (s : State) (t : Bool × Int) : Option ((Bool × Int) ⊕ Bool) :=
 bif decide (t.2 < (s.Nodes.length : Int)) then
 (
  bif t.1 then
  (idx s.Nodes (w64 (t.2 - 1))).bind fun x =>
  (idx s.Nodes t.2).bind fun x1 =>
  let ok:=decide (x.Id < x1.Id)
  some ok
  else
  some false).bind fun ok1 =>
 some (.inl (ok1,w64 (t.2 + 1)))
 else
 some (.inr t.1)
def gW (s : State) : Option Bool :=
 (
 bif decide ((s.Nodes.length : Int) > 12) then
  some true
 else
  bif decide ((s.Apps.length : Int) > 16) then
  some true
  else
  bif decide ((s.Conts.length : Int) > 200) then
   some true
  else
   some (decide ((s.Plans.length : Int) > 12))).bind fun q =>
 bif q then
 some false
 else
 (loop (dK s) (true,1)).bind fun ok2 =>
 (loop (dH s) (ok2,1)).bind fun ok5 =>
 (loop (dJ s) (ok5,1)).bind fun ok8 =>
 (loop (dI s) (ok8,1)).bind fun ok11 =>
 (loop (dV s) (ok11,1)).bind fun ok14 =>
 some ok14
def h93 : Hint:=(.s .z (.s (.s (.j [] [(0,[(30,.v .bool [])])] .z) .z) (.s .z (.s (.s .z (.b (.l [(3,.v .bool []),(4,.v (.int .i64) [])] [3,4] [(2,[(3,.v .bool [])])] (.s .z (.s (.j [3] [(0,[(3,.v .bool [])])] .z) .z))))) (.s (.s .z (.b (.l [(3,.v .bool []),(5,.v (.int .i64) [])] [3,5] [(4,[(3,.v .bool [])])] (.s .z (.s (.j [3] [(0,[(3,.v .bool [])])] .z) .z))))) (.s (.s .z (.b (.l [(3,.v .bool []),(6,.v (.int .i64) [])] [3,6] [(6,[(3,.v .bool [])])] (.s .z (.s (.j [3] [(0,[(3,.v .bool [])])] .z) .z))))) (.s (.s .z (.b (.l [(3,.v .bool []),(7,.v (.int .i64) [])] [3,7] [(8,[(3,.v .bool [])])] (.s .z (.s (.j [3] [(0,[(3,.v .bool [])])] .z) .z))))) (.s (.s .z (.b (.l [(3,.v .bool []),(8,.v (.int .i64) [])] [3,8] [(10,[(3,.v .bool [])])] (.s .z (.s (.j [3] [(0,[(3,.v .bool [])])] .z) .z))))) .z))))))))
def sp93 : Spec fam:=⟨[.v (.st 10) []],[.v .bool []],fun a => gW a.1⟩
def gS (s : State) (i : Int) : Option (Int ⊕ (Bool ⊕ Unit)) :=
 bif decide (i < (s.Nodes.length : Int)) then
 (idx s.Nodes i).bind fun x =>
 (gk s x.Id).bind fun x1 =>
 (
  (idx s.Nodes i).bind fun x2 =>
  bif decide (x1.Mem > x2.Cap.Mem) then
  some true
  else
  (idx s.Nodes i).bind fun x3 =>
  some (decide (x1.Cores > x3.Cap.Cores))).bind fun q =>
 bif q then
  some (.inr (.inl false))
 else
  some (.inl (w64 (i + 1)))
 else
 some (.inr (.inr ()))
def jD (s : State) : Option Bool :=
 (loop (gS s) 0).bind fun q0 =>
 match q0 with
 | .inl q1 =>
 some q1
 | .inr _ =>
 some true
def h94 : Hint:=(.s .z (.s (.s .z (.b (.l [(3,.v (.int .i64) [])] [2,3,4,41] [(1,[(2,.v .bool [])]),(2,[])] (.s .z (.s (.b (.s .z (.s (.j [] [(0,[(41,.v .bool [])])] .z) .z))) .z))))) .z))
def sp94 : Spec fam:=⟨[.v (.st 10) []],[.v .bool []],fun a => jD a.1⟩
def bQ (s : State) (app_ : Int) (t : Int × Int × Int) : Option ((Int × Int × Int) ⊕ ((Int × Int))) :=
 bif decide (t.2.2 < (s.Conts.length : Int)) then
 (
  (idx s.Conts t.2.2).bind fun x =>
  bif x.App == app_ then
  (idx s.Conts t.2.2).bind fun x1 =>
  bif x1.Master then
   some (w64 (t.1 + 1),w64 (t.2.1 + 1))
  else
   some (t.1,w64 (t.2.1 + 1))
  else
  some (t.1,t.2.1)).bind fun q =>
 some (.inl (q.1,q.2,w64 (t.2.2 + 1)))
 else
 some (.inr (t.1,t.2.1))
def fY (s : State) (app_ : Int) : Option (Int × Int) :=
 (loop (bQ s app_) (0,0,0)).bind fun q1 =>
 some (q1.1,q1.2)
def h96 : Hint:=(.s .z (.s .z (.s (.s .z (.b (.l [(6,.v (.int .i64) []),(7,.v (.int .i64) []),(8,.v (.int .i64) [])] [6,7,8] [(2,[(6,.v (.int .i64) []),(7,.v (.int .i64) [])])] (.s .z (.s (.j [6,7] [(0,[(6,.v (.int .i64) []),(7,.v (.int .i64) [])])] .z) .z))))) .z)))
def sp96 : Spec fam:=⟨[.v (.st 10) [],.v (.int .i64) []],[.v (.int .i64) [],.v (.int .i64) []],fun a => fY a.1 a.2.1⟩
def eN (s : State) (i2 : Int) : Option (Int ⊕ (Bool ⊕ Unit)) :=
 bif decide (i2 < (s.Slots.length : Int)) then
 (idx s.Slots i2).bind fun x18 =>
 (aX s x18.Node).bind fun x19 =>
 (
  bif ! x19.2 then
  some true
  else
  some (! x19.1.Up)).bind fun q5 =>
 bif q5 then
  some (.inr (.inl false))
 else
  some (.inl (w64 (i2 + 1)))
 else
 some (.inr (.inr ()))
def eR (s : State) (i1 : Int) : Option (Int ⊕ (Bool ⊕ Unit)) :=
 bif decide (i1 < (s.Apps.length : Int)) then
 (idx s.Apps i1).bind fun x8 =>
 (fY s x8.Id).bind fun x9 =>
 (
  bif x8.State == 2 then
  bif x9.1 != 1 then
   some true
  else
   bif x8.State == 1 then
   bif x9.2 != 0 then
    some true
   else
    (aF x8).bind fun x10 =>
    bif x10 then
    (aW s.Conf x8.Queue).bind fun x11 =>
    some (! x11)
    else
    some false
   else
   (aF x8).bind fun x12 =>
   bif x12 then
    (aW s.Conf x8.Queue).bind fun x13 =>
    some (! x13)
   else
    some false
  else
  bif x8.State == 1 then
   bif x9.2 != 0 then
   some true
   else
   (aF x8).bind fun x14 =>
   bif x14 then
    (aW s.Conf x8.Queue).bind fun x15 =>
    some (! x15)
   else
    some false
  else
   (aF x8).bind fun x16 =>
   bif x16 then
   (aW s.Conf x8.Queue).bind fun x17 =>
   some (! x17)
   else
   some false).bind fun q3 =>
 bif q3 then
  some (.inr (.inl false))
 else
  some (.inl (w64 (i1 + 1)))
 else
 some (.inr (.inr ()))
def eI (s : State) (i : Int) : Option (Int ⊕ (Bool ⊕ Unit)) :=
 bif decide (i < (s.Conts.length : Int)) then
 (idx s.Conts i).bind fun x4 =>
 (aC s x4.App).bind fun x5 =>
 (aX s x4.Node).bind fun x6 =>
 (
  bif ! x5.2 then
  some true
  else
  (aF x5.1).bind fun x7 =>
  bif ! x7 then
   some true
  else
   bif ! x6.2 then
   some true
   else
   bif ! x6.1.Up then
    some true
   else
    bif x6.1.Label != x4.Label then
    some true
    else
    bif decide (x4.Notice < 0) then
     some true
    else
     some (decide (x4.Notice > (imax s.Now 1)))).bind fun q1 =>
 bif q1 then
  some (.inr (.inl false))
 else
  some (.inl (w64 (i + 1)))
 else
 some (.inr (.inr ()))
def iE (s : State) : Option Bool :=
 (
 (aZ s.Conf).bind fun x =>
 bif x != 0 then
  some true
 else
  (iX s).bind fun x1 =>
  bif ! x1 then
  some true
  else
  (gW s).bind fun x2 =>
  bif ! x2 then
   some true
  else
   (jD s).bind fun x3 =>
   some (! x3)).bind fun q =>
 bif q then
 some false
 else
 (loop (eI s) 0).bind fun q0 =>
 match q0 with
 | .inl q2 =>
  some q2
 | .inr _ =>
  (loop (eR s) 0).bind fun q0 =>
  match q0 with
  | .inl q4 =>
  some q4
  | .inr _ =>
  (loop (eN s) 0).bind fun q0 =>
  match q0 with
  | .inl q6 =>
   some q6
  | .inr _ =>
   some true
def h30 : Hint:=(.s .z (.s (.s (.j [] [(0,[(34,.v .bool [])])] .z) .z) (.s (.s .z (.b (.l [(3,.v (.int .i64) [])] [2,3,4,5,6,7,8,96] [(1,[(2,.v .bool [])]),(2,[])] (.s .z (.s (.b (.s .z (.s .z (.s .z (.s (.j [] [(0,[(96,.v .bool [])])] .z) .z))))) .z))))) (.s (.s .z (.b (.l [(9,.v (.int .i64) [])] [2,9,10,11,12,143] [(1,[(2,.v .bool [])]),(4,[])] (.s .z (.s (.b (.s .z (.s .z (.s (.j [] [(0,[(143,.v .bool [])])] .z) .z)))) .z))))) (.s (.s .z (.b (.l [(13,.v (.int .i64) [])] [2,13,14,168] [(1,[(2,.v .bool [])]),(6,[])] (.s .z (.s (.b (.s .z (.s (.j [] [(0,[(168,.v .bool [])])] .z) .z))) .z))))) .z)))))
def sp30 : Spec fam:=⟨[.v (.st 10) []],[.v .bool []],fun a => iE a.1⟩
def Bo (_a0 : List Cont) (_a1 : (TupT fam [.st 7] → Option Bool)) : Option Int:=none
def sp81 : Spec fam:=⟨[.v (.slice (.st 7)) [],.fn [.st 7] .bool],[.v (.int .i64) []],fun a => Bo a.1 a.2.1⟩
def tk (s : List Cont) : Option (List Cont) :=
 bif s.isEmpty then
 none
 else
 (app 72 [] s).bind fun l =>
 some l
def nZ (s : List Cont) : Option (List Cont):=app 72 [] s
def h158 : Hint:=.z
def sp158 : Spec fam:=⟨[.v (.slice (.st 7)) []],[.v (.slice (.st 7)) [0]],fun a => nZ a.1⟩
def CO : Spec fam:=⟨[.v (.slice (.st 7)) []],[.v (.slice (.st 7)) [0]],fun a => tk a.1⟩
def yu (s : List Ask) : Option (List Ask) :=
 bif s.isEmpty then
 none
 else
 (app 64 [] s).bind fun l =>
 some l
def na (s : List Ask) : Option (List Ask):=app 64 [] s
def h265 : Hint:=.z
def sp265 : Spec fam:=⟨[.v (.slice (.st 5)) []],[.v (.slice (.st 5)) [0]],fun a => na a.1⟩
def C8 : Spec fam:=⟨[.v (.slice (.st 5)) []],[.v (.slice (.st 5)) [0]],fun a => yu a.1⟩
def k8 (l : List Int) : Option (List Int) :=
 (mkl 8 (l.length : Int) (l.length : Int) 0).bind fun l1 =>
 some (cpy l1 0 l1.length l)
def h302 : Hint:=.z
def sp302 : Spec fam:=⟨[.v (.slice (.int .i64)) []],[.v (.slice (.int .i64)) [0]],fun a => k8 a.1⟩
def np (a : App) : Option App :=
 (na a.Asks).bind fun x =>
 (k8 a.Grants).bind fun x1 =>
 (k8 a.Kills).bind fun x2 =>
 (k8 a.Told).bind fun x3 =>
 (k8 a.Lost).bind fun x4 =>
 some (⟨a.Id,a.State,a.Queue,a.User,a.Prio,⟨a.Master.Mem,a.Master.Cores⟩,x,a.Seen,a.Beat,x1,x2,x3,x4⟩ : App)
def h222 : Hint:=.z
def sp222 : Spec fam:=⟨[.v (.st 6) []],[.v (.st 6) [7,10,11,12,13,9999]],fun a => np a.1⟩
def ma (s : List (List UInt8)) : Option (List (List UInt8)) :=
 bif s.isEmpty then
 none
 else
 (app 16 [] s).bind fun l =>
 some l
def dG (s : List (List UInt8)) : Option (List (List UInt8)):=app 16 [] s
def h227 : Hint:=.z
def sp227 : Spec fam:=⟨[.v (.slice (.str)) []],[.v (.slice (.str)) [0]],fun a => dG a.1⟩
def Dz : Spec fam:=⟨[.v (.slice (.str)) []],[.v (.slice (.str)) [0]],fun a => ma a.1⟩
def sx (s : List Queue) : Option (List Queue) :=
 bif s.isEmpty then
 none
 else
 (app 48 [] s).bind fun l =>
 some l
def nq (s : List Queue) : Option (List Queue):=app 48 [] s
def h228 : Hint:=.z
def sp228 : Spec fam:=⟨[.v (.slice (.st 2)) []],[.v (.slice (.st 2)) [0]],fun a => nq a.1⟩
def Ew : Spec fam:=⟨[.v (.slice (.st 2)) []],[.v (.slice (.st 2)) [0]],fun a => sx a.1⟩
def yC (s : List Cap) : Option (List Cap) :=
 bif s.isEmpty then
 none
 else
 (app 16 [] s).bind fun l =>
 some l
def oT (s : List Cap) : Option (List Cap):=app 16 [] s
def h229 : Hint:=.z
def sp229 : Spec fam:=⟨[.v (.slice (.st 1)) []],[.v (.slice (.st 1)) [0]],fun a => oT a.1⟩
def DO : Spec fam:=⟨[.v (.slice (.st 1)) []],[.v (.slice (.st 1)) [0]],fun a => yC a.1⟩
def xX (s : List Node) : Option (List Node) :=
 bif s.isEmpty then
 none
 else
 (app 64 [] s).bind fun l =>
 some l
def qP (s : List Node) : Option (List Node):=app 64 [] s
def h230 : Hint:=.z
def sp230 : Spec fam:=⟨[.v (.slice (.st 4)) []],[.v (.slice (.st 4)) [0]],fun a => qP a.1⟩
def CP : Spec fam:=⟨[.v (.slice (.st 4)) []],[.v (.slice (.st 4)) [0]],fun a => xX a.1⟩
def xu (s : List Slot) : Option (List Slot) :=
 bif s.isEmpty then
 none
 else
 (app 24 [] s).bind fun l =>
 some l
def ro (s : List Slot) : Option (List Slot):=app 24 [] s
def h231 : Hint:=.z
def sp231 : Spec fam:=⟨[.v (.slice (.st 8)) []],[.v (.slice (.st 8)) [0]],fun a => ro a.1⟩
def Db : Spec fam:=⟨[.v (.slice (.st 8)) []],[.v (.slice (.st 8)) [0]],fun a => xu a.1⟩
def wx (s : List Plan) : Option (List Plan) :=
 bif s.isEmpty then
 none
 else
 (app 48 [] s).bind fun l =>
 some l
def rA (s : List Plan) : Option (List Plan):=app 48 [] s
def h232 : Hint:=.z
def sp232 : Spec fam:=⟨[.v (.slice (.st 9)) []],[.v (.slice (.st 9)) [0]],fun a => rA a.1⟩
def C9 : Spec fam:=⟨[.v (.slice (.st 9)) []],[.v (.slice (.st 9)) [0]],fun a => wx a.1⟩
def ub (s : List App) : Option (List App) :=
 bif s.isEmpty then
 none
 else
 (app 200 [] s).bind fun l =>
 some l
def oV (s : List App) : Option (List App):=app 200 [] s
def h233 : Hint:=.z
def sp233 : Spec fam:=⟨[.v (.slice (.st 6)) []],[.v (.slice (.st 6)) [0]],fun a => oV a.1⟩
def D9 : Spec fam:=⟨[.v (.slice (.st 6)) []],[.v (.slice (.st 6)) [0]],fun a => ub a.1⟩
def nC (x9 : List App) (t1 : List App × Int) : Option ((List App × Int) ⊕ List App) :=
 bif decide (t1.2 < (x9.length : Int)) then
 (inb t1.2 t1.1.length).bind fun i2 =>
 (t1.1[i2]?).bind fun x10 =>
 (np x10).bind fun x11 =>
 (inb t1.2 t1.1.length).bind fun i3 =>
 (t1.1[i3]?).bind fun x12 =>
 some (.inl (List.set t1.1 i3 x11,w64 (t1.2 + 1)))
 else
 some (.inr t1.1)
def nH (x1 : List Queue) (t : List Queue × Int) : Option ((List Queue × Int) ⊕ List Queue) :=
 bif decide (t.2 < (x1.length : Int)) then
 (inb t.2 t.1.length).bind fun i =>
 (t.1[i]?).bind fun x2 =>
 (oT x2.Caps).bind fun x3 =>
 (inb t.2 t.1.length).bind fun i1 =>
 (t.1[i1]?).bind fun x4 =>
 some (.inl (List.set t.1 i1 (⟨x4.Path,x3,x4.User⟩ : Queue),w64 (t.2 + 1)))
 else
 some (.inr t.1)
def nt (s : State) : Option State :=
 (dG s.Conf.Labels).bind fun x =>
 (nq s.Conf.Queues).bind fun x1 =>
 (loop (nH x1) (x1,0)).bind fun q =>
 (qP s.Nodes).bind fun x5 =>
 (nZ s.Conts).bind fun x6 =>
 (ro s.Slots).bind fun x7 =>
 (rA s.Plans).bind fun x8 =>
 (oV s.Apps).bind fun x9 =>
 (loop (nC x9) (x9,0)).bind fun q1 =>
 some (⟨⟨x,q⟩,x5,q1,x6,x7,x8,s.Now,s.Epoch,s.Seq⟩ : State)
def h150 : Hint:=(.s .z (.s .z (.s (.s .z (.b (.l [(14,.row (.st 2) false),(23,.v (.int .i64) [])] [3,4,14,23,24,25,26,27,28,29,30,31,32,33,34,35,36,37] [(2,[(14,.row (.st 2) false)])] .z))) (.s .z (.s .z (.s (.s .z (.b (.l [(56,.row (.st 6) false),(61,.v (.int .i64) [])] [5,6,56,61] [(4,[(56,.row (.st 6) false)])] .z))) .z))))))
def sp150 : Spec fam:=⟨[.v (.st 10) []],[.v (.st 10) [0,1,2,3,4,5,6]],fun a => nt a.1⟩
def kH (s : List App) (f : (TupT fam [.st 6] → Option Bool)) (t : Int) : Option (Int ⊕ (Int ⊕ Unit)) :=
 bif decide (t < (s.length : Int)) then
 (idx s t).bind fun x =>
 (f (x,())).bind fun r =>
 bif r then
  some (.inr (.inl t))
 else
  some (.inl (w64 (t + 1)))
 else
 some (.inr (.inr ()))
def k9 (s : List App) (f : (TupT fam [.st 6] → Option Bool)) : Option Int :=
 (loop (kH s f) 0).bind fun q0 =>
 match q0 with
 | .inl q =>
 some q
 | .inr _ =>
 some (-1)
def h234 : Hint:=(.s .z (.s (.s .z (.b (.l [(8,.v (.int .i64) [])] [4,5,8] [(1,[(4,.v (.int .i64) [])]),(2,[])] .z))) .z))
def sp234 : Spec fam:=⟨[.v (.slice (.st 6)) [],.fn [.st 6] .bool],[.v (.int .i64) []],fun a => k9 a.1 a.2.1⟩
def rg (a : App) (p : Int) : Option Bool :=
 some (a.Id == p)
def h235 : Hint:=.z
def sp235 : Spec fam:=⟨[.v (.st 6) [],.rp (.int .i64)],[.v .bool []],fun a => rg a.1 a.2.1⟩
def og (s : State) (id_ : Int) : Option Int :=
 (k9 s.Apps (fun a' => rg a'.1 id_)).bind fun x =>
 some x
def h152 : Hint:=.z
def sp152 : Spec fam:=⟨[.v (.st 10) [],.v (.int .i64) []],[.v (.int .i64) []],fun a => og a.1 a.2.1⟩
def kP (ids : List Int) (t : Int) : Option (Int ⊕ Unit) :=
 bif decide (t < (ids.length : Int)) then
 (idx ids t).bind fun x1 =>
 none
 else
 some (.inr ())
def kU (s : State) (ids : List Int) : Option State :=
 (nt s).bind fun x =>
 (loop (kP ids) 0).bind fun _ =>
 (nt x).bind fun x2 =>
 some x2
def h79 : Hint:=(.s .z (.s .z (.s (.s .z (.b (.l [(16,.v (.int .i64) [])] [16] [(2,[])] .z))) .z)))
def sp79 : Spec fam:=⟨[.v (.st 10) [],.v (.slice (.int .i64)) []],[.v (.st 10) [0,1,2,3,4,5,6]],fun a => kU a.1 a.2.1⟩
def j6 (s : List Node) (f : (TupT fam [.st 4] → Option Bool)) (t : Int) : Option (Int ⊕ (Int ⊕ Unit)) :=
 bif decide (t < (s.length : Int)) then
 (idx s t).bind fun x =>
 (f (x,())).bind fun r =>
 bif r then
  some (.inr (.inl t))
 else
  some (.inl (w64 (t + 1)))
 else
 some (.inr (.inr ()))
def j_ (s : List Node) (f : (TupT fam [.st 4] → Option Bool)) : Option Int :=
 (loop (j6 s f) 0).bind fun q0 =>
 match q0 with
 | .inl q =>
 some q
 | .inr _ =>
 some (-1)
def h254 : Hint:=(.s .z (.s (.s .z (.b (.l [(8,.v (.int .i64) [])] [4,5,8] [(1,[(4,.v (.int .i64) [])]),(2,[])] .z))) .z))
def sp254 : Spec fam:=⟨[.v (.slice (.st 4)) [],.fn [.st 4] .bool],[.v (.int .i64) []],fun a => j_ a.1 a.2.1⟩
def oH (i : Int) (n : Node) : Option Bool :=
 some (n.Id == i)
def h255 : Hint:=.z
def sp255 : Spec fam:=⟨[.v (.int .i64) [],.v (.st 4) []],[.v .bool []],fun a => oH a.1 a.2.1⟩
def tu (s : State) (id_ : Int) : Option Int :=
 (j_ s.Nodes (fun a' => oH id_ a'.1)).bind fun x =>
 some x
def h176 : Hint:=.z
def sp176 : Spec fam:=⟨[.v (.st 10) [],.v (.int .i64) []],[.v (.int .i64) []],fun a => tu a.1 a.2.1⟩
def mC (s : State) (id_ : Int) : Option (Node × Bool) :=
 (tu s id_).bind fun i =>
 bif decide (i < 0) then
 some ((⟨0,0,0,⟨0,0⟩,0,0,false⟩ : Node),false)
 else
 (idx s.Nodes i).bind fun x =>
 some (x,true)
def h103 : Hint:=.z
def sp103 : Spec fam:=⟨[.v (.st 10) [],.v (.int .i64) []],[.v (.st 4) [],.v .bool []],fun a => mC a.1 a.2.1⟩
def bc (v : Vec) : Option Bool :=
 bif decide (v.Mem ≥ 0) then
 bif decide (v.Mem ≤ 1125899906842624) then
  bif decide (v.Cores ≥ 0) then
  some (decide (v.Cores ≤ 1125899906842624))
  else
  some false
 else
  some false
 else
 some false
def h289 : Hint:=.z
def sp289 : Spec fam:=⟨[.v (.st 0) []],[.v .bool []],fun a => bc a.1⟩
def nW (v : Vec) : Option (Vec × Int) :=
 (bc v).bind fun x =>
 bif ! x then
 some ((⟨0,0⟩ : Vec),11)
 else
 some (v,0)
def h315 : Hint:=.z
def sp315 : Spec fam:=⟨[.v (.st 0) []],[.v (.st 0) [],.v (.int .i64) []],fun a => nW a.1⟩
def k_ (a : Vec) (b : Vec) : Option (Vec × Int) :=
 (
 (bc a).bind fun x =>
 bif ! x then
  some true
 else
  (bc b).bind fun x1 =>
  some (! x1)).bind fun q =>
 bif q then
 some ((⟨0,0⟩ : Vec),1)
 else
 (nW (⟨w64 (a.Mem + b.Mem),w64 (a.Cores + b.Cores)⟩ : Vec)).bind fun x2 =>
 some (x2.1,x2.2)
def h256 : Hint:=(.s .z (.s (.s (.j [] [(0,[(13,.v .bool [])])] .z) .z) .z))
def sp256 : Spec fam:=⟨[.v (.st 0) [],.v (.st 0) []],[.v (.st 0) [],.v (.int .i64) []],fun a => k_ a.1 a.2.1⟩
def l7 (s : State) (id_ : Int) (t : Vec × Int) : Option ((Vec × Int) ⊕ Vec) :=
 bif decide (t.2 < (s.Conts.length : Int)) then
 (
  (idx s.Conts t.2).bind fun x =>
  bif x.Node == id_ then
  (k_ t.1 x.Size).bind fun x1 =>
  some x1.1
  else
  some t.1).bind fun out =>
 some (.inl (out,w64 (t.2 + 1)))
 else
 some (.inr t.1)
def oc (s : State) (id_ : Int) : Option Vec :=
 (loop (l7 s id_) ((⟨0,0⟩ : Vec),0)).bind fun out1 =>
 some out1
def h177 : Hint:=(.s .z (.s .z (.s (.s .z (.b (.l [(5,.box (.st 0) []),(11,.v (.int .i64) [])] [5,7,11] [(2,[(5,.box (.st 0) [])])] (.s .z (.s .z (.s (.j [5,7] [(0,[(5,.box (.st 0) [])])] .z) .z)))))) .z)))
def sp177 : Spec fam:=⟨[.v (.st 10) [],.v (.int .i64) []],[.v (.st 0) []],fun a => oc a.1 a.2.1⟩
def n8 (s : State) (id_ : Int) : Option Vec :=
 (mC s id_).bind fun x =>
 (
 bif ! x.2 then
  some true
 else
  some (! x.1.Up)).bind fun q =>
 bif q then
 some (⟨0,0⟩ : Vec)
 else
 (oc s id_).bind fun x1 =>
 some (⟨imax (w64 (x.1.Cap.Mem - x1.Mem)) 0,imax (w64 (x.1.Cap.Cores - x1.Cores)) 0⟩ : Vec)
def h104 : Hint:=(.s .z (.s .z (.s (.s (.j [] [(0,[(20,.v .bool [])])] .z) .z) .z)))
def sp104 : Spec fam:=⟨[.v (.st 10) [],.v (.int .i64) []],[.v (.st 0) []],fun a => n8 a.1 a.2.1⟩
def nQ (a : App) : Option Bool :=
 bif a.State == 1 then
 some true
 else
 some (a.State == 2)
def h65 : Hint:=.z
def sp65 : Spec fam:=⟨[.v (.st 6) []],[.v .bool []],fun a => nQ a.1⟩
def nX (s : State) (id_ : Int) : Option (App × Bool) :=
 (og s id_).bind fun i =>
 bif decide (i < 0) then
 some ((⟨0,0,[],0,0,⟨0,0⟩,[],0,0,[],[],[],[]⟩ : App),false)
 else
 (idx s.Apps i).bind fun x =>
 (np x).bind fun x1 =>
 some (x1,true)
def h143 : Hint:=.z
def sp143 : Spec fam:=⟨[.v (.st 10) [],.v (.int .i64) []],[.v (.st 6) [7,10,11,12,13,9999],.v .bool []],fun a => nX a.1 a.2.1⟩
def j9 (s : List Slot) (f : (TupT fam [.st 8] → Option Bool)) (t : Int) : Option (Int ⊕ (Int ⊕ Unit)) :=
 bif decide (t < (s.length : Int)) then
 (idx s t).bind fun x =>
 (f (x,())).bind fun r =>
 bif r then
  some (.inr (.inl t))
 else
  some (.inl (w64 (t + 1)))
 else
 some (.inr (.inr ()))
def iJ (s : List Slot) (f : (TupT fam [.st 8] → Option Bool)) : Option Int :=
 (loop (j9 s f) 0).bind fun q0 =>
 match q0 with
 | .inl q =>
 some q
 | .inr _ =>
 some (-1)
def h178 : Hint:=(.s .z (.s (.s .z (.b (.l [(8,.v (.int .i64) [])] [4,5,8] [(1,[(4,.v (.int .i64) [])]),(2,[])] .z))) .z))
def sp178 : Spec fam:=⟨[.v (.slice (.st 8)) [],.fn [.st 8] .bool],[.v (.int .i64) []],fun a => iJ a.1 a.2.1⟩
def fF (x : Slot) (p : Attempt) : Option Bool :=
 some (x.Node == p.n.Id)
def h179 : Hint:=.z
def sp179 : Spec fam:=⟨[.v (.st 8) [],.rpp (.st 19)],[.v .bool []],fun a => fF a.1 a.2.1⟩
def jL (a : App) (prio : Int) (t : Ask × Int) : Option ((Ask × Int) ⊕ ((Ask × Bool) ⊕ Ask)) :=
 bif decide (t.2 < (a.Asks.length : Int)) then
 (idx a.Asks t.2).bind fun x =>
 bif x.Prio == prio then
  some (.inr (.inl (x,true)))
 else
  some (.inl (t.1,w64 (t.2 + 1)))
 else
 some (.inr (.inr (t.1)))
def nF (a : App) (prio : Int) : Option (Ask × Bool) :=
 (loop (jL a prio) ((⟨0,0,⟨0,0⟩,0,0,0,0⟩ : Ask),0)).bind fun q0 =>
 match q0 with
 | .inl q =>
 some (q.1,q.2)
 | .inr q1 =>
 some ((⟨0,0,⟨0,0⟩,0,0,0,0⟩ : Ask),false)
def h180 : Hint:=(.s .z (.s (.s .z (.b (.l [(4,.box (.st 5) []),(11,.v (.int .i64) [])] [4,5,7,11] [(1,[(4,.box (.st 5) []),(5,.v .bool [])]),(2,[(4,.box (.st 5) [])])] .z))) .z))
def sp180 : Spec fam:=⟨[.v (.st 6) [],.v (.int .i64) []],[.v (.st 5) [],.v .bool []],fun a => nF a.1 a.2.1⟩
def ko (a : Ask) (n : Node) : Option Int :=
 (
 (
  bif ! n.Up then
  some true
  else
  some (n.Label != a.Label)).bind fun q =>
 bif q then
  some (.inr (.inl 4))
 else
  bif a.Rack == (-1) then
  some (.inl ())
  else
  (
   bif a.Node == n.Id then
   some (a.Node == n.Id)
   else
   bif a.Node == (-1) then
    some (a.Rack == n.Rack)
   else
    some false).bind fun q1 =>
  bif q1 then
   some (.inl ())
  else
   bif a.Rack == n.Rack then
   some (.inr (.inr (.inr ())))
   else
   some (.inr (.inr (.inl ()))) : Option (Unit ⊕ Int ⊕ Unit ⊕ Unit)).bind fun q0 =>
 match q0 with
 | .inl _ =>
 some 1
 | .inr (.inl q2) =>
 some q2
 | .inr (.inr (.inl _)) =>
 some 3
 | .inr (.inr (.inr _)) =>
 some 2
def h257 : Hint:=(.s .z (.s (.b (.s (.b (.s (.j [5,20] [(0,[]),(1,[(4,.v (.int .i64) [])]),(2,[]),(6,[])] (.b (.b (.s (.b (.s (.s (.s (.j [] [(0,[(5,.v .bool [])])] .z) .z) (.s .z (.s (.s (.j [] [(0,[(20,.v .bool [])])] .z) .z) .z))) .z)) .z)))) .z)) .z)) .z))
def sp257 : Spec fam:=⟨[.v (.st 5) [],.v (.st 4) []],[.v (.int .i64) []],fun a => ko a.1 a.2.1⟩
def iP (a : Ask) (n : Node) : Option Bool :=
 (ko a n).bind fun x =>
 bif x == 1 then
 some true
 else
 bif x == 2 then
  some (decide (a.Missed ≥ 2))
 else
  bif x == 3 then
  some (decide (a.Missed ≥ 4))
  else
  some false
def h181 : Hint:=.z
def sp181 : Spec fam:=⟨[.v (.st 5) [],.v (.st 4) []],[.v .bool []],fun a => iP a.1 a.2.1⟩
def i_ (a : Vec) (b : Vec) : Option Bool :=
 bif decide (a.Mem ≤ b.Mem) then
 some (decide (a.Cores ≤ b.Cores))
 else
 some false
def h258 : Hint:=.z
def sp258 : Spec fam:=⟨[.v (.st 0) [],.v (.st 0) []],[.v .bool []],fun a => i_ a.1 a.2.1⟩
def c9 (t : Attempt) (x : Ask) : Option Bool :=
 (ko x t.n).bind fun x1 =>
 bif x1 != 4 then
 (i_ x.Size t.n.Cap).bind fun x2 =>
 some x2
 else
 some false
def h182 : Hint:=.z
def sp182 : Spec fam:=⟨[.rp (.st 19),.v (.st 5) []],[.v .bool []],fun a => c9 a.1 a.2.1⟩
def eu (v : View) (c : Cont) (t : App × Int) : Option ((App × Int) ⊕ ((App × Bool) ⊕ App)) :=
 bif decide (t.2 < (v.s.Apps.length : Int)) then
 (idx v.s.Apps t.2).bind fun x =>
 bif x.Id == c.App then
  some (.inr (.inl (x,true)))
 else
  some (.inl (t.1,w64 (t.2 + 1)))
 else
 some (.inr (.inr (t.1)))
def j4 (v : View) (c : Cont) : Option (App × Bool) :=
 (loop (eu v c) ((⟨0,0,[],0,0,⟨0,0⟩,[],0,0,[],[],[],[]⟩ : App),0)).bind fun q0 =>
 match q0 with
 | .inl q =>
 some (q.1,q.2)
 | .inr q1 =>
 some ((⟨0,0,[],0,0,⟨0,0⟩,[],0,0,[],[],[],[]⟩ : App),false)
def h276 : Hint:=(.s .z (.s (.s .z (.b (.l [(4,.box (.st 6) [7,10,11,12,13]),(12,.v (.int .i64) [])] [4,5,7,12] [(1,[(4,.box (.st 6) []),(5,.v .bool [])]),(2,[(4,.box (.st 6) [7,10,11,12,13])])] .z))) .z))
def sp276 : Spec fam:=⟨[.v (.st 17) [],.v (.st 7) []],[.v (.st 6) [],.v .bool []],fun a => j4 a.1 a.2.1⟩
def jI (s : List UInt8) (prefix_ : List UInt8) : Option Bool :=
 bif decide ((s.length : Int) ≥ (prefix_.length : Int)) then
 (slc s 0 (prefix_.length : Int)).bind fun s1 =>
 some (s1 == prefix_)
 else
 some false
def h362 : Hint:=.z
def sp362 : Spec fam:=⟨[.v .str [],.v .str []],[.v .bool []],fun a => jI a.1 a.2.1⟩
def jz (s : List UInt8) (prefix_ : List UInt8) : Option Bool :=
 (jI s prefix_).bind fun x =>
 some x
def h330 : Hint:=.z
def sp330 : Spec fam:=⟨[.v .str [],.v .str []],[.v .bool []],fun a => jz a.1 a.2.1⟩
def ll (v : View) (a : App) : Option Bool :=
 (
 bif a.Queue == v.path then
  some true
 else
  (cat v.path ([46] : List UInt8)).bind fun s =>
  (jz a.Queue s).bind fun x =>
  some x).bind fun below =>
 bif below then
 bif v.user == (-1) then
  some true
 else
  some (a.User == v.user)
 else
 some false
def h277 : Hint:=(.s .z (.s (.j [] [(0,[(5,.v .bool [])])] .z) .z))
def sp277 : Spec fam:=⟨[.v (.st 17) [],.v (.st 6) []],[.v .bool []],fun a => ll a.1 a.2.1⟩
def jk (v : View) (t : Vec × Int) : Option ((Vec × Int) ⊕ Vec) :=
 bif decide (t.2 < (v.s.Conts.length : Int)) then
 (
  (idx v.s.Conts t.2).bind fun x =>
  (j4 v x).bind fun x1 =>
  (
  bif x1.2 then
   bif x.Label == v.label then
   (ll v x1.1).bind fun x2 =>
   some x2
   else
   some false
  else
   some false).bind fun q =>
  bif q then
  (k_ t.1 x.Size).bind fun x3 =>
  some x3.1
  else
  some t.1).bind fun out =>
 some (.inl (out,w64 (t.2 + 1)))
 else
 some (.inr t.1)
def iN (v : View) : Option Vec :=
 (loop (jk v) ((⟨0,0⟩ : Vec),0)).bind fun out1 =>
 some out1
def h202 : Hint:=(.s .z (.s .z (.s .z (.s (.s .z (.b (.l [(3,.box (.st 0) []),(15,.v (.int .i64) [])] [3,6,7,8,15,37] [(2,[(3,.box (.st 0) [])])] (.s .z (.s .z (.s (.j [3,6,7,8,37] [(0,[(3,.box (.st 0) [])])] (.b (.s .z (.s .z (.s (.j [] [(0,[(37,.v .bool [])])] .z) .z))))) .z)))))) .z))))
def sp202 : Spec fam:=⟨[.v (.st 17) []],[.v (.st 0) []],fun a => iN a.1⟩
def lr (s : State) (path : List UInt8) (label : Int) : Option Vec :=
 (iN (⟨⟨⟨s.Conf.Labels,s.Conf.Queues⟩,s.Nodes,s.Apps,s.Conts,s.Slots,s.Plans,s.Now,s.Epoch,s.Seq⟩,path,label,(-1)⟩ : View)).bind fun x =>
 some x
def h121 : Hint:=.z
def sp121 : Spec fam:=⟨[.v (.st 10) [],.v .str [],.v (.int .i64) []],[.v (.st 0) []],fun a => lr a.1 a.2.1 a.2.2.1⟩
def mA (l : List Vec) (t : Vec × Int) : Option ((Vec × Int) ⊕ Vec) :=
 bif decide (t.2 < (l.length : Int)) then
 (idx l t.2).bind fun x =>
 (k_ t.1 x).bind fun x1 =>
 some (.inl (x1.1,w64 (t.2 + 1)))
 else
 some (.inr t.1)
def nO (l : List Vec) : Option Vec :=
 (loop (mA l) ((⟨0,0⟩ : Vec),0)).bind fun out =>
 some out
def h224 : Hint:=(.s .z (.s .z (.s (.s .z (.b (.l [(3,.box (.st 0) []),(8,.v (.int .i64) [])] [3,5,8] [(2,[(3,.box (.st 0) [])])] .z))) .z)))
def sp224 : Spec fam:=⟨[.v (.slice (.st 0)) []],[.v (.st 0) []],fun a => nO a.1⟩
def lg (s : State) (label : Int) (t : List Vec × Int) : Option ((List Vec × Int) ⊕ List Vec) :=
 bif decide (t.2 < (s.Nodes.length : Int)) then
 (
  (idx s.Nodes t.2).bind fun x =>
  (
  bif x.Up then
   some (x.Label == label)
  else
   some false).bind fun q =>
  bif q then
  (app 16 t.1 [x.Cap]).bind fun l =>
  some l
  else
  some t.1).bind fun l1 =>
 some (.inl (l1,w64 (t.2 + 1)))
 else
 some (.inr t.1)
def lO (s : State) (label : Int) : Option Vec :=
 (loop (lg s label) ([],0)).bind fun l2 =>
 (nO l2).bind fun x1 =>
 some x1
def h145 : Hint:=(.s .z (.s .z (.s (.s .z (.b (.l [(5,.v (.slice (.st 0)) [0]),(11,.v (.int .i64) [])] [5,7,11,22] [(2,[(5,.v (.slice (.st 0)) [0])])] (.s .z (.s .z (.s (.j [5,7,22] [(0,[(5,.v (.slice (.st 0)) [0])])] (.b (.s .z (.s (.j [] [(0,[(22,.v .bool [])])] .z) .z)))) .z)))))) .z)))
def sp145 : Spec fam:=⟨[.v (.st 10) [],.v (.int .i64) []],[.v (.st 0) []],fun a => lO a.1 a.2.1⟩
def dm (s : List UInt8) (c : Int) (i1 : Int) : Option (Int ⊕ (Int ⊕ Unit)) :=
 bif decide (i1 ≥ 0) then
 (idx s i1).bind fun ch =>
 bif (ch.toNat : Int) == c then
  some (.inr (.inl i1))
 else
  some (.inl (w64 (i1 - 1)))
 else
 some (.inr (.inr ()))
def aL (s : List UInt8) (c : Int) : Option Int :=
 let i:=w64 ((s.length : Int) - 1)
 (loop (dm s c) i).bind fun q0 =>
 match q0 with
 | .inl q =>
 some q
 | .inr _ =>
 some (-1)
def h328 : Hint:=(.s .z (.s (.s .z (.b (.l [(5,.v (.int .i64) [])] [4,5] [(1,[(4,.v (.int .i64) [])]),(2,[])] .z))) .z))
def sp328 : Spec fam:=⟨[.v .str [],.v (.int .u8) []],[.v (.int .i64) []],fun a => aL a.1 a.2.1⟩
def mY (t1 : Int × Int × Int) : Option ((Int × Int × Int) ⊕ Int) :=
 bif decide (t1.2.2 > 0) then
 (
  bif (andK .i64 t1.2.2 1) != 0 then
  let pow:=IntKind.u32.wrap (t1.1 * t1.2.1)
  some pow
  else
  some t1.1).bind fun pow1 =>
 let sq:=IntKind.u32.wrap (t1.2.1 * t1.2.1)
 some (.inl (pow1,sq,shrK .i64 t1.2.2 1))
 else
 some (.inr t1.1)
def mZ (sep : List UInt8) (t : Int × Int) : Option ((Int × Int) ⊕ Int) :=
 bif decide (t.2 ≥ 0) then
 (idx sep t.2).bind fun ch =>
 let hash:=IntKind.u32.wrap ((IntKind.u32.wrap (t.1 * 16777619)) + (IntKind.u32.wrap (ch.toNat : Int)))
 some (.inl (hash,w64 (t.2 - 1)))
 else
 some (.inr t.1)
def kc (sep : List UInt8) : Option (Int × Int) :=
 let i:=w64 ((sep.length : Int) - 1)
 (loop (mZ sep) (0,i)).bind fun hash1 =>
 (loop mY (1,16777619,(sep.length : Int))).bind fun pow2 =>
 some (hash1,pow2)
def h361 : Hint:=(.s .z (.s .z (.s (.s .z (.b (.l [(4,.v (.int .u32) []),(5,.v (.int .i64) [])] [4,5] [(2,[(4,.v (.int .u32) [])])] .z))) (.s .z (.s (.s .z (.b (.l [(6,.v (.int .u32) []),(7,.v (.int .u32) []),(8,.v (.int .i64) [])] [6,7,8] [(4,[(6,.v (.int .u32) [])])] (.s .z (.s (.b (.s (.j [6] [(0,[(6,.v (.int .u32) [])])] .z) .z)) .z))))) .z)))))
def sp361 : Spec fam:=⟨[.v .str []],[.v (.int .u32) [],.v (.int .u32) []],fun a => kc a.1⟩
def kM (s : List UInt8) (sep : List UInt8) (x : Int × Int) (t1 : Int × Int) : Option ((Int × Int) ⊕ (Int ⊕ Unit)) :=
 bif decide (t1.2 ≥ 0) then
 (idx s t1.2).bind fun ch1 =>
 let h2:=IntKind.u32.wrap ((IntKind.u32.wrap (t1.1 * 16777619)) + (IntKind.u32.wrap (ch1.toNat : Int)))
 (idx s (w64 (t1.2 + (sep.length : Int)))).bind fun ch2 =>
 let h3:=IntKind.u32.wrap (h2 - (IntKind.u32.wrap (x.2 * (IntKind.u32.wrap (ch2.toNat : Int)))))
 (
  bif h3 == x.1 then
  (slc s t1.2 (w64 (t1.2 + (sep.length : Int)))).bind fun s2 =>
  some (s2 == sep)
  else
  some false).bind fun q1 =>
 bif q1 then
  some (.inr (.inl (t1.2)))
 else
  some (.inl (h3,w64 (t1.2 - 1)))
 else
 some (.inr (.inr ()))
def kL (s : List UInt8) (last : Int) (t : Int × Int) : Option ((Int × Int) ⊕ Int) :=
 bif decide (t.2 ≥ last) then
 (idx s t.2).bind fun ch =>
 let h:=IntKind.u32.wrap ((IntKind.u32.wrap (t.1 * 16777619)) + (IntKind.u32.wrap (ch.toNat : Int)))
 some (.inl (h,w64 (t.2 - 1)))
 else
 some (.inr t.1)
def gf (s : List UInt8) (sep : List UInt8) : Option Int :=
 (kc sep).bind fun x =>
 let last:=w64 ((s.length : Int) - (sep.length : Int))
 let i:=w64 ((s.length : Int) - 1)
 (loop (kL s last) (0,i)).bind fun h1 =>
 (
 bif h1 == x.1 then
  (slc s last (s.length : Int)).bind fun s1 =>
  some (s1 == sep)
 else
  some false).bind fun q =>
 bif q then
 some last
 else
 (loop (kM s sep x) (h1,w64 (last - 1))).bind fun q0 =>
 match q0 with
 | .inl q2 =>
  some q2
 | .inr _ =>
  some (-1)
def h329 : Hint:=(.s .z (.s .z (.s .z (.s .z (.s .z (.s (.s .z (.b (.l [(9,.v (.int .u32) []),(10,.v (.int .i64) [])] [9,10] [(2,[(9,.v (.int .u32) [])])] .z))) (.s (.s (.j [] [(0,[(47,.v .bool [])])] .z) .z) (.s (.s .z (.b (.l [(9,.v (.int .u32) []),(11,.v (.int .i64) [])] [4,9,11,85] [(1,[(4,.v (.int .i64) [])]),(4,[])] (.s .z (.s (.b (.s .z (.s .z (.s .z (.s (.j [] [(0,[(85,.v .bool [])])] .z) .z))))) .z))))) .z))))))))
def sp329 : Spec fam:=⟨[.v .str [],.v .str []],[.v (.int .i64) []],fun a => gf a.1 a.2.1⟩
def dC (s : List UInt8) (substr : List UInt8) : Option Int :=
 bif (substr.length : Int) == 0 then
 some (s.length : Int)
 else
 bif (substr.length : Int) == 1 then
  (idx substr 0).bind fun ch =>
  (aL s (ch.toNat : Int)).bind fun x =>
  some x
 else
  bif (substr.length : Int) == (s.length : Int) then
  bif substr == s then
   some 0
  else
   some (-1)
  else
  bif decide ((substr.length : Int) > (s.length : Int)) then
   some (-1)
  else
   (gf s substr).bind fun x1 =>
   some x1
def h275 : Hint:=.z
def sp275 : Spec fam:=⟨[.v .str [],.v .str []],[.v (.int .i64) []],fun a => dC a.1 a.2.1⟩
def jZ (path : List UInt8) : Option (List UInt8 × Bool) :=
 (dC path ([46] : List UInt8)).bind fun i =>
 bif decide (i < 0) then
 some (([] : List UInt8),false)
 else
 (slc path 0 i).bind fun s =>
 some (s,true)
def h201 : Hint:=.z
def sp201 : Spec fam:=⟨[.v .str []],[.v .str [],.v .bool []],fun a => jZ a.1⟩
def mU (t : List UInt8 × List (List UInt8)) : Option ((List UInt8 × List (List UInt8)) ⊕ List (List UInt8)) :=
 bif ! (t.1 == ([] : List UInt8)) then
 (app 16 t.2 [t.1]).bind fun l =>
 (jZ t.1).bind fun x =>
 some (.inl (x.1,l))
 else
 some (.inr t.2)
def qj (path : List UInt8) : Option (List (List UInt8)) :=
 (loop mU (path,[])).bind fun out =>
 some out
def h278 : Hint:=(.s .z (.s .z (.s (.b (.l [(0,.v .str []),(3,.v (.slice (.str)) [0])] [0,3] [(2,[(3,.v (.slice (.str)) [0])])] .z)) .z)))
def sp278 : Spec fam:=⟨[.v .str []],[.v (.slice (.str)) [0]],fun a => qj a.1⟩
def kg (s : List Queue) (f : (TupT fam [.st 2] → Option Bool)) (t : Int) : Option (Int ⊕ (Int ⊕ Unit)) :=
 bif decide (t < (s.length : Int)) then
 (idx s t).bind fun x =>
 (f (x,())).bind fun r =>
 bif r then
  some (.inr (.inl t))
 else
  some (.inl (w64 (t + 1)))
 else
 some (.inr (.inr ()))
def qk (s : List Queue) (f : (TupT fam [.st 2] → Option Bool)) : Option Int :=
 (loop (kg s f) 0).bind fun q0 =>
 match q0 with
 | .inl q =>
 some q
 | .inr _ =>
 some (-1)
def h331 : Hint:=(.s .z (.s (.s .z (.b (.l [(8,.v (.int .i64) [])] [4,5,8] [(1,[(4,.v (.int .i64) [])]),(2,[])] .z))) .z))
def sp331 : Spec fam:=⟨[.v (.slice (.st 2)) [],.fn [.st 2] .bool],[.v (.int .i64) []],fun a => qk a.1 a.2.1⟩
def lJ (q : Queue) (p : List UInt8) : Option Bool :=
 some (q.Path == p)
def h332 : Hint:=.z
def sp332 : Spec fam:=⟨[.v (.st 2) [],.rp .str],[.v .bool []],fun a => lJ a.1 a.2.1⟩
def me (c : Conf) (path : List UInt8) : Option (Queue × Bool) :=
 (qk c.Queues (fun a' => lJ a'.1 path)).bind fun i =>
 bif decide (i < 0) then
 some ((⟨[],[],0⟩ : Queue),false)
 else
 (idx c.Queues i).bind fun x =>
 (oT x.Caps).bind fun x1 =>
 some ((⟨x.Path,x1,x.User⟩ : Queue),true)
def h279 : Hint:=.z
def sp279 : Spec fam:=⟨[.v (.st 3) [],.v .str []],[.v (.st 2) [1],.v .bool []],fun a => me a.1 a.2.1⟩
def ls (x : Int) (y : Int) : Option (Int × Int) :=
 let w0:=IntKind.u64.wrap ((andK .u64 x 4294967295) * (andK .u64 y 4294967295))
 let t:=IntKind.u64.wrap ((IntKind.u64.wrap ((shrK .u64 x 32) * (andK .u64 y 4294967295))) + (shrK .u64 w0 32))
 let w1:=IntKind.u64.wrap ((andK .u64 t 4294967295) + (IntKind.u64.wrap ((andK .u64 x 4294967295) * (shrK .u64 y 32))))
 let hi:=IntKind.u64.wrap ((IntKind.u64.wrap ((IntKind.u64.wrap ((shrK .u64 x 32) * (shrK .u64 y 32))) + (shrK .u64 t 32))) + (shrK .u64 w1 32))
 some (hi,IntKind.u64.wrap (x * y))
def h340 : Hint:=.z
def sp340 : Spec fam:=⟨[.v (.int .u64) [],.v (.int .u64) []],[.v (.int .u64) [],.v (.int .u64) []],fun a => ls a.1 a.2.1⟩
def uq (x : Int) : Option Int :=
 (
 bif decide (x ≥ 4294967296) then
  some (shrK .u64 x 32,32)
 else
  some (x,0)).bind fun q =>
 (
 bif decide (q.1 ≥ 65536) then
  some (shrK .u64 q.1 16,w64 (q.2 + 16))
 else
  some (q.1,q.2)).bind fun q1 =>
 (
 bif decide (q1.1 ≥ 256) then
  some (shrK .u64 q1.1 8,w64 (q1.2 + 8))
 else
  some (q1.1,q1.2)).bind fun q2 =>
 (idx ([0,1,2,2,3,3,3,3,4,4,4,4,4,4,4,4,5,5,5,5,5,5,5,5,5,5,5,5,5,5,5,5,6,6,6,6,6,6,6,6,6,6,6,6,6,6,6,6,6,6,6,6,6,6,6,6,6,6,6,6,6,6,6,6,7,7,7,7,7,7,7,7,7,7,7,7,7,7,7,7,7,7,7,7,7,7,7,7,7,7,7,7,7,7,7,7,7,7,7,7,7,7,7,7,7,7,7,7,7,7,7,7,7,7,7,7,7,7,7,7,7,7,7,7,7,7,7,7,8,8,8,8,8,8,8,8,8,8,8,8,8,8,8,8,8,8,8,8,8,8,8,8,8,8,8,8,8,8,8,8,8,8,8,8,8,8,8,8,8,8,8,8,8,8,8,8,8,8,8,8,8,8,8,8,8,8,8,8,8,8,8,8,8,8,8,8,8,8,8,8,8,8,8,8,8,8,8,8,8,8,8,8,8,8,8,8,8,8,8,8,8,8,8,8,8,8,8,8,8,8,8,8,8,8,8,8,8,8,8,8,8,8,8,8,8,8,8,8,8,8,8,8,8,8,8,8] : List UInt8) (IntKind.u8.wrap q2.1)).bind fun ch =>
 let n:=w64 (q2.2 + (w64 (ch.toNat : Int)))
 some n
def h251 : Hint:=(.s .z (.s (.j [0,2] [(0,[(0,.v (.int .u64) []),(2,.v (.int .i64) [])])] .z) (.s (.j [0,2] [(0,[(0,.v (.int .u64) []),(2,.v (.int .i64) [])])] .z) (.s (.j [0,2] [(0,[(0,.v (.int .u64) []),(2,.v (.int .i64) [])])] .z) .z))))
def sp251 : Spec fam:=⟨[.v (.int .u64) []],[.v (.int .i64) []],fun a => uq a.1⟩
def m4 (x : Int) : Option Int :=
 (uq x).bind fun x1 =>
 some (w64 (64 - x1))
def h373 : Hint:=.z
def sp373 : Spec fam:=⟨[.v (.int .u64) []],[.v (.int .i64) []],fun a => m4 a.1⟩
def v5 (yn1 : Int) (yn0 : Int) (un0 : Int) (t1 : Int × Int) : Option ((Int × Int) ⊕ Int) :=
 (
 bif decide (t1.2 ≥ 4294967296) then
  some true
 else
  some (decide ((IntKind.u64.wrap (t1.2 * yn0)) > (IntKind.u64.wrap ((IntKind.u64.wrap (4294967296 * t1.1)) + un0))))).bind fun q2 =>
 bif q2 then
 bif decide ((IntKind.u64.wrap (t1.1 + yn1)) ≥ 4294967296) then
  some (.inr (IntKind.u64.wrap (t1.2 - 1)))
 else
  some (.inl (IntKind.u64.wrap (t1.1 + yn1),IntKind.u64.wrap (t1.2 - 1)))
 else
 some (.inr t1.2)
def v6 (yn1 : Int) (yn0 : Int) (un1 : Int) (t : Int × Int) : Option ((Int × Int) ⊕ Int) :=
 (
 bif decide (t.1 ≥ 4294967296) then
  some true
 else
  some (decide ((IntKind.u64.wrap (t.1 * yn0)) > (IntKind.u64.wrap ((IntKind.u64.wrap (4294967296 * t.2)) + un1))))).bind fun q =>
 bif q then
 bif decide ((IntKind.u64.wrap (t.2 + yn1)) ≥ 4294967296) then
  some (.inr (IntKind.u64.wrap (t.1 - 1)))
 else
  some (.inl (IntKind.u64.wrap (t.1 - 1),IntKind.u64.wrap (t.2 + yn1)))
 else
 some (.inr t.1)
def qt (hi : Int) (lo : Int) (y : Int) : Option (Int × Int) :=
 bif y == 0 then
 none
 else
 bif decide (y ≤ hi) then
  none
 else
  bif hi == 0 then
  (nz y).bind fun _ =>
  (nz y).bind fun _ =>
  some (IntKind.u64.wrap (Int.tdiv lo y),Int.tmod lo y)
  else
  (m4 y).bind fun x =>
  (nn (IntKind.u64.wrap x)).bind fun _ =>
  let yn1:=shrK .u64 (shlK .u64 y (IntKind.u64.wrap x)) 32
  let yn0:=andK .u64 (shlK .u64 y (IntKind.u64.wrap x)) 4294967295
  (nn (IntKind.u64.wrap x)).bind fun _ =>
  (nn (IntKind.u64.wrap (64 - (IntKind.u64.wrap x)))).bind fun _ =>
  let un32:=orK .u64 (shlK .u64 hi (IntKind.u64.wrap x)) (shrK .u64 lo (IntKind.u64.wrap (64 - (IntKind.u64.wrap x))))
  (nn (IntKind.u64.wrap x)).bind fun _ =>
  let un1:=shrK .u64 (shlK .u64 lo (IntKind.u64.wrap x)) 32
  let un0:=andK .u64 (shlK .u64 lo (IntKind.u64.wrap x)) 4294967295
  (nz yn1).bind fun _ =>
  let rhat:=IntKind.u64.wrap (un32 - (IntKind.u64.wrap ((IntKind.u64.wrap (Int.tdiv un32 yn1)) * yn1)))
  (loop (v6 yn1 yn0 un1) (IntKind.u64.wrap (Int.tdiv un32 yn1),rhat)).bind fun q1 =>
  let un21:=IntKind.u64.wrap ((IntKind.u64.wrap ((IntKind.u64.wrap (un32 * 4294967296)) + un1)) - (IntKind.u64.wrap (q1 * (shlK .u64 y (IntKind.u64.wrap x)))))
  (nz yn1).bind fun _ =>
  let rhat1:=IntKind.u64.wrap (un21 - (IntKind.u64.wrap ((IntKind.u64.wrap (Int.tdiv un21 yn1)) * yn1)))
  (loop (v5 yn1 yn0 un0) (rhat1,IntKind.u64.wrap (Int.tdiv un21 yn1))).bind fun q0 =>
  (nn (IntKind.u64.wrap x)).bind fun _ =>
  let quo:=IntKind.u64.wrap ((IntKind.u64.wrap (q1 * 4294967296)) + q0)
  let rem:=shrK .u64 (IntKind.u64.wrap ((IntKind.u64.wrap ((IntKind.u64.wrap (un21 * 4294967296)) + un0)) - (IntKind.u64.wrap (q0 * (shlK .u64 y (IntKind.u64.wrap x)))))) (IntKind.u64.wrap x)
  some (quo,rem)
def h363 : Hint:=(.s .z (.s .z (.s .z (.s .z (.s .z (.s .z (.s .z (.s .z (.s .z (.s .z (.s .z (.s .z (.s .z (.s .z (.s (.b (.l [(15,.v (.int .u64) []),(16,.v (.int .u64) [])] [15,16,78] [(2,[(15,.v (.int .u64) [])])] (.s (.s (.j [] [(0,[(78,.v .bool [])])] .z) .z) .z))) (.s .z (.s .z (.s .z (.s (.b (.l [(16,.v (.int .u64) []),(18,.v (.int .u64) [])] [16,18,113] [(4,[(18,.v (.int .u64) [])])] (.s (.s (.j [] [(0,[(113,.v .bool [])])] .z) .z) .z))) .z)))))))))))))))))))
def sp363 : Spec fam:=⟨[.v (.int .u64) [],.v (.int .u64) [],.v (.int .u64) []],[.v (.int .u64) [],.v (.int .u64) []],fun a => qt a.1 a.2.1 a.2.2.1⟩
def nK (n : Int) (bp : Int) : Option Int :=
 (ls (IntKind.u64.wrap n) (IntKind.u64.wrap bp)).bind fun x =>
 (qt x.1 x.2 10000).bind fun x1 =>
 some (w64 x1.1)
def h333 : Hint:=.z
def sp333 : Spec fam:=⟨[.v (.int .i64) [],.v (.int .i64) []],[.v (.int .i64) []],fun a => nK a.1 a.2.1⟩
def mV (a : Vec) (bp : Int) : Option (Vec × Int) :=
 (
 (bc a).bind fun x =>
 bif ! x then
  some true
 else
  bif decide (bp < 0) then
  some true
  else
  some (decide (bp > 1000000))).bind fun q =>
 bif q then
 some ((⟨0,0⟩ : Vec),1)
 else
 (nK a.Mem bp).bind fun x1 =>
 (nK a.Cores bp).bind fun x2 =>
 (nW (⟨x1,x2⟩ : Vec)).bind fun x3 =>
 some (x3.1,x3.2)
def h280 : Hint:=(.s .z (.s (.s (.j [] [(0,[(16,.v .bool [])])] .z) .z) .z))
def sp280 : Spec fam:=⟨[.v (.st 0) [],.v (.int .i64) []],[.v (.st 0) [],.v (.int .i64) []],fun a => mV a.1 a.2.1⟩
def lW (s : State) (label : Int) (part : (TupT fam [.st 1] → Option Int)) (up : List (List UInt8)) (t : Vec × Vec × Int) : Option ((Vec × Vec × Int) ⊕ (Vec ⊕ (Vec × Vec))) :=
 bif decide (t.2.2 ≥ 0) then
 (inb t.2.2 up.length).bind fun i1 =>
 (up[i1]?).bind fun x2 =>
 (me s.Conf x2).bind fun x3 =>
 (
  bif ! x3.2 then
  some true
  else
  bif decide (label < 0) then
   some true
  else
   some (decide (label ≥ (x3.1.Caps.length : Int)))).bind fun q =>
 bif q then
  some (.inr (.inl (⟨0,0⟩ : Vec)))
 else
  (inb label x3.1.Caps.length).bind fun i2 =>
  (x3.1.Caps[i2]?).bind fun x4 =>
  (part (x4,())).bind fun r =>
  (mV t.2.1 r).bind fun x5 =>
  some (.inl (t.1,x5.1,w64 (t.2.2 - 1)))
 else
 some (.inr (.inr (t.1,t.2.1)))
def mJ (s : State) (path : List UInt8) (label : Int) (part : (TupT fam [.st 1] → Option Int)) : Option Vec :=
 (qj path).bind fun up =>
 (me s.Conf path).bind fun x =>
 bif ! x.2 then
 some (⟨0,0⟩ : Vec)
 else
 (lO s label).bind fun x1 =>
 let i:=w64 ((up.length : Int) - 2)
 (loop (lW s label part up) ((⟨0,0⟩ : Vec),x1,i)).bind fun q0 =>
 match q0 with
 | .inl q1 =>
  some q1
 | .inr q2 =>
  some q2.2
def h203 : Hint:=(.s .z (.s .z (.s .z (.s .z (.s (.s .z (.b (.l [(8,.box (.st 0) []),(12,.box (.st 0) []),(13,.v (.int .i64) [])] [8,12,13,14,60] [(1,[(8,.box (.st 0) [])]),(2,[(8,.box (.st 0) []),(12,.box (.st 0) [])])] (.s .z (.s (.b (.s .z (.s (.s (.j [] [(0,[(60,.v .bool [])])] .z) .z) .z))) .z))))) .z)))))
def sp203 : Spec fam:=⟨[.v (.st 10) [],.v .str [],.v (.int .i64) [],.fn [.st 1] (.int .i64)],[.v (.st 0) []],fun a => mJ a.1 a.2.1 a.2.2.1 a.2.2.2.1⟩
def mO (c : Cap) : Option Int :=
 some c.Least
def h204 : Hint:=.z
def sp204 : Spec fam:=⟨[.v (.st 1) []],[.v (.int .i64) []],fun a => mO a.1⟩
def kx (s : State) (path : List UInt8) (label : Int) : Option Vec :=
 (mJ s path label (fun a' => mO a'.1)).bind fun x =>
 some x
def h122 : Hint:=.z
def sp122 : Spec fam:=⟨[.v (.st 10) [],.v .str [],.v (.int .i64) []],[.v (.st 0) []],fun a => kx a.1 a.2.1 a.2.2.1⟩
def fb (t : Attempt) (a : App) (x : Ask) : Option Bool :=
 (lr t.s a.Queue t.n.Label).bind fun x1 =>
 (k_ x1 x.Size).bind fun x2 =>
 bif x2.2 == 0 then
 (kx t.s a.Queue t.n.Label).bind fun x3 =>
 (i_ x2.1 x3).bind fun x4 =>
 some x4
 else
 some false
def h183 : Hint:=.z
def sp183 : Spec fam:=⟨[.rp (.st 19),.v (.st 6) [],.v (.st 5) []],[.v .bool []],fun a => fb a.1 a.2.1 a.2.2.1⟩
def li (s : State) (path : List UInt8) (label : Int) (user : Int) : Option Vec :=
 bif user == (-1) then
 some (⟨0,0⟩ : Vec)
 else
 (iN (⟨⟨⟨s.Conf.Labels,s.Conf.Queues⟩,s.Nodes,s.Apps,s.Conts,s.Slots,s.Plans,s.Now,s.Epoch,s.Seq⟩,path,label,user⟩ : View)).bind fun x =>
 some x
def h259 : Hint:=.z
def sp259 : Spec fam:=⟨[.v (.st 10) [],.v .str [],.v (.int .i64) [],.v (.int .i64) []],[.v (.st 0) []],fun a => li a.1 a.2.1 a.2.2.1 a.2.2.2.1⟩
def n9 (s : State) (path : List UInt8) (label : Int) : Option Vec :=
 (me s.Conf path).bind fun x =>
 (kx s path label).bind fun x1 =>
 (mV x1 x.1.User).bind fun x2 =>
 some x2.1
def h260 : Hint:=.z
def sp260 : Spec fam:=⟨[.v (.st 10) [],.v .str [],.v (.int .i64) []],[.v (.st 0) []],fun a => n9 a.1 a.2.1 a.2.2.1⟩
def d_ (t : Attempt) (a : App) : Option Bool :=
 (li t.s a.Queue t.n.Label a.User).bind fun x =>
 (n9 t.s a.Queue t.n.Label).bind fun x1 =>
 (i_ x x1).bind fun x2 =>
 some x2
def h184 : Hint:=.z
def sp184 : Spec fam:=⟨[.rp (.st 19),.v (.st 6) []],[.v .bool []],fun a => d_ a.1 a.2.1⟩
def eB (t : Attempt) (x : Ask) : Option Bool :=
 (i_ x.Size t.free).bind fun x1 =>
 some x1
def h185 : Hint:=.z
def sp185 : Spec fam:=⟨[.rp (.st 19),.v (.st 5) []],[.v .bool []],fun a => eB a.1 a.2.1⟩
def m0 (c : Cap) : Option Int :=
 some c.Most
def h346 : Hint:=.z
def sp346 : Spec fam:=⟨[.v (.st 1) []],[.v (.int .i64) []],fun a => m0 a.1⟩
def n7 (s : State) (path : List UInt8) (label : Int) : Option Vec :=
 (mJ s path label (fun a' => m0 a'.1)).bind fun x =>
 some x
def h300 : Hint:=.z
def sp300 : Spec fam:=⟨[.v (.st 10) [],.v .str [],.v (.int .i64) []],[.v (.st 0) []],fun a => n7 a.1 a.2.1 a.2.2.1⟩
def lR (s : State) (label : Int) (t : List Vec × Int) : Option ((List Vec × Int) ⊕ List Vec) :=
 bif decide (t.2 < (s.Plans.length : Int)) then
 (
  (idx s.Plans t.2).bind fun x =>
  (
  bif x.Label == label then
   bif decide (x.From ≤ s.Now) then
   some (decide (x.Until > s.Now))
   else
   some false
  else
   some false).bind fun q =>
  bif q then
  (app 16 t.1 [x.Need]).bind fun l =>
  some l
  else
  some t.1).bind fun l1 =>
 some (.inl (l1,w64 (t.2 + 1)))
 else
 some (.inr t.1)
def n_ (s : State) (label : Int) : Option Vec :=
 (loop (lR s label) ([],0)).bind fun l2 =>
 (nO l2).bind fun x1 =>
 some x1
def h316 : Hint:=(.s .z (.s .z (.s (.s .z (.b (.l [(5,.v (.slice (.st 0)) [0]),(11,.v (.int .i64) [])] [5,7,11,32] [(2,[(5,.v (.slice (.st 0)) [0])])] (.s .z (.s .z (.s (.j [5,7,32] [(0,[(5,.v (.slice (.st 0)) [0])])] (.b (.s .z (.s (.j [] [(0,[(32,.v .bool [])])] .z) .z)))) .z)))))) .z)))
def sp316 : Spec fam:=⟨[.v (.st 10) [],.v (.int .i64) []],[.v (.st 0) []],fun a => n_ a.1 a.2.1⟩
def ke (s : State) (label : Int) (size : Vec) (x : List (List UInt8)) (t : Int) : Option (Int ⊕ (Bool ⊕ Unit)) :=
 bif decide (t < (x.length : Int)) then
 (inb t x.length).bind fun i =>
 (x[i]?).bind fun x1 =>
 (lr s x1 label).bind fun x2 =>
 (k_ x2 size).bind fun x3 =>
 (
  bif x3.2 != 0 then
  some true
  else
  (n7 s x1 label).bind fun x4 =>
  (i_ x3.1 x4).bind fun x5 =>
  some (! x5)).bind fun q =>
 bif q then
  some (.inr (.inl false))
 else
  (lO s label).bind fun x6 =>
  (n_ s label).bind fun x7 =>
  (
  bif x1 == ([114,111,111,116] : List UInt8) then
   bif ! (((imax (w64 (x6.Mem - x7.Mem)) 0) == x6.Mem) && ((imax (w64 (x6.Cores - x7.Cores)) 0) == x6.Cores)) then
   (i_ x3.1 (⟨imax (w64 (x6.Mem - x7.Mem)) 0,imax (w64 (x6.Cores - x7.Cores)) 0⟩ : Vec)).bind fun x8 =>
   some (! x8)
   else
   some false
  else
   some false).bind fun q1 =>
  bif q1 then
  some (.inr (.inl false))
  else
  some (.inl (w64 (t + 1)))
 else
 some (.inr (.inr ()))
def oa (s : State) (path : List UInt8) (label : Int) (size : Vec) : Option Bool :=
 (qj path).bind fun x =>
 (loop (ke s label size x) 0).bind fun q0 =>
 match q0 with
 | .inl q2 =>
 some q2
 | .inr _ =>
 some true
def h261 : Hint:=(.s .z (.s (.s .z (.b (.l [(19,.v (.int .i64) [])] [8,10,11,12,13,14,15,19,42,74] [(1,[(8,.v .bool [])]),(2,[])] (.s .z (.s .z (.s (.b (.s .z (.s .z (.s (.s (.j [] [(0,[(42,.v .bool [])])] .z) .z) (.s .z (.s .z (.s (.j [] [(0,[(74,.v .bool [])])] .z) .z))))))) .z)))))) .z))
def sp261 : Spec fam:=⟨[.v (.st 10) [],.v .str [],.v (.int .i64) [],.v (.st 0) []],[.v .bool []],fun a => oa a.1 a.2.1 a.2.2.1 a.2.2.2.1⟩
def eo (t : Attempt) (a : App) (x : Ask) : Option Bool :=
 (oa t.s a.Queue t.n.Label x.Size).bind fun x1 =>
 some x1
def h186 : Hint:=.z
def sp186 : Spec fam:=⟨[.rp (.st 19),.v (.st 6) [],.v (.st 5) []],[.v .bool []],fun a => eo a.1 a.2.1 a.2.2.1⟩
def lS (s : List Slot) (i : Int) (j : Int) : Option (List Slot):=del s i j
def sp187 : Spec fam:=⟨[.v (.slice (.st 8)) [0],.v (.int .i64) [],.v (.int .i64) []],[.v (.slice (.st 8)) [0]],fun a => lS a.1 a.2.1 a.2.2.1⟩
def oE (l : List Ask) : Option (List Ask) :=
 (mkl 64 (l.length : Int) (l.length : Int) (⟨0,0,⟨0,0⟩,0,0,0,0⟩ : Ask)).bind fun l1 =>
 some (cpy l1 0 l1.length l)
def h317 : Hint:=.z
def sp317 : Spec fam:=⟨[.v (.slice (.st 5)) []],[.v (.slice (.st 5)) [0]],fun a => oE a.1⟩
def kJ (s : List Ask) (f : (TupT fam [.st 5] → Option Bool)) (t : Int) : Option (Int ⊕ (Int ⊕ Unit)) :=
 bif decide (t < (s.length : Int)) then
 (idx s t).bind fun x =>
 (f (x,())).bind fun r =>
 bif r then
  some (.inr (.inl t))
 else
  some (.inl (w64 (t + 1)))
 else
 some (.inr (.inr ()))
def kO (s : List Ask) (f : (TupT fam [.st 5] → Option Bool)) : Option Int :=
 (loop (kJ s f) 0).bind fun q0 =>
 match q0 with
 | .inl q =>
 some q
 | .inr _ =>
 some (-1)
def h354 : Hint:=(.s .z (.s (.s .z (.b (.l [(8,.v (.int .i64) [])] [4,5,8] [(1,[(4,.v (.int .i64) [])]),(2,[])] .z))) .z))
def sp354 : Spec fam:=⟨[.v (.slice (.st 5)) [],.fn [.st 5] .bool],[.v (.int .i64) []],fun a => kO a.1 a.2.1⟩
def rh (a : Ask) (p : Int) : Option Bool :=
 some (a.Prio == p)
def h355 : Hint:=.z
def sp355 : Spec fam:=⟨[.v (.st 5) [],.rp (.int .i64)],[.v .bool []],fun a => rh a.1 a.2.1⟩
def ox (l : List Ask) (prio : Int) : Option Int :=
 (kO l (fun a' => rh a'.1 prio)).bind fun x =>
 some x
def h318 : Hint:=.z
def sp318 : Spec fam:=⟨[.v (.slice (.st 5)) [],.v (.int .i64) []],[.v (.int .i64) []],fun a => ox a.1 a.2.1⟩
def o9 (s : List Ask) (i : Int) (j : Int) : Option (List Ask):=del s i j
def sp319 : Spec fam:=⟨[.v (.slice (.st 5)) [0],.v (.int .i64) [],.v (.int .i64) []],[.v (.slice (.st 5)) [0]],fun a => o9 a.1 a.2.1 a.2.2.1⟩
def pe (l : List Ask) (prio : Int) : Option (List Ask × Bool) :=
 (oE l).bind fun out =>
 (ox out prio).bind fun i =>
 bif decide (i < 0) then
 some (out,false)
 else
 (inb i out.length).bind fun i1 =>
 (out[i1]?).bind fun x =>
 (inb i (List.set out i1 (⟨x.Prio,x.Label,⟨x.Size.Mem,x.Size.Cores⟩,x.Count,x.Node,x.Rack,0⟩ : Ask)).length).bind fun i2 =>
 ((List.set out i1 (⟨x.Prio,x.Label,⟨x.Size.Mem,x.Size.Cores⟩,x.Count,x.Node,x.Rack,0⟩ : Ask))[i2]?).bind fun x1 =>
 (inb i (List.set out i1 (⟨x.Prio,x.Label,⟨x.Size.Mem,x.Size.Cores⟩,x.Count,x.Node,x.Rack,0⟩ : Ask)).length).bind fun i3 =>
 ((List.set out i1 (⟨x.Prio,x.Label,⟨x.Size.Mem,x.Size.Cores⟩,x.Count,x.Node,x.Rack,0⟩ : Ask))[i3]?).bind fun x2 =>
 (
  (inb i (List.set (List.set out i1 (⟨x.Prio,x.Label,⟨x.Size.Mem,x.Size.Cores⟩,x.Count,x.Node,x.Rack,0⟩ : Ask)) i3 (⟨x2.Prio,x2.Label,⟨x2.Size.Mem,x2.Size.Cores⟩,w64 (x1.Count - 1),x2.Node,x2.Rack,x2.Missed⟩ : Ask)).length).bind fun i4 =>
  ((List.set (List.set out i1 (⟨x.Prio,x.Label,⟨x.Size.Mem,x.Size.Cores⟩,x.Count,x.Node,x.Rack,0⟩ : Ask)) i3 (⟨x2.Prio,x2.Label,⟨x2.Size.Mem,x2.Size.Cores⟩,w64 (x1.Count - 1),x2.Node,x2.Rack,x2.Missed⟩ : Ask))[i4]?).bind fun x3 =>
  bif decide (x3.Count ≤ 0) then
  (o9 (List.set (List.set out i1 (⟨x.Prio,x.Label,⟨x.Size.Mem,x.Size.Cores⟩,x.Count,x.Node,x.Rack,0⟩ : Ask)) i3 (⟨x2.Prio,x2.Label,⟨x2.Size.Mem,x2.Size.Cores⟩,w64 (x1.Count - 1),x2.Node,x2.Rack,x2.Missed⟩ : Ask)) i (w64 (i + 1))).bind fun out1 =>
  some out1
  else
  some (List.set (List.set out i1 (⟨x.Prio,x.Label,⟨x.Size.Mem,x.Size.Cores⟩,x.Count,x.Node,x.Rack,0⟩ : Ask)) i3 (⟨x2.Prio,x2.Label,⟨x2.Size.Mem,x2.Size.Cores⟩,w64 (x1.Count - 1),x2.Node,x2.Rack,x2.Missed⟩ : Ask))).bind fun out2 =>
 some (out2,true)
def h262 : Hint:=(.s .z (.s .z (.s .z (.s .z (.s .z (.s .z (.s (.j [6] [(0,[(6,.v (.slice (.st 5)) [0])])] .z) .z)))))))
def sp262 : Spec fam:=⟨[.v (.slice (.st 5)) [],.v (.int .i64) []],[.v (.slice (.st 5)) [0],.v .bool []],fun a => pe a.1 a.2.1⟩
def xG (_a0 : List App) (_a1 : Int) (_a2 : List App) : Option (List App):=none
def sp356 : Spec fam:=⟨[.v (.slice (.st 6)) [],.v (.int .i64) [],.v (.slice (.st 6)) []],[.v (.slice (.st 6)) []],fun a => xG a.1 a.2.1 a.2.2.1⟩
def yr (s : State) (a : App) (k : Int) : Option (Int ⊕ Int) :=
 (
 bif decide (k < (s.Apps.length : Int)) then
  (inb k s.Apps.length).bind fun i2 =>
  (s.Apps[i2]?).bind fun x1 =>
  some (decide (x1.Id < a.Id))
 else
  some false).bind fun q =>
 bif q then
 some (.inl (w64 (k + 1)))
 else
 some (.inr k)
def qq (s : State) (a : App) : Option State :=
 (og s a.Id).bind fun i =>
 bif decide (i ≥ 0) then
 (inb i s.Apps.length).bind fun i1 =>
 (s.Apps[i1]?).bind fun x =>
 some (⟨⟨s.Conf.Labels,s.Conf.Queues⟩,s.Nodes,List.set s.Apps i1 a,s.Conts,s.Slots,s.Plans,s.Now,s.Epoch,s.Seq⟩ : State)
 else
 (loop (yr s a) 0).bind fun k1 =>
 none
def h320 : Hint:=(.s .z (.s .z (.s .z (.s (.b (.l [(6,.v (.int .i64) [])] [6,34] [(2,[(6,.v (.int .i64) [])])] (.s (.s (.j [] [(0,[(34,.v .bool [])])] .z) .z) .z))) .z))))
def sp320 : Spec fam:=⟨[.v (.st 10) [0,1,2,3,4,5,6],.v (.st 6) [7,10,11,12,13,9999]],[.v (.st 10) [0,1,2,3,4,5,6]],fun a => qq a.1 a.2.1⟩
def l8 (s : State) (a : App) : Option State :=
 (nt s).bind fun x =>
 (np a).bind fun x1 =>
 (qq x x1).bind fun x2 =>
 some x2
def h263 : Hint:=.z
def sp263 : Spec fam:=⟨[.v (.st 10) [],.ln (.st 6)],[.v (.st 10) [0,1,2,3,4,5,6]],fun a => l8 a.1 a.2.1⟩
def uy (s : List Cont) (i : Int) (v : List Cont) : Option (List Cont) :=
 (inS i (s.length : Int) s.length).bind fun p =>
 bif (v.length : Int) == 0 then
 some s
 else
 bif i == (s.length : Int) then
  (app 72 s v).bind fun l =>
  some l
 else
  none
def lZ (s : List Cont) (i : Int) (v : List Cont) : Option (List Cont):=ins s i v
def h264 : Hint:=.z
def sp264 : Spec fam:=⟨[.v (.slice (.st 7)) [0],.v (.int .i64) [],.v (.slice (.st 7)) [0]],[.v (.slice (.st 7)) [0]],fun a => lZ a.1 a.2.1 a.2.2.1⟩
def Fc : Spec fam:=⟨[.v (.slice (.st 7)) [0],.v (.int .i64) [],.v (.slice (.st 7)) [0]],[.v (.slice (.st 7)) [0]],fun a => uy a.1 a.2.1 a.2.2.1⟩
def dN (t : Attempt) (x2 : State) (k : Int) : Option (Int ⊕ Int) :=
 (
 bif decide (k < (x2.Conts.length : Int)) then
  (inb k x2.Conts.length).bind fun i =>
  (x2.Conts[i]?).bind fun x3 =>
  some (decide (x3.Id < (w64 ((shlK .i64 t.s.Epoch 20) + (w64 (t.s.Seq + 1))))))
 else
  some false).bind fun q =>
 bif q then
 some (.inl (w64 (k + 1)))
 else
 some (.inr k)
def bV (t : Attempt) (a : App) (x : Ask) : Option (Cont × Attempt) :=
 (pe a.Asks x.Prio).bind fun x1 =>
 (
 bif a.State == 1 then
  some (⟨a.Id,2,a.Queue,a.User,a.Prio,⟨a.Master.Mem,a.Master.Cores⟩,[],t.s.Now,0,a.Grants,a.Kills,a.Told,a.Lost⟩ : App)
 else
  (app 8 a.Grants [w64 ((shlK .i64 t.s.Epoch 20) + (w64 (t.s.Seq + 1)))]).bind fun l =>
  some (⟨a.Id,a.State,a.Queue,a.User,a.Prio,⟨a.Master.Mem,a.Master.Cores⟩,x1.1,a.Seen,a.Beat,l,a.Kills,a.Told,a.Lost⟩ : App)).bind fun a1 =>
 (l8 (⟨⟨t.s.Conf.Labels,t.s.Conf.Queues⟩,t.s.Nodes,t.s.Apps,t.s.Conts,t.s.Slots,t.s.Plans,t.s.Now,t.s.Epoch,w64 (t.s.Seq + 1)⟩ : State) a1).bind fun x2 =>
 (loop (dN t x2) 0).bind fun k1 =>
 (lZ x2.Conts k1 [(⟨w64 ((shlK .i64 t.s.Epoch 20) + (w64 (t.s.Seq + 1))),a.Id,t.n.Id,⟨x.Size.Mem,x.Size.Cores⟩,x.Prio,x.Label,a.State == 1,0⟩ : Cont)]).bind fun x4 =>
 some ((⟨w64 ((shlK .i64 t.s.Epoch 20) + (w64 (t.s.Seq + 1))),a.Id,t.n.Id,⟨x.Size.Mem,x.Size.Cores⟩,x.Prio,x.Label,a.State == 1,0⟩ : Cont),(⟨⟨⟨x2.Conf.Labels,x2.Conf.Queues⟩,x2.Nodes,x2.Apps,x4,x2.Slots,x2.Plans,x2.Now,x2.Epoch,x2.Seq⟩,⟨t.n.Id,t.n.Label,t.n.Rack,⟨t.n.Cap.Mem,t.n.Cap.Cores⟩,t.n.Seen,t.n.Beat,t.n.Up⟩,⟨t.free.Mem,t.free.Cores⟩⟩ : Attempt))
def h188 : Hint:=(.s .z (.s .z (.s .z (.s .z (.s (.j [1,4] [(0,[(4,.box (.st 6) [7,10,11,12,13])])] .z) (.s .z (.s .z (.s (.b (.l [(8,.v (.int .i64) [])] [8,104] [(2,[(8,.v (.int .i64) [])])] (.s (.s (.j [] [(0,[(104,.v .bool [])])] .z) .z) .z))) .z))))))))
def sp188 : Spec fam:=⟨[.box (.st 19) [0,1,2,3,4,5,6],.v (.st 6) [7,10,11,12,13],.v (.st 5) []],[.v (.st 7) []],fun a => bV a.1 a.2.1 a.2.2.1⟩
def bG (t : Attempt) : Option (Int × Cont × Bool × Attempt) :=
 (iJ t.s.Slots (fun a' => fF a'.1 t)).bind fun i =>
 bif decide (i < 0) then
 some (0,(⟨0,0,0,⟨0,0⟩,0,0,false,0⟩ : Cont),false,t)
 else
 (inb i t.s.Slots.length).bind fun i1 =>
 (t.s.Slots[i1]?).bind fun x =>
 (nX t.s x.App).bind fun x1 =>
 (nF x1.1 x.Prio).bind fun x2 =>
 (
  bif x1.2 then
  (nQ x1.1).bind fun x3 =>
  bif x3 then
   bif x2.2 then
   (iP x2.1 t.n).bind fun x4 =>
   bif x4 then
    (c9 t x2.1).bind fun x5 =>
    bif x5 then
    (fb t x1.1 x2.1).bind fun x6 =>
    bif x6 then
     (d_ t x1.1).bind fun x7 =>
     some x7
    else
     some false
    else
    some false
   else
    some false
   else
   some false
  else
   some false
  else
  some false).bind fun stays =>
 (
  bif stays then
  (eB t x2.1).bind fun x8 =>
  bif x8 then
   (eo t x1.1 x2.1).bind fun x9 =>
   some (! x9)
  else
   some true
  else
  some false).bind fun q =>
 bif q then
  some (3,(⟨0,0,0,⟨0,0⟩,0,0,false,0⟩ : Cont),true,t)
 else
  (lS t.s.Slots i (w64 (i + 1))).bind fun x10 =>
  bif ! stays then
  some (0,(⟨0,0,0,⟨0,0⟩,0,0,false,0⟩ : Cont),false,(⟨⟨⟨t.s.Conf.Labels,t.s.Conf.Queues⟩,t.s.Nodes,t.s.Apps,t.s.Conts,x10,t.s.Plans,t.s.Now,t.s.Epoch,t.s.Seq⟩,⟨t.n.Id,t.n.Label,t.n.Rack,⟨t.n.Cap.Mem,t.n.Cap.Cores⟩,t.n.Seen,t.n.Beat,t.n.Up⟩,⟨t.free.Mem,t.free.Cores⟩⟩ : Attempt))
  else
  (bV (⟨⟨⟨t.s.Conf.Labels,t.s.Conf.Queues⟩,t.s.Nodes,t.s.Apps,t.s.Conts,x10,t.s.Plans,t.s.Now,t.s.Epoch,t.s.Seq⟩,⟨t.n.Id,t.n.Label,t.n.Rack,⟨t.n.Cap.Mem,t.n.Cap.Cores⟩,t.n.Seen,t.n.Beat,t.n.Up⟩,⟨t.free.Mem,t.free.Cores⟩⟩ : Attempt) x1.1 x2.1).bind fun x11 =>
  some (1,x11.1,true,x11.2)
def h105 : Hint:=(.s .z (.s .z (.s .z (.s .z (.s .z (.s .z (.s (.j [11] [(0,[(11,.v .bool [])])] .z) (.s (.s (.j [] [(0,[(91,.v .bool [])])] .z) .z) .z))))))))
def sp105 : Spec fam:=⟨[.box (.st 19) [0,1,2,3,4,5,6]],[.v (.int .i64) [],.v (.st 7) [],.v .bool []],fun a => bG a.1⟩
def mL (c : Conf) (path : List UInt8) (t : List (List UInt8) × Int) : Option ((List (List UInt8) × Int) ⊕ List (List UInt8)) :=
 bif decide (t.2 < (c.Queues.length : Int)) then
 (
  (idx c.Queues t.2).bind fun x =>
  (jZ x.Path).bind fun x1 =>
  (
  bif x1.2 then
   some (x1.1 == path)
  else
   some false).bind fun q =>
  bif q then
  (app 16 t.1 [x.Path]).bind fun l =>
  some l
  else
  some t.1).bind fun out =>
 some (.inl (out,w64 (t.2 + 1)))
 else
 some (.inr t.1)
def pw (c : Conf) (path : List UInt8) : Option (List (List UInt8)) :=
 (loop (mL c path) ([],0)).bind fun out1 =>
 some out1
def h120 : Hint:=(.s .z (.s .z (.s (.s .z (.b (.l [(5,.v (.slice (.str)) [0]),(13,.v (.int .i64) [])] [5,7,8,9,13,28] [(2,[(5,.v (.slice (.str)) [0])])] (.s .z (.s .z (.s (.j [5,7,8,9,28] [(0,[(5,.v (.slice (.str)) [0])])] (.b (.s .z (.s .z (.s (.j [] [(0,[(28,.v .bool [])])] .z) .z))))) .z)))))) .z)))
def sp120 : Spec fam:=⟨[.v (.st 3) [],.v .str []],[.v (.slice (.str)) [0]],fun a => pw a.1 a.2.1⟩
def nG (s : List Load) (f : (TupT fam [.st 18,.st 18] → Option Int)) : Option (List Load):=sortG (F:=fam) (.st 18) f s
def sp123 : Spec fam:=⟨[.row (.st 18) false,.fn [.st 18,.st 18] (.int .i64)],[],fun a => nG a.1 a.2.1⟩
def jQ (vals : List Int) (t : Int) : Option (Int ⊕ (Int ⊕ Unit)) :=
 bif decide (t < (vals.length : Int)) then
 (idx vals t).bind fun x =>
 bif x != 0 then
  some (.inr (.inl x))
 else
  some (.inl (w64 (t + 1)))
 else
 some (.inr (.inr ()))
def lK (vals : List Int) : Option Int :=
 (loop (jQ vals) 0).bind fun q0 =>
 match q0 with
 | .inl q =>
 some q
 | .inr _ =>
 some 0
def h68 : Hint:=(.s .z (.s .z (.s (.s .z (.b (.l [(8,.v (.int .i64) [])] [2,5,8] [(1,[(2,.v (.int .i64) [])]),(2,[])] .z))) .z)))
def sp68 : Spec fam:=⟨[.v (.slice (.int .i64)) []],[.v (.int .i64) []],fun a => lK a.1⟩
def jx (x : List UInt8) : Option Bool :=
 some (! (x == x))
def h225 : Hint:=.z
def sp225 : Spec fam:=⟨[.v .str []],[.v .bool []],fun a => jx a.1⟩
def iB (x : List UInt8) (y : List UInt8) : Option Int :=
 (jx x).bind fun xNaN =>
 (jx y).bind fun yNaN =>
 bif xNaN then
 bif yNaN then
  some 0
 else
  some (-1)
 else
 bif yNaN then
  some 1
 else
  bif Op.bytesLess x y then
  some (-1)
  else
  bif ! (strLe x y) then
   some 1
  else
   some 0
def h146 : Hint:=.z
def sp146 : Spec fam:=⟨[.v .str [],.v .str []],[.v (.int .i64) []],fun a => iB a.1 a.2.1⟩
def fd (r : Ratio) (q : Ratio) : Option Int :=
 (
 bif r.of == 0 then
  some (q.of == 0)
 else
  some false).bind fun q1 =>
 bif q1 then
 some 0
 else
 bif r.of == 0 then
  some 1
 else
  bif q.of == 0 then
  some (-1)
  else
  (ls r.n q.of).bind fun x =>
  (ls q.n r.of).bind fun x1 =>
  (
   bif decide (x.1 < x1.1) then
   some true
   else
   bif x.1 == x1.1 then
    some (decide (x.2 < x1.2))
   else
    some false).bind fun q2 =>
  bif q2 then
   some (-1)
  else
   (
   bif x.1 == x1.1 then
    some (x.2 == x1.2)
   else
    some false).bind fun q3 =>
   bif q3 then
   some 0
   else
   some 1
def h291 : Hint:=(.s .z (.s (.b (.s (.j [] [(0,[(9,.v .bool [])])] .z) .z)) (.s .z (.s .z (.s (.b (.s (.j [] [(0,[(42,.v .bool [])])] .z) (.c .z (.s (.j [] [(0,[(56,.v .bool [])])] .z) .z)))) .z)))))
def sp291 : Spec fam:=⟨[.v (.st 20) [],.v (.st 20) []],[.v (.int .i64) []],fun a => fd a.1 a.2.1⟩
def nr (a : Vec) (p : Vec) (get : (TupT fam [.st 0] → Option Int)) : Option Ratio :=
 (get (a,())).bind fun r =>
 (get (p,())).bind fun r1 =>
 bif r == 0 then
 some (⟨0,1⟩ : Ratio)
 else
 some (⟨IntKind.u64.wrap r,IntKind.u64.wrap r1⟩ : Ratio)
def h337 : Hint:=.z
def sp337 : Spec fam:=⟨[.v (.st 0) [],.v (.st 0) [],.fn [.st 0] (.int .i64)],[.v (.st 20) []],fun a => nr a.1 a.2.1 a.2.2.1⟩
def mX (v : Vec) : Option Int :=
 some v.Mem
def h338 : Hint:=.z
def sp338 : Spec fam:=⟨[.v (.st 0) []],[.v (.int .i64) []],fun a => mX a.1⟩
def lw (v : Vec) : Option Int :=
 some v.Cores
def h339 : Hint:=.z
def sp339 : Spec fam:=⟨[.v (.st 0) []],[.v (.int .i64) []],fun a => lw a.1⟩
def nT (a : Vec) (p : Vec) : Option Ratio :=
 (nr a p (fun a' => mX a'.1)).bind fun x =>
 (nr a p (fun a' => lw a'.1)).bind fun x1 =>
 (fd x x1).bind fun x2 =>
 bif decide (x2 < 0) then
 some x1
 else
 some x
def h290 : Hint:=.z
def sp290 : Spec fam:=⟨[.v (.st 0) [],.v (.st 0) []],[.v (.st 20) []],fun a => nT a.1 a.2.1⟩
def lu (a : Vec) (p : Vec) (b : Vec) (q : Vec) : Option Int :=
 (
 (bc a).bind fun x =>
 bif ! x then
  some true
 else
  (bc p).bind fun x1 =>
  bif ! x1 then
  some true
  else
  (bc b).bind fun x2 =>
  bif ! x2 then
   some true
  else
   (bc q).bind fun x3 =>
   some (! x3)).bind fun q1 =>
 bif q1 then
 some 0
 else
 (nT a p).bind fun x4 =>
 (nT b q).bind fun x5 =>
 (fd x4 x5).bind fun x6 =>
 some x6
def h206 : Hint:=(.s .z (.s (.s (.j [] [(0,[(26,.v .bool [])])] .z) .z) .z))
def sp206 : Spec fam:=⟨[.v (.st 0) [],.v (.st 0) [],.v (.st 0) [],.v (.st 0) []],[.v (.int .i64) []],fun a => lu a.1 a.2.1 a.2.2.1 a.2.2.2.1⟩
def bM (a : Load) (b : Load) : Option Int :=
 (lu a.used a.least b.used b.least).bind fun x =>
 (iB a.path b.path).bind fun x1 =>
 (lK [x,x1]).bind fun x2 =>
 some x2
def h124 : Hint:=.z
def sp124 : Spec fam:=⟨[.v (.st 18) [],.v (.st 18) []],[.v (.int .i64) []],fun a => bM a.1 a.2.1⟩
def kn (x4 : List Load) (t1 : List (List UInt8) × Int) : Option ((List (List UInt8) × Int) ⊕ List (List UInt8)) :=
 bif decide (t1.2 < (x4.length : Int)) then
 (inb t1.2 x4.length).bind fun i1 =>
 (x4[i1]?).bind fun x5 =>
 (inS t1.2 (t1.1.length : Int) t1.1.length).bind fun p =>
 some (.inl (cpy t1.1 p.1 p.2 [x5.path],w64 (t1.2 + 1)))
 else
 some (.inr t1.1)
def kb (s : State) (label : Int) (x : List (List UInt8)) (t : List Load × Int) : Option ((List Load × Int) ⊕ List Load) :=
 bif decide (t.2 < (x.length : Int)) then
 (inb t.2 x.length).bind fun i =>
 (x[i]?).bind fun x1 =>
 (lr s x1 label).bind fun x2 =>
 (kx s x1 label).bind fun x3 =>
 (app 48 t.1 [(⟨x1,⟨x2.Mem,x2.Cores⟩,⟨x3.Mem,x3.Cores⟩⟩ : Load)]).bind fun l =>
 some (.inl (l,w64 (t.2 + 1)))
 else
 some (.inr t.1)
def n5 (s : State) (path : List UInt8) (label : Int) : Option (List (List UInt8)) :=
 (pw s.Conf path).bind fun x =>
 (loop (kb s label x) ([],0)).bind fun l1 =>
 (nG l1 (fun a' => bM a'.1 a'.2.1)).bind fun x4 =>
 (mkl 16 (x4.length : Int) (x4.length : Int) []).bind fun l2 =>
 (loop (kn x4) (l2,0)).bind fun out =>
 some out
def h59 : Hint:=(.s .z (.s .z (.s (.s .z (.b (.l [(7,.v (.slice (.st 18)) [0]),(18,.v (.int .i64) [])] [7,9,18,19,20,21,22,23,24,25,26,27,28,29,30,31,32,33,34,35] [(2,[(7,.v (.slice (.st 18)) [0])])] .z))) (.s .z (.s .z (.s (.s .z (.b (.l [(10,.row .str false),(43,.v (.int .i64) [])] [10,11,12,43] [(4,[(10,.row .str false)])] .z))) .z))))))
def sp59 : Spec fam:=⟨[.v (.st 10) [],.v .str [],.v (.int .i64) []],[.v (.slice (.str)) [0]],fun a => n5 a.1 a.2.1 a.2.2.1⟩
def j3 (s : State) (label : Int) (deep : Int) (self : State → (List UInt8) → Int → Int → Option (List (List UInt8))) (kids : List (List UInt8)) (t : List (List UInt8) × Int) : Option ((List (List UInt8) × Int) ⊕ List (List UInt8)) :=
 bif decide (t.2 < (kids.length : Int)) then
 (inb t.2 kids.length).bind fun i =>
 (kids[i]?).bind fun x =>
 (self s x label (w64 (deep + 1))).bind fun x1 =>
 (app 16 t.1 x1).bind fun l =>
 some (.inl (l,w64 (t.2 + 1)))
 else
 some (.inr t.1)
def kh (self : State → (List UInt8) → Int → Int → Option (List (List UInt8))) (s : State) (path : List UInt8) (label : Int) (deep : Int) : Option (List (List UInt8)) :=
 (n5 s path label).bind fun kids =>
 (
 bif (kids.length : Int) == 0 then
  some true
 else
  some (decide (deep > 4))).bind fun q =>
 bif q then
 some [path]
 else
 (loop (j3 s label deep self kids) ([],0)).bind fun out =>
 some out
def dF : Nat → State → (List UInt8) → Int → Int → Option (List (List UInt8))
 | 0 => fun _ _ _ _ => none
 | n + 1 => kh (dF n)
def pJ (a0 : State) (a1 : List UInt8) (a2 : Int) (a3 : Int) : Option (List (List UInt8)):=dF 64 a0 a1 a2 a3
def h119 : Hint:=(.s .z (.s .z (.s (.s (.j [17,18,19,20,21,22,23] [(0,[(23,.v .bool [])])] .z) .z) (.s .z (.s (.s .z (.b (.l [(10,.v (.slice (.str)) [0]),(28,.v (.int .i64) [])] [10,12,28] [(2,[(10,.v (.slice (.str)) [0])])] .z))) .z)))))
def sp119 : Spec fam:=⟨[.v (.st 10) [],.v .str [],.v (.int .i64) [],.v (.int .i64) []],[.v (.slice (.str)) [0]],fun a => pJ a.1 a.2.1 a.2.2.1 a.2.2.2.1⟩
def E6 (n : Nat) : Spec fam:=⟨[.v (.st 10) [],.v .str [],.v (.int .i64) [],.v (.int .i64) []],[.v (.slice (.str)) [0]],fun a => dF n a.1 a.2.1 a.2.2.1 a.2.2.2.1⟩
def mB (s : State) (label : Int) : Option (List (List UInt8)) :=
 (pJ s ([114,111,111,116] : List UInt8) label 1).bind fun x =>
 some x
def h58 : Hint:=.z
def sp58 : Spec fam:=⟨[.v (.st 10) [],.v (.int .i64) []],[.v (.slice (.str)) [0]],fun a => mB a.1 a.2.1⟩
def g8 (a : Int) (cmp : (TupT fam [.st 6,.st 6] → Option Int)) (t1 : List App × Int) : Option ((List App × Int) ⊕ List App) :=
 (
 bif decide (t1.2 > a) then
  (inb t1.2 t1.1.length).bind fun i =>
  (t1.1[i]?).bind fun x =>
  (inb (w64 (t1.2 - 1)) t1.1.length).bind fun i1 =>
  (t1.1[i1]?).bind fun x1 =>
  (cmp (x,x1,())).bind fun r =>
  some (decide (r < 0))
 else
  some false).bind fun q =>
 bif q then
 (inb (w64 (t1.2 - 1)) t1.1.length).bind fun i2 =>
 (t1.1[i2]?).bind fun x2 =>
 (inb t1.2 t1.1.length).bind fun i3 =>
 (t1.1[i3]?).bind fun x3 =>
 (inb t1.2 t1.1.length).bind fun i4 =>
 (t1.1[i4]?).bind fun x4 =>
 (inb (w64 (t1.2 - 1)) (List.set t1.1 i4 x2).length).bind fun i5 =>
 ((List.set t1.1 i4 x2)[i5]?).bind fun x5 =>
 some (.inl (List.set (List.set t1.1 i4 x2) i5 x3,w64 (t1.2 - 1)))
 else
 some (.inr t1.1)
def kq (a : Int) (b : Int) (cmp : (TupT fam [.st 6,.st 6] → Option Int)) (t : List App × Int) : Option ((List App × Int) ⊕ List App) :=
 bif decide (t.2 < b) then
 (loop (g8 a cmp) (t.1,t.2)).bind fun data1 =>
 some (.inl (data1,w64 (t.2 + 1)))
 else
 some (.inr t.1)
def oI (data : List App) (a : Int) (b : Int) (cmp : (TupT fam [.st 6,.st 6] → Option Int)) : Option (List App) :=
 (loop (kq a b cmp) (data,w64 (a + 1))).bind fun data2 =>
 some data2
def h219 : Hint:=(.s .z (.b (.l [(0,.row (.st 6) false),(8,.v (.int .i64) [])] [0,8,9,34] [(2,[(0,.row (.st 6) false)])] (.s .z (.s (.b (.s .z (.b (.l [(0,.row (.st 6) false),(9,.v (.int .i64) [])] [0,9,34] [(4,[(0,.row (.st 6) false)])] (.s (.s (.j [] [(0,[(34,.v .bool [])])] .z) .z) .z))))) .z)))))
def sp219 : Spec fam:=⟨[.row (.st 6) false,.v (.int .i64) [],.v (.int .i64) [],.fn [.st 6,.st 6] (.int .i64)],[],fun a => oI a.1 a.2.1 a.2.2.1 a.2.2.2.1⟩
def tY (a : Int) (b : Int) (n : Int) (t : List App × Int) : Option ((List App × Int) ⊕ List App) :=
 bif decide (t.2 < n) then
 (inb (w64 (b + t.2)) t.1.length).bind fun i =>
 (t.1[i]?).bind fun x =>
 (inb (w64 (a + t.2)) t.1.length).bind fun i1 =>
 (t.1[i1]?).bind fun x1 =>
 (inb (w64 (a + t.2)) t.1.length).bind fun i2 =>
 (t.1[i2]?).bind fun x2 =>
 (inb (w64 (b + t.2)) (List.set t.1 i2 x).length).bind fun i3 =>
 ((List.set t.1 i2 x)[i3]?).bind fun x3 =>
 some (.inl (List.set (List.set t.1 i2 x) i3 x1,w64 (t.2 + 1)))
 else
 some (.inr t.1)
def mD (data : List App) (a : Int) (b : Int) (n : Int) (cmp : (TupT fam [.st 6,.st 6] → Option Int)) : Option (List App) :=
 (loop (tY a b n) (data,0)).bind fun data1 =>
 some data1
def h345 : Hint:=(.s .z (.b (.l [(0,.row (.st 6) false),(10,.v (.int .i64) [])] [0,10] [(2,[(0,.row (.st 6) false)])] .z)))
def sp345 : Spec fam:=⟨[.row (.st 6) false,.v (.int .i64) [],.v (.int .i64) [],.v (.int .i64) [],.fn [.st 6,.st 6] (.int .i64)],[],fun a => mD a.1 a.2.1 a.2.2.1 a.2.2.2.1 a.2.2.2.2.1⟩
def tR (m : Int) (cmp : (TupT fam [.st 6,.st 6] → Option Int)) (t : List App × Int × Int) : Option ((List App × Int × Int) ⊕ ((List App × Int))) :=
 bif t.2.1 != t.2.2 then
 bif decide (t.2.1 > t.2.2) then
  (mD t.1 (w64 (m - t.2.1)) m t.2.2 cmp).bind fun x =>
  let i:=w64 (t.2.1 - t.2.2)
  some (.inl (x,i,t.2.2))
 else
  (mD t.1 (w64 (m - t.2.1)) (w64 ((w64 (m + t.2.2)) - t.2.1)) t.2.1 cmp).bind fun x1 =>
  let j:=w64 (t.2.2 - t.2.1)
  some (.inl (x1,t.2.1,j))
 else
 some (.inr (t.1,t.2.1))
def re (data : List App) (a : Int) (m : Int) (b : Int) (cmp : (TupT fam [.st 6,.st 6] → Option Int)) : Option (List App) :=
 (loop (tR m cmp) (data,w64 (m - a),w64 (b - m))).bind fun q =>
 (mD q.1 (w64 (m - q.2)) m q.2 cmp).bind fun x2 =>
 some x2
def h299 : Hint:=(.s .z (.s .z (.s (.b (.l [(0,.row (.st 6) false),(10,.v (.int .i64) []),(11,.v (.int .i64) [])] [0,10,11] [(2,[(0,.row (.st 6) false),(10,.v (.int .i64) [])])] .z)) .z)))
def sp299 : Spec fam:=⟨[.row (.st 6) false,.v (.int .i64) [],.v (.int .i64) [],.v (.int .i64) [],.fn [.st 6,.st 6] (.int .i64)],[],fun a => re a.1 a.2.1 a.2.2.1 a.2.2.2.1 a.2.2.2.2.1⟩
def sA (data : List App) (cmp : (TupT fam [.st 6,.st 6] → Option Int)) (p : Int) (t4 : Int × Int) : Option ((Int × Int) ⊕ Int) :=
 bif decide (t4.1 < t4.2) then
 let c:=w64 (shrK .u64 (IntKind.u64.wrap (w64 (t4.1 + t4.2))) 1)
 (inb (w64 (p - c)) data.length).bind fun i14 =>
 (data[i14]?).bind fun x12 =>
 (inb c data.length).bind fun i15 =>
 (data[i15]?).bind fun x13 =>
 (cmp (x12,x13,())).bind fun r2 =>
 bif ! (decide (r2 < 0)) then
  some (.inl (w64 (c + 1),t4.2))
 else
  some (.inl (t4.1,c))
 else
 some (.inr t4.1)
def sw (i9 : Int) (t3 : List App × Int) : Option ((List App × Int) ⊕ List App) :=
 bif decide (t3.2 > i9) then
 (inb (w64 (t3.2 - 1)) t3.1.length).bind fun i10 =>
 (t3.1[i10]?).bind fun x8 =>
 (inb t3.2 t3.1.length).bind fun i11 =>
 (t3.1[i11]?).bind fun x9 =>
 (inb t3.2 t3.1.length).bind fun i12 =>
 (t3.1[i12]?).bind fun x10 =>
 (inb (w64 (t3.2 - 1)) (List.set t3.1 i12 x8).length).bind fun i13 =>
 ((List.set t3.1 i12 x8)[i13]?).bind fun x11 =>
 some (.inl (List.set (List.set t3.1 i12 x8) i13 x9,w64 (t3.2 - 1)))
 else
 some (.inr t3.1)
def sy (data : List App) (m : Int) (cmp : (TupT fam [.st 6,.st 6] → Option Int)) (t2 : Int × Int) : Option ((Int × Int) ⊕ Int) :=
 bif decide (t2.1 < t2.2) then
 let h1:=w64 (shrK .u64 (IntKind.u64.wrap (w64 (t2.1 + t2.2))) 1)
 (inb m data.length).bind fun i7 =>
 (data[i7]?).bind fun x6 =>
 (inb h1 data.length).bind fun i8 =>
 (data[i8]?).bind fun x7 =>
 (cmp (x6,x7,())).bind fun r1 =>
 bif ! (decide (r1 < 0)) then
  some (.inl (w64 (h1 + 1),t2.2))
 else
  some (.inl (t2.1,h1))
 else
 some (.inr t2.1)
def sB (i2 : Int) (t1 : List App × Int) : Option ((List App × Int) ⊕ List App) :=
 bif decide (t1.2 < (w64 (i2 - 1))) then
 (inb (w64 (t1.2 + 1)) t1.1.length).bind fun i3 =>
 (t1.1[i3]?).bind fun x2 =>
 (inb t1.2 t1.1.length).bind fun i4 =>
 (t1.1[i4]?).bind fun x3 =>
 (inb t1.2 t1.1.length).bind fun i5 =>
 (t1.1[i5]?).bind fun x4 =>
 (inb (w64 (t1.2 + 1)) (List.set t1.1 i5 x2).length).bind fun i6 =>
 ((List.set t1.1 i5 x2)[i6]?).bind fun x5 =>
 some (.inl (List.set (List.set t1.1 i5 x2) i6 x3,w64 (t1.2 + 1)))
 else
 some (.inr t1.1)
def sv (data : List App) (a : Int) (cmp : (TupT fam [.st 6,.st 6] → Option Int)) (t : Int × Int) : Option ((Int × Int) ⊕ Int) :=
 bif decide (t.1 < t.2) then
 let h:=w64 (shrK .u64 (IntKind.u64.wrap (w64 (t.1 + t.2))) 1)
 (inb h data.length).bind fun i =>
 (data[i]?).bind fun x =>
 (inb a data.length).bind fun i1 =>
 (data[i1]?).bind fun x1 =>
 (cmp (x,x1,())).bind fun r =>
 bif decide (r < 0) then
  some (.inl (w64 (h + 1),t.2))
 else
  some (.inl (t.1,h))
 else
 some (.inr t.1)
def u3 (self : (List App) → Int → Int → Int → ((TupT fam [.st 6,.st 6] → Option Int)) → Option (List App)) (data : List App) (a : Int) (m : Int) (b : Int) (cmp : (TupT fam [.st 6,.st 6] → Option Int)) : Option (List App) :=
 bif (w64 (m - a)) == 1 then
 (loop (sv data a cmp) (m,b)).bind fun i2 =>
 (loop (sB i2) (data,a)).bind fun data1 =>
 some data1
 else
 bif (w64 (b - m)) == 1 then
  (loop (sy data m cmp) (a,m)).bind fun i9 =>
  (loop (sw i9) (data,m)).bind fun data2 =>
  some data2
 else
  let mid:=w64 (shrK .u64 (IntKind.u64.wrap (w64 (a + b))) 1)
  (
  bif decide (m > mid) then
   let start:=w64 ((w64 (mid + m)) - b)
   some (start,mid)
  else
   some (a,m)).bind fun q =>
  let p:=w64 ((w64 (mid + m)) - 1)
  (loop (sA data cmp p) (q.1,q.2)).bind fun start1 =>
  let end_:=w64 ((w64 (mid + m)) - start1)
  (
  (
   bif decide (start1 < m) then
   some (decide (m < end_))
   else
   some false).bind fun q1 =>
  bif q1 then
   (re data start1 m end_ cmp).bind fun x14 =>
   some x14
  else
   some data).bind fun data3 =>
  (
  (
   bif decide (a < start1) then
   some (decide (start1 < mid))
   else
   some false).bind fun q2 =>
  bif q2 then
   (self data3 a start1 mid cmp).bind fun x15 =>
   some x15
  else
   some data3).bind fun data4 =>
  (
  bif decide (mid < end_) then
   some (decide (end_ < b))
  else
   some false).bind fun q3 =>
  bif q3 then
  (self data4 mid end_ b cmp).bind fun x16 =>
  some x16
  else
  some data4
def nA : Nat → (List App) → Int → Int → Int → ((TupT fam [.st 6,.st 6] → Option Int)) → Option (List App)
 | 0 => fun _ _ _ _ _ => none
 | n + 1 => u3 (nA n)
def oK (a0 : List App) (a1 : Int) (a2 : Int) (a3 : Int) (a4 : (TupT fam [.st 6,.st 6] → Option Int)) : Option (List App):=nA 64 a0 a1 a2 a3 a4
def h220 : Hint:=(.s (.s .z (.c (.s .z (.s .z (.s (.b (.l [(10,.v (.int .i64) []),(11,.v (.int .i64) [])] [10,11,12] [(2,[(10,.v (.int .i64) [])])] .z)) (.s (.s .z (.b (.l [(0,.row (.st 6) false),(13,.v (.int .i64) [])] [0,13] [(4,[(0,.row (.st 6) false)])] .z))) .z)))) .z)) (.s (.s .z (.c (.s .z (.s .z (.s (.b (.l [(14,.v (.int .i64) []),(15,.v (.int .i64) [])] [14,15,16] [(6,[(14,.v (.int .i64) [])])] .z)) (.s (.s .z (.b (.l [(0,.row (.st 6) false),(17,.v (.int .i64) [])] [0,17] [(8,[(0,.row (.st 6) false)])] .z))) .z)))) .z)) (.s .z (.s .z (.s .z (.s (.j [20,21] [(0,[(20,.v (.int .i64) []),(21,.v (.int .i64) [])])] .z) (.s .z (.s (.b (.l [(20,.v (.int .i64) []),(21,.v (.int .i64) [])] [20,21,23] [(10,[(20,.v (.int .i64) [])])] .z)) (.s .z (.s (.j [0,185] [(0,[(0,.row (.st 6) false)])] (.s (.j [] [(0,[(185,.v .bool [])])] .z) .z)) (.s (.j [0,199] [(0,[(0,.row (.st 6) false)])] (.s (.j [] [(0,[(199,.v .bool [])])] .z) .z)) (.s (.j [] [(0,[(213,.v .bool [])])] .z) .z))))))))))))
def sp220 : Spec fam:=⟨[.row (.st 6) false,.v (.int .i64) [],.v (.int .i64) [],.v (.int .i64) [],.fn [.st 6,.st 6] (.int .i64)],[],fun a => oK a.1 a.2.1 a.2.2.1 a.2.2.2.1 a.2.2.2.2.1⟩
def FB (n : Nat) : Spec fam:=⟨[.row (.st 6) false,.v (.int .i64) [],.v (.int .i64) [],.v (.int .i64) [],.fn [.st 6,.st 6] (.int .i64)],[],fun a => nA n a.1 a.2.1 a.2.2.1 a.2.2.2.1 a.2.2.2.2.1⟩
def ut (n : Int) (cmp : (TupT fam [.st 6,.st 6] → Option Int)) (t1 : List App × Int) (t2 : List App × Int × Int) : Option ((List App × Int × Int) ⊕ ((List App × Int))) :=
 bif decide (t2.2.2 ≤ n) then
 (oK t2.1 t2.2.1 (w64 (t2.2.1 + t1.2)) t2.2.2 cmp).bind fun x2 =>
 let b:=w64 (t2.2.2 + (w64 (2 * t1.2)))
 some (.inl (x2,t2.2.2,b))
 else
 some (.inr (t2.1,t2.2.1))
def mE (n : Int) (cmp : (TupT fam [.st 6,.st 6] → Option Int)) (t1 : List App × Int) : Option ((List App × Int) ⊕ List App) :=
 bif decide (t1.2 < n) then
 (loop (ut n cmp t1) (t1.1,0,w64 (2 * t1.2))).bind fun q1 =>
 (
  let m:=w64 (q1.2 + t1.2)
  bif decide (m < n) then
  (oK q1.1 q1.2 m n cmp).bind fun x3 =>
  some x3
  else
  some q1.1).bind fun data1 =>
 some (.inl (data1,w64 (t1.2 * 2)))
 else
 some (.inr t1.1)
def mI (n : Int) (cmp : (TupT fam [.st 6,.st 6] → Option Int)) (t : List App × Int × Int) : Option ((List App × Int × Int) ⊕ ((List App × Int))) :=
 bif decide (t.2.2 ≤ n) then
 (oI t.1 t.2.1 t.2.2 cmp).bind fun x =>
 some (.inl (x,t.2.2,w64 (t.2.2 + 20)))
 else
 some (.inr (t.1,t.2.1))
def oC (data : List App) (n : Int) (cmp : (TupT fam [.st 6,.st 6] → Option Int)) : Option (List App) :=
 (loop (mI n cmp) (data,0,20)).bind fun q =>
 (oI q.1 q.2 n cmp).bind fun x1 =>
 (loop (mE n cmp) (x1,20)).bind fun data2 =>
 some data2
def h140 : Hint:=(.s .z (.s .z (.s (.b (.l [(0,.row (.st 6) false),(7,.v (.int .i64) []),(8,.v (.int .i64) [])] [0,7,8] [(2,[(0,.row (.st 6) false),(7,.v (.int .i64) [])])] .z)) (.s .z (.b (.l [(0,.row (.st 6) false),(6,.v (.int .i64) [])] [0,6,7,8,9] [(4,[(0,.row (.st 6) false)])] (.s .z (.b (.s .z (.s (.b (.l [(0,.row (.st 6) false),(7,.v (.int .i64) []),(8,.v (.int .i64) [])] [0,7,8] [(6,[(0,.row (.st 6) false),(7,.v (.int .i64) [])])] .z)) (.s (.j [0,9] [(0,[(0,.row (.st 6) false)])] .z) .z)))))))))))
def sp140 : Spec fam:=⟨[.row (.st 6) false,.v (.int .i64) [],.fn [.st 6,.st 6] (.int .i64)],[],fun a => oC a.1 a.2.1 a.2.2.1⟩
def lL (x : List App) (cmp : (TupT fam [.st 6,.st 6] → Option Int)) : Option (List App) :=
 (oC x (x.length : Int) cmp).bind fun x1 =>
 some x1
def h66 : Hint:=.z
def sp66 : Spec fam:=⟨[.row (.st 6) false,.fn [.st 6,.st 6] (.int .i64)],[],fun a => lL a.1 a.2.1⟩
def lj (x : Int) : Option Bool :=
 some (x != x)
def h141 : Hint:=.z
def sp141 : Spec fam:=⟨[.v (.int .i64) []],[.v .bool []],fun a => lj a.1⟩
def ig (x : Int) (y : Int) : Option Int :=
 (lj x).bind fun xNaN =>
 (lj y).bind fun yNaN =>
 bif xNaN then
 bif yNaN then
  some 0
 else
  some (-1)
 else
 bif yNaN then
  some 1
 else
  bif decide (x < y) then
  some (-1)
  else
  bif decide (x > y) then
   some 1
  else
   some 0
def h69 : Hint:=.z
def sp69 : Spec fam:=⟨[.v (.int .i64) [],.v (.int .i64) []],[.v (.int .i64) []],fun a => ig a.1 a.2.1⟩
def jH (a : App) (b : App) : Option Int :=
 (ig b.Prio a.Prio).bind fun x =>
 (ig a.Id b.Id).bind fun x1 =>
 (lK [x,x1]).bind fun x2 =>
 some x2
def h67 : Hint:=.z
def sp67 : Spec fam:=⟨[.v (.st 6) [],.v (.st 6) []],[.v (.int .i64) []],fun a => jH a.1 a.2.1⟩
def ka (x2 : List App) (t1 : List Int × Int) : Option ((List Int × Int) ⊕ List Int) :=
 bif decide (t1.2 < (x2.length : Int)) then
 (inb t1.2 x2.length).bind fun i =>
 (x2[i]?).bind fun x3 =>
 (inb t1.2 t1.1.length).bind fun i1 =>
 (t1.1[i1]?).bind fun x4 =>
 some (.inl (List.set t1.1 i1 x3.Id,w64 (t1.2 + 1)))
 else
 some (.inr t1.1)
def lX (s : State) (queue : List UInt8) (t : List App × Int) : Option ((List App × Int) ⊕ List App) :=
 bif decide (t.2 < (s.Apps.length : Int)) then
 (
  (idx s.Apps t.2).bind fun x =>
  (
  (nQ x).bind fun x1 =>
  bif x1 then
   some (x.Queue == queue)
  else
   some false).bind fun q =>
  bif q then
  (app 200 t.1 [x]).bind fun l =>
  some l
  else
  some t.1).bind fun l1 =>
 some (.inl (l1,w64 (t.2 + 1)))
 else
 some (.inr t.1)
def oe (s : State) (queue : List UInt8) : Option (List Int) :=
 (loop (lX s queue) ([],0)).bind fun l2 =>
 (lL l2 (fun a' => jH a'.1 a'.2.1)).bind fun x2 =>
 (mkl 8 (x2.length : Int) (x2.length : Int) 0).bind fun l3 =>
 (loop (ka x2) (l3,0)).bind fun out =>
 some out
def h19 : Hint:=(.s .z (.s .z (.s (.s .z (.b (.l [(5,.v (.slice (.st 6)) [0]),(14,.v (.int .i64) [])] [5,7,14,15,16,17,18,19,20,21,22,23,24,25,26,27,28,29,30] [(2,[(5,.v (.slice (.st 6)) [0])])] (.s .z (.s .z (.s (.j [5,7,16,17,18,19,20,21,22,23,24,25,26,27,28,29] [(0,[(5,.v (.slice (.st 6)) [0])])] (.b (.s .z (.s (.j [18,19,20,21,22,23,24,25] [(0,[(25,.v .bool [])])] .z) .z)))) .z)))))) (.s .z (.s .z (.s (.s .z (.b (.l [(8,.row (.int .i64) false),(38,.v (.int .i64) [])] [8,9,10,38] [(4,[(8,.row (.int .i64) false)])] .z))) .z))))))
def sp19 : Spec fam:=⟨[.v (.st 10) [],.v .str []],[.v (.slice (.int .i64)) [0]],fun a => oe a.1 a.2.1⟩
def po (l : List Ask) (prio : Int) : Option (List Ask) :=
 (oE l).bind fun out =>
 (
 (ox out prio).bind fun i =>
 bif decide (i ≥ 0) then
  (inb i out.length).bind fun i1 =>
  (out[i1]?).bind fun x =>
  (inb i out.length).bind fun i2 =>
  (out[i2]?).bind fun x1 =>
  some (List.set out i2 (⟨x1.Prio,x1.Label,⟨x1.Size.Mem,x1.Size.Cores⟩,x1.Count,x1.Node,x1.Rack,imin (w64 (x.Missed + 1)) 100⟩ : Ask))
 else
  some out).bind fun out1 =>
 some out1
def h323 : Hint:=(.s .z (.s .z (.s (.j [5,6] [(0,[(5,.row (.st 5) false)])] .z) .z)))
def sp323 : Spec fam:=⟨[.v (.slice (.st 5)) [],.v (.int .i64) []],[.v (.slice (.st 5)) [0]],fun a => po a.1 a.2.1⟩
def iu (t : Attempt) (a : App) (prio : Int) : Option (App × Attempt) :=
 (po a.Asks prio).bind fun x =>
 (l8 t.s (⟨a.Id,a.State,a.Queue,a.User,a.Prio,⟨a.Master.Mem,a.Master.Cores⟩,x,a.Seen,a.Beat,a.Grants,a.Kills,a.Told,a.Lost⟩ : App)).bind fun x1 =>
 some ((⟨a.Id,a.State,a.Queue,a.User,a.Prio,⟨a.Master.Mem,a.Master.Cores⟩,x,a.Seen,a.Beat,a.Grants,a.Kills,a.Told,a.Lost⟩ : App),(⟨⟨⟨x1.Conf.Labels,x1.Conf.Queues⟩,x1.Nodes,x1.Apps,x1.Conts,x1.Slots,x1.Plans,x1.Now,x1.Epoch,x1.Seq⟩,⟨t.n.Id,t.n.Label,t.n.Rack,⟨t.n.Cap.Mem,t.n.Cap.Cores⟩,t.n.Seen,t.n.Beat,t.n.Up⟩,⟨t.free.Mem,t.free.Cores⟩⟩ : Attempt))
def h266 : Hint:=.z
def sp266 : Spec fam:=⟨[.box (.st 19) [0,1,2,3,4,5,6],.v (.st 6) [7,10,11,12,13],.v (.int .i64) []],[.v (.st 6) [7,10,11,12,13]],fun a => iu a.1 a.2.1 a.2.2.1⟩
def lV (s : List Slot) (f : (TupT fam [.st 8] → Option Bool)) : Option Bool :=
 (iJ s f).bind fun x =>
 some (decide (x ≥ 0))
def h324 : Hint:=.z
def sp324 : Spec fam:=⟨[.v (.slice (.st 8)) [],.fn [.st 8] .bool],[.v .bool []],fun a => lV a.1 a.2.1⟩
def jJ (x : Slot) (p : Int) (p1 : Int) : Option Bool :=
 bif x.App == p then
 some (x.Prio == p1)
 else
 some false
def h325 : Hint:=.z
def sp325 : Spec fam:=⟨[.v (.st 8) [],.rp (.int .i64),.rp (.int .i64)],[.v .bool []],fun a => jJ a.1 a.2.1 a.2.2.1⟩
def tI (s : List Slot) (i : Int) (v : List Slot) : Option (List Slot) :=
 (inS i (s.length : Int) s.length).bind fun p =>
 bif (v.length : Int) == 0 then
 some s
 else
 bif i == (s.length : Int) then
  (app 24 s v).bind fun l =>
  some l
 else
  none
def nY (s : List Slot) (i : Int) (v : List Slot) : Option (List Slot):=ins s i v
def h326 : Hint:=.z
def sp326 : Spec fam:=⟨[.v (.slice (.st 8)) [0],.v (.int .i64) [],.v (.slice (.st 8)) [0]],[.v (.slice (.st 8)) [0]],fun a => nY a.1 a.2.1 a.2.2.1⟩
def FD : Spec fam:=⟨[.v (.slice (.st 8)) [0],.v (.int .i64) [],.v (.slice (.st 8)) [0]],[.v (.slice (.st 8)) [0]],fun a => tI a.1 a.2.1 a.2.2.1⟩
def eM (t : Attempt) (k : Int) : Option (Int ⊕ Int) :=
 (
 bif decide (k < (t.s.Slots.length : Int)) then
  (inb k t.s.Slots.length).bind fun i =>
  (t.s.Slots[i]?).bind fun x1 =>
  some (decide (x1.Node < t.n.Id))
 else
  some false).bind fun q =>
 bif q then
 some (.inl (w64 (k + 1)))
 else
 some (.inr k)
def iG (t : Attempt) (id_ : Int) (prio : Int) : Option (Bool × Attempt) :=
 (lV t.s.Slots (fun a' => jJ a'.1 id_ prio)).bind fun x =>
 bif x then
 some (false,t)
 else
 (loop (eM t) 0).bind fun k1 =>
 (nY t.s.Slots k1 [(⟨t.n.Id,id_,prio⟩ : Slot)]).bind fun x2 =>
 some (true,(⟨⟨⟨t.s.Conf.Labels,t.s.Conf.Queues⟩,t.s.Nodes,t.s.Apps,t.s.Conts,x2,t.s.Plans,t.s.Now,t.s.Epoch,t.s.Seq⟩,⟨t.n.Id,t.n.Label,t.n.Rack,⟨t.n.Cap.Mem,t.n.Cap.Cores⟩,t.n.Seen,t.n.Beat,t.n.Up⟩,⟨t.free.Mem,t.free.Cores⟩⟩ : Attempt))
def h267 : Hint:=(.s .z (.s .z (.s .z (.s (.b (.l [(7,.v (.int .i64) [])] [7,39] [(2,[(7,.v (.int .i64) [])])] (.s (.s (.j [] [(0,[(39,.v .bool [])])] .z) .z) .z))) .z))))
def sp267 : Spec fam:=⟨[.box (.st 19) [0,1,2,3,4,5,6],.v (.int .i64) [],.v (.int .i64) []],[.v .bool []],fun a => iG a.1 a.2.1 a.2.2.1⟩
def bv (first : Bool) (may : (TupT fam [.st 5,.st 4] → Option Bool)) (x2 : Int) (x5 : List Ask) (t3 : Attempt × Cont × App × Int) : Option ((Attempt × Cont × App × Int) ⊕ ((Attempt × Int × Cont) ⊕ (Attempt × Cont))) :=
 bif decide (t3.2.2.2 < (x5.length : Int)) then
 (
  (inb t3.2.2.2 x5.length).bind fun i1 =>
  (x5[i1]?).bind fun x6 =>
  (fb t3.1 t3.2.2.1 x6).bind fun due =>
  (
  (c9 t3.1 x6).bind fun x7 =>
  bif ! x7 then
   some true
  else
   bif first then
   some (! due)
   else
   some false).bind fun q =>
  bif q then
  some (.inl (t3.1,t3.2.1,t3.2.2.1))
  else
  (may (x6,t3.1.n,())).bind fun r =>
  bif ! r then
   bif first == due then
   (iu t3.1 t3.2.2.1 x6.Prio).bind fun x8 =>
   some (.inl (x8.2,t3.2.1,x8.1))
   else
   some (.inl (t3.1,t3.2.1,t3.2.2.1))
  else
   (eo t3.1 t3.2.2.1 x6).bind fun x9 =>
   bif ! x9 then
   some (.inl (t3.1,t3.2.1,t3.2.2.1))
   else
   (eB t3.1 x6).bind fun x10 =>
   bif x10 then
    (bV t3.1 t3.2.2.1 x6).bind fun x11 =>
    some (.inr (x11.2,1,x11.1))
   else
    (
    bif first then
     (iG t3.1 x2 x6.Prio).bind fun x12 =>
     some (x12.2,x12.1)
    else
     some (t3.1,false)).bind fun q1 =>
    bif q1.2 then
    some (.inr (q1.1,2,(⟨0,0,0,⟨0,0⟩,0,0,false,0⟩ : Cont)))
    else
    some (.inl (q1.1,t3.2.1,t3.2.2.1)) : Option ((Attempt × Cont × App) ⊕ (Attempt × Int × Cont))).bind fun q0 =>
 match q0 with
 | .inl q2 =>
  some (.inl (q2.1,q2.2.1,q2.2.2,w64 (t3.2.2.2 + 1)))
 | .inr q3 =>
  some (.inr (.inl (q3.1,q3.2.1,q3.2.2)))
 else
 some (.inr (.inr (t3.1,t3.2.1)))
def bZ (first : Bool) (may : (TupT fam [.st 5,.st 4] → Option Bool)) (x1 : List Int) (t2 : Attempt × Cont × Int) : Option ((Attempt × Cont × Int) ⊕ ((Attempt × Int × Cont) ⊕ (Attempt × Cont) ⊕ (Attempt × Cont))) :=
 bif decide (t2.2.2 < (x1.length : Int)) then
 (
  (inb t2.2.2 x1.length).bind fun i =>
  (x1[i]?).bind fun x2 =>
  (nX t2.1.s x2).bind fun x3 =>
  bif ! x3.2 then
  some (.inr (.inr (t2.1,t2.2.1)))
  else
  (d_ t2.1 x3.1).bind fun x4 =>
  bif ! x4 then
   some (.inl (t2.1,t2.2.1))
  else
   (na x3.1.Asks).bind fun x5 =>
   (loop (bv first may x2 x5) (t2.1,t2.2.1,x3.1,0)).bind fun q0 =>
   match q0 with
   | .inl q4 =>
   some (.inr (.inl (q4.1,q4.2.1,q4.2.2)))
   | .inr q5 =>
   some (.inl (q5.1,q5.2)) : Option ((Attempt × Cont) ⊕ (Attempt × Int × Cont) ⊕ (Attempt × Cont))).bind fun q0 =>
 match q0 with
 | .inl q6 =>
  some (.inl (q6.1,q6.2,w64 (t2.2.2 + 1)))
 | .inr (.inl q7) =>
  some (.inr (.inl (q7.1,q7.2.1,q7.2.2)))
 | .inr (.inr q8) =>
  some (.inr (.inr (.inl (q8.1,q8.2))))
 else
 some (.inr (.inr (.inr (t2.1,t2.2.1))))
def dY (leaves : List (List UInt8)) (first : Bool) (may : (TupT fam [.st 5,.st 4] → Option Bool)) (t1 : Attempt × Cont × Int) : Option ((Attempt × Cont × Int) ⊕ ((Attempt × Int × Cont) ⊕ (Attempt × Cont))) :=
 bif decide (t1.2.2 < (leaves.length : Int)) then
 (
  (idx leaves t1.2.2).bind fun x =>
  (oe t1.1.s x).bind fun x1 =>
  (loop (bZ first may x1) (t1.1,t1.2.1,0)).bind fun q0 =>
  match q0 with
  | .inl q9 =>
  some (.inr (q9.1,q9.2.1,q9.2.2))
  | .inr (.inl q10) =>
  some (.inl (q10.1,q10.2))
  | .inr (.inr q11) =>
  some (.inl (q11.1,q11.2)) : Option ((Attempt × Cont) ⊕ (Attempt × Int × Cont))).bind fun q0 =>
 match q0 with
 | .inl q12 =>
  some (.inl (q12.1,q12.2,w64 (t1.2.2 + 1)))
 | .inr q13 =>
  some (.inr (.inl (q13.1,q13.2.1,q13.2.2)))
 else
 some (.inr (.inr (t1.1,t1.2.1)))
def da (t : Attempt) (leaves : List (List UInt8)) (first : Bool) (may : (TupT fam [.st 5,.st 4] → Option Bool)) : Option (Int × Cont × Attempt) :=
 (loop (dY leaves first may) (t,(⟨0,0,0,⟨0,0⟩,0,0,false,0⟩ : Cont),0)).bind fun q0 =>
 match q0 with
 | .inl q14 =>
 some (q14.2.1,q14.2.2,q14.1)
 | .inr q15 =>
 some (0,(⟨0,0,0,⟨0,0⟩,0,0,false,0⟩ : Cont),q15.1)
def h189 : Hint:=(.s .z (.b (.s .z (.s .z (.s (.s .z (.b (.l [(0,.box (.st 19) [0,1,2,3,4,5,6]),(9,.box (.st 7) []),(24,.v (.int .i64) [])] [0,8,9,12,14,15,16,18,19,24,25,26,27,28,29,30,31,32,33,34,35,36,37,38,39,40,41,42,43,44,45,46,47,48,49,50,51,52,53,54,55,56,57,58,66,109] [(1,[(0,.box (.st 19) [0,1,2,3,4,5,6]),(8,.v (.int .i64) []),(9,.box (.st 7) [])]),(2,[(0,.box (.st 19) [0,1,2,3,4,5,6]),(9,.box (.st 7) [])])] (.s .z (.s .z (.s (.j [0,8,9,12,14,15,16,18,19,26,27,28,29,30,31,32,33,34,35,36,37,38,39,40,41,42,43,44,45,46,47,48,49,50,51,52,53,54,55,56,57,58,66,109] [(0,[(0,.box (.st 19) [0,1,2,3,4,5,6]),(9,.box (.st 7) [])]),(1,[(0,.box (.st 19) [0,1,2,3,4,5,6]),(8,.v (.int .i64) []),(9,.box (.st 7) [])])] (.b (.s .z (.s .z (.b (.l [(0,.box (.st 19) [0,1,2,3,4,5,6]),(9,.box (.st 7) []),(35,.v (.int .i64) [])] [0,8,9,14,15,16,18,19,31,35,36,37,38,39,40,41,42,43,44,45,46,47,48,49,50,51,52,53,54,55,56,57,58,66,109] [(1,[(0,.box (.st 19) [0,1,2,3,4,5,6]),(8,.v (.int .i64) []),(9,.box (.st 7) [])]),(3,[(0,.box (.st 19) [0,1,2,3,4,5,6]),(9,.box (.st 7) [])]),(4,[(0,.box (.st 19) [0,1,2,3,4,5,6]),(9,.box (.st 7) [])])] (.s .z (.s .z (.s (.j [0,8,9,14,15,16,18,19,37,38,39,40,41,42,43,44,45,46,47,48,49,50,51,52,53,54,55,56,57,58,66,109] [(0,[(0,.box (.st 19) [0,1,2,3,4,5,6]),(9,.box (.st 7) [])]),(1,[(0,.box (.st 19) [0,1,2,3,4,5,6]),(8,.v (.int .i64) []),(9,.box (.st 7) [])]),(3,[(0,.box (.st 19) [0,1,2,3,4,5,6]),(9,.box (.st 7) [])])] (.b (.s .z (.s .z (.s .z (.s .z (.s .z (.b (.l [(0,.box (.st 19) [0,1,2,3,4,5,6]),(9,.box (.st 7) []),(15,.box (.st 6) [7,10,11,12,13]),(58,.v (.int .i64) [])] [0,8,9,15,18,19,43,46,51,54,55,58,66,109] [(1,[(0,.box (.st 19) [0,1,2,3,4,5,6]),(8,.v (.int .i64) []),(9,.box (.st 7) [])]),(6,[(0,.box (.st 19) [0,1,2,3,4,5,6]),(9,.box (.st 7) [])])] (.s .z (.s .z (.s (.j [0,8,9,15,18,19,66,109] [(0,[(0,.box (.st 19) [0,1,2,3,4,5,6]),(9,.box (.st 7) []),(15,.box (.st 6) [7,10,11,12,13])]),(1,[(0,.box (.st 19) [0,1,2,3,4,5,6]),(8,.v (.int .i64) []),(9,.box (.st 7) [])])] (.b (.s .z (.s .z (.b (.s (.j [] [(0,[(66,.v .bool [])])] .z) (.c .z (.s .z (.c .z (.s .z (.c .z (.s .z (.c .z (.s (.j [0] [(0,[(0,.box (.st 19) [0,1,2,3,4,5,6]),(109,.v .bool [])])] .z) .z)))))))))))))) .z)))))))))))) .z))))))))) .z)))))) .z)))))
def sp189 : Spec fam:=⟨[.box (.st 19) [0,1,2,3,4,5,6],.v (.slice (.str)) [],.v .bool [],.fn [.st 5,.st 4] .bool],[.v (.int .i64) [],.v (.st 7) []],fun a => da a.1 a.2.1 a.2.2.1 a.2.2.2.1⟩
def cB (t : Attempt) : Option (Int × Cont × Attempt) :=
 (mB t.s t.n.Label).bind fun leaves =>
 (da t leaves true (fun a' => iP a'.1 a'.2.1)).bind fun x =>
 bif x.1 != 0 then
 some (x.1,x.2.1,x.2.2)
 else
 (da x.2.2 leaves false (fun a' => iP a'.1 a'.2.1)).bind fun x1 =>
 some (x1.1,x1.2.1,x1.2.2)
def h106 : Hint:=.z
def sp106 : Spec fam:=⟨[.box (.st 19) [0,1,2,3,4,5,6]],[.v (.int .i64) [],.v (.st 7) []],fun a => cB a.1⟩
def mK (s : State) (node : Int) : Option (State × Int × Cont) :=
 (kU s []).bind fun x =>
 (mC s node).bind fun x1 =>
 (
 bif ! x1.2 then
  some true
 else
  bif ! x1.1.Up then
  some true
  else
  bif decide ((s.Conts.length : Int) ≥ 200) then
   some true
  else
   some (decide (s.Seq ≥ 1048575))).bind fun q =>
 bif q then
 some (x,0,(⟨0,0,0,⟨0,0⟩,0,0,false,0⟩ : Cont))
 else
 (n8 s node).bind fun x2 =>
 (bG (⟨⟨⟨x.Conf.Labels,x.Conf.Queues⟩,x.Nodes,x.Apps,x.Conts,x.Slots,x.Plans,x.Now,x.Epoch,x.Seq⟩,⟨x1.1.Id,x1.1.Label,x1.1.Rack,⟨x1.1.Cap.Mem,x1.1.Cap.Cores⟩,x1.1.Seen,x1.1.Beat,x1.1.Up⟩,⟨x2.Mem,x2.Cores⟩⟩ : Attempt)).bind fun x3 =>
 (
  bif ! x3.2.2.1 then
  (cB x3.2.2.2).bind fun x4 =>
  some (x4.1,x4.2.1,x4.2.2)
  else
  some (x3.1,x3.2.1,x3.2.2.2)).bind fun q1 =>
 (kU q1.2.2.s []).bind fun x5 =>
 some (x5,q1.1,q1.2.1)
def h41 : Hint:=(.s .z (.s .z (.s .z (.s (.s (.j [] [(0,[(37,.v .bool [])])] .z) .z) (.s .z (.s .z (.s (.j [5,6,10] [(0,[(5,.v (.int .i64) []),(6,.box (.st 7) []),(10,.box (.st 19) [0,1,2,3,4,5,6])])] .z) .z)))))))
def sp41 : Spec fam:=⟨[.v (.st 10) [],.v (.int .i64) []],[.v (.st 10) [0,1,2,3,4,5,6],.v (.int .i64) [],.v (.st 7) []],fun a => mK a.1 a.2.1⟩
def ij : Option Bool :=
 (jA).bind fun x =>
 (bm x (⟨1,0,0,⟨4,4⟩,0,0,false⟩ : Node)).bind fun x1 =>
 (bw x1.1 (⟨7,0,([114,111,111,116] : List UInt8),0,0,⟨2,1⟩,[],0,0,[],[],[],[]⟩ : App)).bind fun x2 =>
 (mK x2.1 1).bind fun x3 =>
 (aC x3.1 7).bind fun x4 =>
 bif x3.2.1 == 1 then
 bif x3.2.2.Id == 1 then
  bif x3.2.2.Master then
  bif x3.2.2.App == 7 then
   bif x4.1.State == 2 then
   some ((x3.1.Conts.length : Int) == 1)
   else
   some false
  else
   some false
  else
  some false
 else
  some false
 else
 some false
def h40 : Hint:=.z
noncomputable def sp40 : Spec fam:=⟨[],[.v .bool []],fun _ => ij⟩
def ca (x5 : State × Int × Cont) (up : List (List UInt8)) (j : Int) : Option (Int ⊕ (Bool ⊕ Unit)) :=
 bif decide (j < (up.length : Int)) then
 (inb j up.length).bind fun i =>
 (up[i]?).bind fun x14 =>
 (aP x5.1 x14 x5.2.2.Label).bind fun x15 =>
 (inb j up.length).bind fun i1 =>
 (up[i1]?).bind fun x16 =>
 (dA x5.1 x16 x5.2.2.Label).bind fun x17 =>
 (aM x15 x17).bind fun x18 =>
 bif ! x18 then
  some (.inr (.inl false))
 else
  some (.inl (w64 (j + 1)))
 else
 some (.inr (.inr ()))
def a9 (t1 : State × Int) : Option ((State × Int) ⊕ (Bool ⊕ State)) :=
 bif decide (t1.2 < (t1.1.Nodes.length : Int)) then
 (idx t1.1.Nodes t1.2).bind fun x4 =>
 (mK t1.1 x4.Id).bind fun x5 =>
 (
  bif x5.2.1 == 1 then
  (aC t1.1 x5.2.2.App).bind fun x6 =>
  (
   bif ! x6.2 then
   some true
   else
   (dB t1.1 x5.2.2.Node).bind fun x7 =>
   (aM x5.2.2.Size x7).bind fun x8 =>
   bif ! x8 then
    some true
   else
    (cS t1.1 x6.1.Queue x5.2.2.Label x5.2.2.Size).bind fun x9 =>
    bif ! x9 then
    some true
    else
    (cm t1.1 x6.1.Queue x5.2.2.Label x6.1.User).bind fun x10 =>
    (gg t1.1 x6.1.Queue x5.2.2.Label).bind fun x11 =>
    (aM x10 x11).bind fun x12 =>
    bif ! x12 then
     some true
    else
     bif x5.2.2.Notice != 0 then
     some true
     else
     (idx t1.1.Nodes t1.2).bind fun x13 =>
     some (x5.2.2.Node != x13.Id)).bind fun q =>
  bif q then
   some (.inr false)
  else
   (db x6.1.Queue).bind fun up =>
   (loop (ca x5 up) 0).bind fun q0 =>
   match q0 with
   | .inl q1 =>
   some (.inr q1)
   | .inr _ =>
   some (.inl ())
  else
  some (.inl ()) : Option (Unit ⊕ Bool)).bind fun q0 =>
 match q0 with
 | .inl _ =>
  (
  (iE x5.1).bind fun x19 =>
  bif ! x19 then
   some true
  else
   some ((x5.1.Conts.length : Int) != (w64 ((w64 ((t1.1.Conts.length : Int) + (Int.tmod x5.2.1 2))) - (w64 (Int.tdiv x5.2.1 3)))))).bind fun q3 =>
  bif q3 then
  some (.inr (.inl false))
  else
  some (.inl (x5.1,w64 (t1.2 + 1)))
 | .inr q2 =>
  some (.inr (.inl q2))
 else
 some (.inr (.inr (t1.1)))
def a7 (t : State × Int) : Option ((State × Int) ⊕ (Bool ⊕ Unit)) :=
 bif decide (t.2 < 2) then
 (loop a9 (t.1,0)).bind fun q0 =>
 match q0 with
 | .inl q4 =>
  some (.inr (.inl q4))
 | .inr s =>
  some (.inl (s,w64 (t.2 + 1)))
 else
 some (.inr (.inr ()))
def dh (x : Script) : Option Bool :=
 (ij).bind fun x1 =>
 bif ! x1 then
 some false
 else
 (bY x).bind fun x2 =>
 bif ! x2 then
  some true
 else
  (bI x).bind fun x3 =>
  (loop a7 (x3,0)).bind fun q0 =>
  match q0 with
  | .inl q5 =>
  some q5
  | .inr _ =>
  some true
def h10 : Hint:=(.s .z (.s .z (.s .z (.s .z (.s (.s .z (.b (.l [(3,.box (.st 10) []),(4,.v (.int .i64) [])] [2,3,4,5,6,7,8,9,10,11,12,108,153] [(1,[(2,.v .bool [])]),(2,[])] (.s .z (.s (.b (.s .z (.b (.l [(3,.box (.st 10) []),(5,.v (.int .i64) [])] [2,3,5,6,7,8,9,10,11,12,108,153] [(1,[(2,.v .bool [])]),(4,[(3,.box (.st 10) [])])] (.s .z (.s (.b (.s .z (.s (.j [2,9,10,11,12,108] [(0,[]),(1,[(2,.v .bool [])])] (.s .z (.c (.s .z (.s (.s (.j [] [(0,[(108,.v .bool [])])] .z) .z) (.s .z (.s .z (.b (.l [(12,.v (.int .i64) [])] [2,12] [(1,[(2,.v .bool [])]),(6,[])] .z)))))) .z))) (.s (.s (.j [] [(0,[(153,.v .bool [])])] .z) .z) .z)))) .z)))))) .z))))) .z)))))
def sp10 : Spec fam:=⟨[.v (.st 12) []],[.v .bool []],fun a => dh a.1⟩
end
end Go.Fx.D
