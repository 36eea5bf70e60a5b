/-
  The reference manager: what holds of its state after every script. Conditions: none.
-/
import Derived.Test.YtmpaebhomokjmaaGreatS8
namespace Go.Fx.D
open Go Go.Fx
set_option linter.unusedVariables false
set_option linter.unusedSimpArgs false
def PlanB (p : Plan) : Prop:=VB 1073741824 p.Need ∧ (0 ≤ p.From ∧ p.From ≤ 1000000) ∧ 0 ≤ p.Until ∧ p.Until ≤ 1000000
def SzOk (v : Vec) : Prop:=(1 ≤ v.Mem ∧ v.Mem ≤ 1073741824) ∧ 1 ≤ v.Cores ∧ v.Cores ≤ 1073741824
theorem SzOk.vb {v : Vec} (h : SzOk v) : VB 1073741824 v:=by unfold SzOk at h; unfold VB; omega
structure AskOk (c : Conf) (x : Ask) : Prop where
 label : 0 ≤ x.Label ∧ x.Label < c.Labels.length
 size : SzOk x.Size
 count : 1 ≤ x.Count ∧ x.Count ≤ 50
structure AppOk (N : Nat) (c : Conf) (a : App) : Prop where
 st : 1 ≤ a.State ∧ a.State ≤ 4
 user : 0 ≤ a.User ∧ a.User ≤ 2
 path : PathOk a.Queue
 leaf : a.State = 1 ∨ a.State = 2 → pLeaf c a.Queue = true
 mas : SzOk a.Master
 al : a.Asks.length ≤ 8
 ask : ∀ x ∈ a.Asks,AskOk c x
 gr : a.Grants.length ≤ N
 ki : a.Kills.length ≤ N
 to : a.Told.length ≤ N
 lo : a.Lost.length ≤ N
structure ContOk (s : State) (c : Cont) : Prop where
 size : SzOk c.Size
 app : ∃ a ∈ s.Apps,a.Id = c.App ∧ a.State = 2
 label : 0 ≤ c.Label ∧ c.Label < s.Conf.Labels.length
 id : 0 ≤ c.Id ∧ c.Id ≤ s.Epoch * 1048576 + s.Seq
structure Inv (N : Nat) (s : State) : Prop where
 cf : ConfOk s.Conf
 nl : s.Nodes.length ≤ 12
 ns : s.Nodes.Pairwise fun x y => x.Id < y.Id
 nk : ∀ n ∈ s.Nodes,VB 1073741824 n.Cap ∧ 0 ≤ n.Label ∧ n.Label < s.Conf.Labels.length
 al : s.Apps.length ≤ 16
 asr : s.Apps.Pairwise fun x y => x.Id < y.Id
 ak : ∀ a ∈ s.Apps,AppOk N s.Conf a
 cl : s.Conts.length ≤ 200
 cs : s.Conts.Pairwise fun x y => x.Id < y.Id
 ck : ∀ c ∈ s.Conts,ContOk s c
 ss : s.Slots.Pairwise fun x y => x.Node < y.Node
 sk : ∀ x ∈ s.Slots,∃ n ∈ s.Nodes,n.Id = x.Node
 pl : s.Plans.length ≤ 12
 ps : s.Plans.Pairwise fun x y => x.Id < y.Id
 pk : ∀ p ∈ s.Plans,PlanB p
 now : 0 ≤ s.Now ∧ s.Now ≤ 1000000000
 ep : 0 ≤ s.Epoch ∧ s.Epoch ≤ 1048576
 sq : 0 ≤ s.Seq ∧ s.Seq ≤ 1048575
theorem AppOk.mono {N M : Nat} {c : Conf} {a : App} (h : AppOk N c a) (hm : N ≤ M) : AppOk M c a :=
 ⟨h.st,h.user,h.path,h.leaf,h.mas,h.al,h.ask,Nat.le_trans h.gr hm,Nat.le_trans h.ki hm,Nat.le_trans h.to hm,Nat.le_trans h.lo hm⟩
theorem Inv.mono {N M : Nat} {s : State} (h : Inv N s) (hm : N ≤ M) : Inv M s :=
 ⟨h.cf,h.nl,h.ns,h.nk,h.al,h.asr,fun a ha => (h.ak a ha).mono hm,h.cl,h.cs,h.ck,h.ss,h.sk,h.pl,h.ps,h.pk,h.now,h.ep,h.sq⟩
theorem DK {α β : Type} (f : α → Int) (g : β → Int) : ∀ (l : List α) (m : List β),l.Pairwise (fun x y => f x < f y) → m.Pairwise (fun x y => g x < g y) → (∀ x ∈ l,∃ y ∈ m,g y = f x) → l.length ≤ m.length
 | [],m,_,_,_ => by simp
 | x :: l,[],_,_,h => by obtain ⟨y,hy,_⟩:=h x (by simp); cases hy
 | x :: l,y :: m,h1,h2,h3 => by
  have hx:=(List.pairwise_cons.1 h1).1
  have hy:=(List.pairwise_cons.1 h2).1
  have:=DK f g l m (List.pairwise_cons.1 h1).2 (List.pairwise_cons.1 h2).2 (fun z hz => by
   obtain ⟨w,hw,e⟩:=h3 z (by simp [hz])
   rcases List.mem_cons.1 hw with rfl | hw
   ·obtain ⟨w',hw',e'⟩:=h3 x (by simp)
    rcases List.mem_cons.1 hw' with rfl | hw'
    ·have:=hx z hz; omega
    ·have:=hy w' hw'; have:=hx z hz; omega
   ·exact ⟨w,hw,e⟩)
  simp; omega
theorem Inv.sl {N : Nat} {s : State} (h : Inv N s) : s.Slots.length ≤ 12 :=
 Nat.le_trans (DK (·.Node) (·.Id) _ _ h.ss h.ns h.sk) h.nl
theorem Inv.sb {N : Nat} {s : State} (h : Inv N s) : SB s:=by
 have h1:=h.nl
 have h2:=h.al
 have h3:=h.cl
 have h4:=h.sl
 have h5:=h.pl
 refine ⟨⟨by omega,by omega,by omega,by omega,by omega⟩,h.cf.small,fun n hn => (h.nk n hn).1,fun c hc => (h.ck c hc).size.vb,fun p hp => (h.pk p hp).1,fun a ha => by have:=(h.ak a ha).path.len; omega,fun a ha => by have:=(h.ak a ha).al; omega,fun a ha x hx => ?_⟩
 have:=(h.ak a ha).ask x hx
 have hc:=this.count
 exact ⟨this.size.vb,by omega,by omega⟩
theorem Inv.z {N : Nat} {s : State} (h : Inv N s) : SSmall s:=h.sb.z
theorem Inv.sc {N : Nat} {s : State} (h : Inv N s) : SC s:=⟨h.sb,h.cf,by have:=h.nl; omega⟩
theorem Inv.q {N : Nat} {s : State} (h : Inv N s) {a : App} (ha : a ∈ s.Apps) : a.Queue.length ≤ 1000000:=h.sb.aq a ha
theorem Inv.putA {N : Nat} {s : State} (h : Inv N s) {a : App} (hb : ∃ b ∈ s.Apps,b.Id = a.Id) (ha : AppOk N s.Conf a) (hc : a.State = 2 ∨ ∀ c ∈ s.Conts,c.App ≠ a.Id) : Inv N (pPutA s a):=by
 refine ⟨h.cf,h.nl,h.ns,h.nk,?_,lW h.asr,?_,h.cl,h.cs,?_,h.ss,h.sk,h.pl,h.ps,h.pk,h.now,h.ep,h.sq⟩
 ·show (putG (·.Id) s.Apps a).length ≤ 16
  rw [nX.2 hb h.asr]; exact h.al
 ·intro x hx
  rcases (cw h.asr).1 hx with rfl | ⟨hx,_⟩
  ·exact ha
  ·exact h.ak x hx
 ·intro c hc'
  have hck:=h.ck c hc'
  refine ⟨hck.size,?_,hck.label,hck.id⟩
  obtain ⟨b,hb,e1,e2⟩:=hck.app
  by_cases he : b.Id = a.Id
  ·rcases hc with hc | hc
   ·exact ⟨a,(cw h.asr).2 (.inl rfl),by omega,hc⟩
   ·exact absurd (by omega) (hc c hc')
  ·exact ⟨b,(cw h.asr).2 (.inr ⟨hb,he⟩),e1,e2⟩
theorem Inv.less {N : Nat} {s : State} (h : Inv N s) {cs : List Cont} {sl : List Slot} (h1 : cs.Sublist s.Conts) (h2 : sl.Sublist s.Slots) : Inv N ⟨s.Conf,s.Nodes,s.Apps,cs,sl,s.Plans,s.Now,s.Epoch,s.Seq⟩:=by
 refine ⟨h.cf,h.nl,h.ns,h.nk,h.al,h.asr,h.ak,Nat.le_trans h1.length_le h.cl,h.cs.sublist h1,fun c hc => ?_,h.ss.sublist h2,fun x hx => h.sk x (h2.subset hx),h.pl,h.ps,h.pk,h.now,h.ep,h.sq⟩
 have:=h.ck c (h1.subset hc)
 exact ⟨this.size,this.app,this.label,this.id⟩
theorem Inv.away {N : Nat} {s : State} (h : Inv N s) (i : Int) : Inv N (pAway s i):=h.less List.filter_sublist (List.Sublist.refl _)
theorem Inv.shed {N : Nat} {s : State} (h : Inv N s) (i : Int) : Inv N (pShed s i):=h.less List.filter_sublist List.filter_sublist
theorem Inv.putN {N : Nat} {s : State} (h : Inv N s) {n : Node} (hb : (∃ b ∈ s.Nodes,b.Id = n.Id) ∨ s.Nodes.length < 12) (hn : VB 1073741824 n.Cap ∧ 0 ≤ n.Label ∧ n.Label < s.Conf.Labels.length) : Inv N (pPutN s n):=by
 refine ⟨h.cf,?_,lW h.ns,?_,h.al,h.asr,h.ak,h.cl,h.cs,fun c hc => ?_,h.ss,?_,h.pl,h.ps,h.pk,h.now,h.ep,h.sq⟩
 ·show (putG (·.Id) s.Nodes n).length ≤ 12
  rcases hb with hb | hb
  ·rw [nX.2 hb h.ns]; exact h.nl
  ·have:=(nX (id:=fun x : Node => x.Id) (l:=s.Nodes) (a:=n)).1; omega
 ·intro x hx
  rcases (cw h.ns).1 hx with rfl | ⟨hx,_⟩
  ·exact hn
  ·exact h.nk x hx
 ·have:=h.ck c hc
  exact ⟨this.size,this.app,this.label,this.id⟩
 ·intro x hx
  obtain ⟨b,hb,e⟩:=h.sk x hx
  by_cases he : b.Id = n.Id
  ·exact ⟨n,(cw h.ns).2 (.inl rfl),by omega⟩
  ·exact ⟨b,(cw h.ns).2 (.inr ⟨hb,he⟩),e⟩
def noS : Slot:=⟨0,0,0⟩
def z3 (s : State) (i : Int) : Option Slot:=s.Slots.find? fun x => x.Node == i
theorem IK {s : State} (h : SSmall s) (i : Int) : jy s i = some ((z3 s i).elim (noS,false) fun x => (x,true)):=by
 unfold jy
 have e:=d6 (fun i => (noS,i)) s.Slots (fun q => q.Node == i) (fun q => .inl (q,true)) (.inr noS) (step:=di s i) (by have:=h.l; omega) ?_ ?_ ?_
 ·unfold noS at e
  rw [e]
  unfold z3 noS
  cases s.Slots.find? fun q => q.Node == i <;> rfl
 ·intro k hk hp
  unfold di
  rw [aj hk,ai hk]
  simp only [cond_true,Jw,hp,cond_false]
 ·intro k hk hp
  unfold di
  rw [aj hk,ai hk]
  simp only [cond_true,Jw,hp]
 ·unfold di
  rw [ar]
  rfl
def pNoSlot (s : State) (i : Int) : State:=⟨s.Conf,s.Nodes,s.Apps,s.Conts,s.Slots.filter fun x => x.Node != i,s.Plans,s.Now,s.Epoch,s.Seq⟩
theorem r9 {s : State} (h : SSmall s) (i : Int) : ci s i = some (pNoSlot s i):=by
 unfold ci
 have hc:=h.l
 have e:=bS (fun (l : List Slot) i => (l,i)) s.Slots (fun c => c.Node != i) id (step:=d_ s i) (by omega) ?_ ?_
 ·rw [e,List.map_id]; rfl
 ·intro k hk l hl
  unfold d_
  rw [aj hk,ai hk]
  simp only [cond_true,Jw]
  cases hp : (s.Slots[k].Node != i) <;> simp only [cond_true,cond_false,Jw,if_true]
  ·rfl
  ·rw [am (by simp; omega) (by omega)]; rfl
 ·intro l
  unfold d_
  rw [ar]
  rfl
theorem Inv.noSlot {N : Nat} {s : State} (h : Inv N s) (i : Int) : Inv N (pNoSlot s i):=h.less (List.Sublist.refl _) List.filter_sublist
def En (s : State) (app prio : Int) : Bool:=(s.Slots.find? fun x => x.App == app && x.Prio == prio).isSome
theorem FA {s : State} (h : SSmall s) (app prio : Int) : jb s app prio = some (En s app prio):=by
 unfold jb
 have st : ∀ k (hk : k < s.Slots.length),cU s app prio (k : Int) = some (bif s.Slots[k].App == app && s.Slots[k].Prio == prio then .inr (.inl true) else .inl (w64 ((k : Int) + 1))):=by
  intro k hk
  unfold cU
  rw [aj hk,ai hk]
  simp only [cond_true,Jw]
  cases s.Slots[k].App == app <;> cases s.Slots[k].Prio == prio <;> rfl
 have e:=d6 (fun i => i) s.Slots (fun x => x.App == app && x.Prio == prio) (fun q => (.inl true : Bool ⊕ Unit)) (.inr ()) (step:=cU s app prio) (by have:=h.l; omega) ?_ ?_ ?_
 ·rw [e]
  unfold En
  cases s.Slots.find? fun x => x.App == app && x.Prio == prio <;> rfl
 ·intro k hk hp
  rw [st k hk,hp]; rfl
 ·intro k hk hp
  rw [st k hk,hp]; rfl
 ·unfold cU
  rw [ar]
  rfl
def insG {α : Type} (id : α → Int) (l : List α) (a : α) : List α:=(l.takeWhile fun x => decide (id x < id a)) ++ a :: l.dropWhile fun x => decide (id x < id a)
theorem AW {α : Type} {id : α → Int} {l : List α} {a : α} (h : ∀ x ∈ l,id x ≠ id a) : insG id l a = putG id l a:=by
 unfold insG putG
 have : ∀ x ∈ l.dropWhile fun x => decide (id x < id a),id x ≠ id a:=fun x hx => h x ((List.dropWhile_sublist _).subset hx)
 cases hd : l.dropWhile fun x => decide (id x < id a) with
 | nil => rfl
 | cons b y =>
  rw [hd] at this
  dsimp only
  rw [if_neg (this b (by simp))]
theorem Cs {α : Type} {id : α → Int} {b : Nat} (hb : b ≤ 1000) {l : List α} (hn : l.length ≤ 1000000) {a : α} {k1 : Int} (hk : k1 = ((l.takeWhile fun x => decide (id x < id a)).length : Int)) {β : Type} (f : List α → Option β) :
  ((slc l 0 k1).bind fun x => (app b [] x).bind fun l1 => (app b l1 [a]).bind fun l2 => (slc l k1 (l.length : Int)).bind fun l3 => (app b l2 l3).bind f) = f (insG id l a):=by
 have hle:=mM (fun x => decide (id x < id a)) l
 have ht:=o0 (fun x => decide (id x < id a)) l
 subst hk
 unfold insG
 generalize hA : l.takeWhile (fun x => decide (id x < id a)) = A at hle ht ⊢
 have s1 : slc l 0 (A.length : Int) = some A:=by
  unfold slc
  rw [if_pos ⟨by omega,by omega,by omega⟩,Int.toNat_natCast,ht.1]; rfl
 have s2 : slc l (A.length : Int) (l.length : Int) = some (l.drop A.length):=by
  unfold slc
  rw [if_pos ⟨by omega,by omega,by omega⟩,Int.toNat_natCast,Int.toNat_natCast,List.take_length]
 rw [s1,Jw,am (by simp; omega) hb,Jw,List.nil_append,am (by simp; omega) hb,Jw,s2,Jw,am (by simp; omega) hb,Jw,ht.2]
 simp
def pHold (s : State) (x : Slot) : State:=⟨s.Conf,s.Nodes,s.Apps,s.Conts,insG (·.Node) s.Slots x,s.Plans,s.Now,s.Epoch,s.Seq⟩
theorem H8 {s : State} (h : SSmall s) (x : Slot) : jA s x = some (pHold s x):=by
 unfold jA
 have hn:=h.l
 have e:=jz s.Slots (fun y => decide (y.Node < x.Node)) (step:=ga s x) (by omega) ?_ ?_
 ·rw [e,Jw]
  exact Cs (id:=fun x : Slot => x.Node) (by omega) (by omega) rfl (fun l4 => some (⟨s.Conf,s.Nodes,s.Apps,s.Conts,l4,s.Plans,s.Now,s.Epoch,s.Seq⟩ : State))
 ·intro k hk
  unfold ga
  rw [aj hk,ai hk]
  simp only [cond_true,Jw]
  cases decide (s.Slots[k].Node < x.Node) <;> rfl
 ·unfold ga
  rw [ar]
  rfl
theorem Inv.hold {N : Nat} {s : State} (h : Inv N s) {x : Slot} (h1 : ∀ y ∈ s.Slots,y.Node ≠ x.Node) (h2 : ∃ n ∈ s.Nodes,n.Id = x.Node) : Inv N (pHold s x):=by
 have e : insG (·.Node) s.Slots x = putG (·.Node) s.Slots x:=AW h1
 refine ⟨h.cf,h.nl,h.ns,h.nk,h.al,h.asr,h.ak,h.cl,h.cs,fun c hc => ?_,?_,?_,h.pl,h.ps,h.pk,h.now,h.ep,h.sq⟩
 ·have:=h.ck c hc
  exact ⟨this.size,this.app,this.label,this.id⟩
 ·show (insG (·.Node) s.Slots x).Pairwise _
  rw [e]; exact lW h.ss
 ·intro y hy
  have hy : y ∈ insG (·.Node) s.Slots x:=hy
  rw [e] at hy
  rcases (cw h.ss).1 hy with rfl | ⟨hy,_⟩
  ·exact h2
  ·exact h.sk y hy
def cid (s : State) : Int:=w64 ((shlK .i64 s.Epoch 20) + (w64 (s.Seq + 1)))
theorem shl20 {x : Int} (h0 : 0 ≤ x) (h1 : x ≤ 1048576) : shlK .i64 x 20 = x * 1048576:=by
 unfold shlK
 have : (2 : Int) ^ min (20 : Int).toNat IntKind.i64.bits = 1048576:=by decide
 rw [this]
 exact ao (by omega) (by omega)
theorem Ji {s : State} (h1 : 0 ≤ s.Epoch ∧ s.Epoch ≤ 1048576) (h2 : 0 ≤ s.Seq ∧ s.Seq ≤ 1048575) : cid s = s.Epoch * 1048576 + s.Seq + 1:=by
 unfold cid
 rw [shl20 h1.1 h1.2,ao (x:=s.Seq + 1) (by omega) (by omega),ao (by omega) (by omega)]
 omega
def gCont (s : State) (n : Node) (a : App) (x : Ask) : Cont:=⟨cid s,a.Id,n.Id,x.Size,x.Prio,n.Label,a.State == 1,0⟩
def gApp (s : State) (a : App) (x : Ask) : App :=
 if a.State = 1 then ⟨a.Id,2,a.Queue,a.User,a.Prio,a.Master,[],s.Now,0,a.Grants,a.Kills,a.Told,a.Lost⟩
 else ⟨a.Id,a.State,a.Queue,a.User,a.Prio,a.Master,pTake a.Asks x.Prio,a.Seen,a.Beat,a.Grants ++ [cid s],a.Kills,a.Told,a.Lost⟩
def AL (s : State) (n : Node) (a : App) (x : Ask) : State :=
 pPutA ⟨s.Conf,s.Nodes,s.Apps,insG (·.Id) s.Conts (gCont s n a x),s.Slots,s.Plans,s.Now,s.Epoch,s.Seq + 1⟩ (gApp s a x)
theorem An {s : State} (h : SSmall s) (hs : 0 ≤ s.Seq ∧ s.Seq ≤ 1048575) (n : Node) {a : App} (h1 : a.Asks.length ≤ 100) (h2 : ∀ x ∈ a.Asks,0 ≤ x.Count ∧ x.Count ≤ 1000000) (h3 : a.Grants.length ≤ 10000000) (x : Ask) :
  eE s n a x = some (AL s n a x,gCont s n a x):=by
 unfold eE
 obtain ⟨r,er,hr⟩:=HR (l:=a.Asks) (by omega) h2 x.Prio
 rw [er,Jw]
 have hn:=h.c
 have e1 : (bif a.State == 1 then some (⟨a.Id,2,a.Queue,a.User,a.Prio,⟨a.Master.Mem,a.Master.Cores⟩,[],s.Now,0,a.Grants,a.Kills,a.Told,a.Lost⟩ : App)
  else (app 8 [] a.Grants).bind fun l => (app 8 l [w64 ((shlK .i64 s.Epoch 20) + (w64 (s.Seq + 1)))]).bind fun l1 =>
   some (⟨a.Id,a.State,a.Queue,a.User,a.Prio,⟨a.Master.Mem,a.Master.Cores⟩,r.1,a.Seen,a.Beat,l1,a.Kills,a.Told,a.Lost⟩ : App)) = some (gApp s a x):=by
  unfold gApp
  by_cases ha : a.State = 1
  ·rw [if_pos ha,show (a.State == 1) = true by simpa using ha]; rfl
  ·rw [if_neg ha,show (a.State == 1) = false by simpa using ha,cond_false,am (by simp; omega) (by omega),Jw,am (by simp; omega) (by omega),Jw,hr]
   rfl
 rw [e1,Jw]
 have e:=jz s.Conts (fun y => decide (y.Id < (gCont s n a x).Id)) (step:=fg s) (by omega) ?_ ?_
 ·rw [e,Jw]
  refine (Cs (id:=fun x : Cont => x.Id) (a:=gCont s n a x) (b:=72) (by omega) (by omega) rfl (fun l6 => (aS (⟨⟨s.Conf.Labels,s.Conf.Queues⟩,s.Nodes,s.Apps,l6,s.Slots,s.Plans,s.Now,s.Epoch,w64 (s.Seq + 1)⟩ : State) (gApp s a x)).bind fun x3 => some (x3,gCont s n a x))).trans ?_
  rw [ao (x:=s.Seq + 1) (by omega) (by omega)]
  rw [Bc (by exact h.a),Jw]
  rfl
 ·intro k hk
  unfold fg
  rw [aj hk,ai hk]
  simp only [cond_true,Jw]
  show (bif decide (s.Conts[k].Id < cid s) then _ else _) = some (if decide (s.Conts[k].Id < cid s) = true then _ else _)
  cases decide (s.Conts[k].Id < cid s) <;> rfl
 ·unfold fg
  rw [ar]
  rfl
end Go.Fx.D
