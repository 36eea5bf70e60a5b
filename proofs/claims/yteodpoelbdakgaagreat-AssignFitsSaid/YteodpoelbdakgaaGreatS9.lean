/-
  The reference manager: what holds of its state after every script. Conditions: none.
-/
import Derived.Test.YteodpoelbdakgaaGreatS8
namespace Go.Fx.D
open Go Go.Fx
set_option linter.unusedVariables false
set_option linter.unusedSimpArgs false
def PlanB (p : Plan) : Prop:=VB 1073741824 p.Need ∧ (0 ≤ p.From ∧ p.From ≤ 1000000) ∧ 0 ≤ p.Until ∧ p.Until ≤ 1000000
def SzOk (v : Vec) : Prop:=(1 ≤ v.Mem ∧ v.Mem ≤ 1073741824) ∧ 1 ≤ v.Cores ∧ v.Cores ≤ 1073741824
theorem SzOk.vb {v : Vec} (h : SzOk v) : VB 1073741824 v:=by unfold SzOk at h; unfold VB; omega
structure AskOk (c : Conf) (x : Ask) : Prop where
 label : 0 ≤ x.Label ∧ x.Label < c.Labels.length
 size : SzOk x.Size
 count : 1 ≤ x.Count ∧ x.Count ≤ 50
structure AppOk (N : Nat) (c : Conf) (a : App) : Prop where
 st : 1 ≤ a.State ∧ a.State ≤ 4
 user : 0 ≤ a.User ∧ a.User ≤ 2
 path : PathOk a.Queue
 leaf : a.State = 1 ∨ a.State = 2 → pLeaf c a.Queue = true
 mas : SzOk a.Master
 al : a.Asks.length ≤ 8
 ask : ∀ x ∈ a.Asks,AskOk c x
 gr : a.Grants.length ≤ N
 ki : a.Kills.length ≤ N
 to : a.Told.length ≤ N
 lo : a.Lost.length ≤ N
 ap : a.Asks.Pairwise fun x y => x.Prio < y.Prio
structure ContOk (s : State) (c : Cont) : Prop where
 size : SzOk c.Size
 app : ∃ a ∈ s.Apps,a.Id = c.App ∧ a.State = 2
 label : 0 ≤ c.Label ∧ c.Label < s.Conf.Labels.length
 id : 0 ≤ c.Id ∧ c.Id ≤ s.Epoch * 1048576 + s.Seq
structure ExC where
 nod : Int → Prop
 app : Int → Prop
def ex0 : ExC:=⟨fun _ => False,fun _ => False⟩
def pMas (l : List Cont) (i : Int) : List Cont:=l.filter fun c => c.App == i && c.Master
structure Sd (E : ExC) (s : State) : Prop where
 chk : aZ s.Conf = some 0
 nod : ∀ c ∈ s.Conts,∃ n ∈ s.Nodes,n.Id = c.Node ∧ n.Label = c.Label ∧ (n.Up = true ∨ E.nod n.Id)
 slt : ∀ x ∈ s.Slots,∃ n ∈ s.Nodes,n.Id = x.Node ∧ (n.Up = true ∨ E.nod n.Id)
 ntc : ∀ c ∈ s.Conts,0 ≤ c.Notice ∧ c.Notice ≤ imax s.Now 1
 fit : ∀ n ∈ s.Nodes,(et s n.Id).Mem ≤ n.Cap.Mem ∧ (et s n.Id).Cores ≤ n.Cap.Cores
 one : ∀ a ∈ s.Apps,a.State = 2 → E.app a.Id ∨ (pMas s.Conts a.Id).length = 1
structure InvE (E : ExC) (N : Nat) (s : State) : Prop where
 cf : ConfOk s.Conf
 nl : s.Nodes.length ≤ 12
 ns : s.Nodes.Pairwise fun x y => x.Id < y.Id
 nk : ∀ n ∈ s.Nodes,VB 1073741824 n.Cap ∧ 0 ≤ n.Label ∧ n.Label < s.Conf.Labels.length
 al : s.Apps.length ≤ 16
 asr : s.Apps.Pairwise fun x y => x.Id < y.Id
 ak : ∀ a ∈ s.Apps,AppOk N s.Conf a
 cl : s.Conts.length ≤ 200
 cs : s.Conts.Pairwise fun x y => x.Id < y.Id
 ck : ∀ c ∈ s.Conts,ContOk s c
 ss : s.Slots.Pairwise fun x y => x.Node < y.Node
 sk : ∀ x ∈ s.Slots,∃ n ∈ s.Nodes,n.Id = x.Node
 pl : s.Plans.length ≤ 12
 ps : s.Plans.Pairwise fun x y => x.Id < y.Id
 pk : ∀ p ∈ s.Plans,PlanB p
 now : 0 ≤ s.Now ∧ s.Now ≤ 1000000000
 ep : 0 ≤ s.Epoch ∧ s.Epoch ≤ 1048576
 sq : 0 ≤ s.Seq ∧ s.Seq ≤ 1048575
 en : s.Epoch ≤ (N : Int)
 sd : Sd E s
abbrev Inv (N : Nat) (s : State) : Prop:=InvE ex0 N s
theorem AppOk.mono {N M : Nat} {c : Conf} {a : App} (h : AppOk N c a) (hm : N ≤ M) : AppOk M c a :=
 ⟨h.st,h.user,h.path,h.leaf,h.mas,h.al,h.ask,Nat.le_trans h.gr hm,Nat.le_trans h.ki hm,Nat.le_trans h.to hm,Nat.le_trans h.lo hm,h.ap⟩
theorem InvE.mono {E : ExC} {N M : Nat} {s : State} (h : InvE E N s) (hm : N ≤ M) : InvE E M s :=
 ⟨h.cf,h.nl,h.ns,h.nk,h.al,h.asr,fun a ha => (h.ak a ha).mono hm,h.cl,h.cs,h.ck,h.ss,h.sk,h.pl,h.ps,h.pk,h.now,h.ep,h.sq,by have:=h.en; omega,h.sd⟩
theorem InvE.relax {E E' : ExC} {N : Nat} {s : State} (h : InvE E N s) (h1 : ∀ c ∈ s.Conts,E.nod c.Node → E'.nod c.Node) (h2 : ∀ x ∈ s.Slots,E.nod x.Node → E'.nod x.Node) (h3 : ∀ a ∈ s.Apps,a.State = 2 → E.app a.Id → E'.app a.Id) : InvE E' N s:=by
 refine ⟨h.cf,h.nl,h.ns,h.nk,h.al,h.asr,h.ak,h.cl,h.cs,h.ck,h.ss,h.sk,h.pl,h.ps,h.pk,h.now,h.ep,h.sq,h.en,h.sd.chk,fun c hc => ?_,fun x hx => ?_,h.sd.ntc,h.sd.fit,fun a ha e => ?_⟩
 ·obtain ⟨n,hn,e1,e2,e3⟩:=h.sd.nod c hc
  exact ⟨n,hn,e1,e2,e3.imp id fun e => by have:=h1 c hc (by rw [← e1]; exact e); rw [e1]; exact this⟩
 ·obtain ⟨n,hn,e1,e3⟩:=h.sd.slt x hx
  exact ⟨n,hn,e1,e3.imp id fun e => by have:=h2 x hx (by rw [← e1]; exact e); rw [e1]; exact this⟩
 ·exact (h.sd.one a ha e).imp (h3 a ha e) id
theorem Cc {α β : Type} (f : α → Int) (g : β → Int) : ∀ (l : List α) (m : List β),l.Pairwise (fun x y => f x < f y) → m.Pairwise (fun x y => g x < g y) → (∀ x ∈ l,∃ y ∈ m,g y = f x) → l.length ≤ m.length
 | [],m,_,_,_ => by simp
 | x :: l,[],_,_,h => by obtain ⟨y,hy,_⟩:=h x (by simp); cases hy
 | x :: l,y :: m,h1,h2,h3 => by
  have hx:=(List.pairwise_cons.1 h1).1
  have hy:=(List.pairwise_cons.1 h2).1
  have:=Cc f g l m (List.pairwise_cons.1 h1).2 (List.pairwise_cons.1 h2).2 (fun z hz => by
   obtain ⟨w,hw,e⟩:=h3 z (by simp [hz])
   rcases List.mem_cons.1 hw with rfl | hw
   ·obtain ⟨w',hw',e'⟩:=h3 x (by simp)
    rcases List.mem_cons.1 hw' with rfl | hw'
    ·have:=hx z hz; omega
    ·have:=hy w' hw'; have:=hx z hz; omega
   ·exact ⟨w,hw,e⟩)
  simp; omega
theorem InvE.sl {E : ExC} {N : Nat} {s : State} (h : InvE E N s) : s.Slots.length ≤ 12 :=
 Nat.le_trans (Cc (·.Node) (·.Id) _ _ h.ss h.ns h.sk) h.nl
theorem InvE.sb {E : ExC} {N : Nat} {s : State} (h : InvE E N s) : SB s:=by
 have h1:=h.nl
 have h2:=h.al
 have h3:=h.cl
 have h4:=h.sl
 have h5:=h.pl
 refine ⟨⟨by omega,by omega,by omega,by omega,by omega⟩,h.cf.small,fun n hn => (h.nk n hn).1,fun c hc => (h.ck c hc).size.vb,fun p hp => (h.pk p hp).1,fun a ha => by have:=(h.ak a ha).path.len; omega,fun a ha => by have:=(h.ak a ha).al; omega,fun a ha x hx => ?_⟩
 have:=(h.ak a ha).ask x hx
 have hc:=this.count
 exact ⟨this.size.vb,by omega,by omega⟩
theorem InvE.z {E : ExC} {N : Nat} {s : State} (h : InvE E N s) : SSmall s:=h.sb.z
theorem InvE.sc {E : ExC} {N : Nat} {s : State} (h : InvE E N s) : SC s:=⟨h.sb,h.cf,by have:=h.nl; omega⟩
theorem InvE.q {E : ExC} {N : Nat} {s : State} (h : InvE E N s) {a : App} (ha : a ∈ s.Apps) : a.Queue.length ≤ 1000000:=h.sb.aq a ha
theorem jV {α : Type} {id : α → Int} : ∀ {l : List α},l.Pairwise (fun x y => id x < id y) → ∀ {a b : α},a ∈ l → b ∈ l → id a = id b → a = b
 | [],_,_,_,ha,_,_ => nomatch ha
 | x :: l,h,a,b,ha0,hb0,e => by
  have h1:=(List.pairwise_cons.1 h).1
  rcases List.mem_cons.1 ha0 with ha | ha
  ·subst ha
   rcases List.mem_cons.1 hb0 with hb | hb
   ·exact hb.symm
   ·have:=h1 b hb; omega
  ·rcases List.mem_cons.1 hb0 with hb | hb
   ·subst hb; have:=h1 a ha; omega
   ·exact jV (List.pairwise_cons.1 h).2 ha hb e
theorem InvE.putA {E : ExC} {N : Nat} {s : State} (h : InvE E N s) {a : App} (hb : ∃ b ∈ s.Apps,b.Id = a.Id ∧ (a.State = 2 → b.State = 2)) (ha : AppOk N s.Conf a) (hc : a.State = 2 ∨ ∀ c ∈ s.Conts,c.App ≠ a.Id) : InvE E N (pPutA s a):=by
 refine ⟨h.cf,h.nl,h.ns,h.nk,?_,kt h.asr,?_,h.cl,h.cs,?_,h.ss,h.sk,h.pl,h.ps,h.pk,h.now,h.ep,h.sq,h.en,h.sd.chk,h.sd.nod,h.sd.slt,h.sd.ntc,h.sd.fit,fun x hx e => ?_⟩
 ·show (putG (·.Id) s.Apps a).length ≤ 16
  rw [mb.2 (hb.imp fun b hb => ⟨hb.1,hb.2.1⟩) h.asr]; exact h.al
 ·intro x hx
  rcases (aQ h.asr).1 hx with rfl | ⟨hx,_⟩
  ·exact ha
  ·exact h.ak x hx
 ·intro c hc'
  have hck:=h.ck c hc'
  refine ⟨hck.size,?_,hck.label,hck.id⟩
  obtain ⟨b,hb,e1,e2⟩:=hck.app
  by_cases he : b.Id = a.Id
  ·rcases hc with hc | hc
   ·exact ⟨a,(aQ h.asr).2 (.inl rfl),by omega,hc⟩
   ·exact absurd (by omega) (hc c hc')
  ·exact ⟨b,(aQ h.asr).2 (.inr ⟨hb,he⟩),e1,e2⟩
 ·rcases (aQ h.asr).1 hx with rfl | ⟨hx,_⟩
  ·obtain ⟨b,hb,e1,e2⟩:=hb
   have:=h.sd.one b hb (e2 e)
   rw [e1] at this
   exact this
  ·exact h.sd.one x hx e
theorem CT {l m : List Vec} (h : l.Sublist m) (hm : ∀ v ∈ m,0 ≤ v.Mem ∧ 0 ≤ v.Cores) : (vsum l).Mem ≤ (vsum m).Mem ∧ (vsum l).Cores ≤ (vsum m).Cores:=by
 induction h with
 | slnil => exact ⟨Int.le_refl _,Int.le_refl _⟩
 | cons v h ih =>
  have h1:=ih fun w hw => hm w (List.mem_cons_of_mem _ hw)
  have h2:=hm v List.mem_cons_self
  rw [mf]
  unfold vplus
  dsimp only
  omega
 | cons_cons v h ih =>
  have h1:=ih fun w hw => hm w (List.mem_cons_of_mem _ hw)
  rw [mf,mf]
  unfold vplus
  dsimp only
  omega
theorem Ba {s t : State} (h : t.Conts.Sublist s.Conts) (hs : ∀ c ∈ s.Conts,SzOk c.Size) (i : Int) : (et t i).Mem ≤ (et s i).Mem ∧ (et t i).Cores ≤ (et s i).Cores:=by
 refine CT ((h.filter _).map _) fun v hv => ?_
 obtain ⟨c,hc,rfl⟩:=List.mem_map.1 hv
 have:=hs c (List.mem_filter.1 hc).1
 unfold SzOk at this
 omega
theorem InvE.less {E : ExC} {N : Nat} {s : State} (h : InvE E N s) {cs : List Cont} {sl : List Slot} (h1 : cs.Sublist s.Conts) (h2 : sl.Sublist s.Slots) (hm : ∀ a ∈ s.Apps,a.State = 2 → E.app a.Id ∨ pMas cs a.Id = pMas s.Conts a.Id) : InvE E N ⟨s.Conf,s.Nodes,s.Apps,cs,sl,s.Plans,s.Now,s.Epoch,s.Seq⟩:=by
 refine ⟨h.cf,h.nl,h.ns,h.nk,h.al,h.asr,h.ak,Nat.le_trans h1.length_le h.cl,h.cs.sublist h1,fun c hc => ?_,h.ss.sublist h2,fun x hx => h.sk x (h2.subset hx),h.pl,h.ps,h.pk,h.now,h.ep,h.sq,h.en,
  h.sd.chk,fun c hc => h.sd.nod c (h1.subset hc),fun x hx => h.sd.slt x (h2.subset hx),fun c hc => h.sd.ntc c (h1.subset hc),fun n hn => ?_,fun a ha e => ?_⟩
 ·have:=h.ck c (h1.subset hc)
  exact ⟨this.size,this.app,this.label,this.id⟩
 ·have h3:=Ba (s:=s) (t:=⟨s.Conf,s.Nodes,s.Apps,cs,sl,s.Plans,s.Now,s.Epoch,s.Seq⟩) h1 (fun c hc => (h.ck c hc).size) n.Id
  have h4:=h.sd.fit n hn
  omega
 ·rcases hm a ha e with e1 | e1
  ·exact .inl e1
  ·exact (h.sd.one a ha e).imp id fun e2 => by rw [← e1] at e2; exact e2
theorem InvE.away {E : ExC} {N : Nat} {s : State} (h : InvE E N s) (i : Int) (hm : ∀ c ∈ s.Conts,c.Id = i → c.Master = false) : InvE E N (pAway s i):=h.less List.filter_sublist (List.Sublist.refl _) fun a _ _ => .inr (by
 unfold pMas
 rw [List.filter_filter]
 refine List.filter_congr fun c hc => ?_
 by_cases e : c.Id = i
 ·rw [hm c hc e,Bool.and_false,Bool.false_and]
 ·rw [show (c.Id != i) = true from bne_iff_ne.2 e,Bool.and_true])
def exA (E : ExC) (i : Int) : ExC:=⟨E.nod,fun j => E.app j ∨ j = i⟩
theorem InvE.shed {E : ExC} {N : Nat} {s : State} (h : InvE E N s) (i : Int) : InvE (exA E i) N (pShed s i) :=
 InvE.less (E:=exA E i) (h.relax (fun _ _ e => e) (fun _ _ e => e) fun _ _ _ e => .inl e) List.filter_sublist List.filter_sublist fun a _ _ => by
  by_cases e : a.Id = i
  ·exact .inl (.inr e)
  ·refine .inr ?_
   unfold pMas
   rw [List.filter_filter]
   refine List.filter_congr fun c hc => ?_
   by_cases e2 : c.App = a.Id
   ·rw [show (c.App == i) = false from beq_eq_false_iff_ne.2 (by omega),Bool.not_false,Bool.and_true]
   ·rw [show (c.App == a.Id) = false from beq_eq_false_iff_ne.2 e2]; rfl
theorem InvE.putN {E : ExC} {N : Nat} {s : State} (h : InvE E N s) {n : Node} (hb : (∃ b ∈ s.Nodes,b.Id = n.Id) ∨ s.Nodes.length < 12) (hn : VB 1073741824 n.Cap ∧ 0 ≤ n.Label ∧ n.Label < s.Conf.Labels.length)
  (hu : ((∀ c ∈ s.Conts,c.Node ≠ n.Id) ∧ ∀ x ∈ s.Slots,x.Node ≠ n.Id) ∨ ∃ b ∈ s.Nodes,b.Id = n.Id ∧ b.Label = n.Label ∧ b.Cap = n.Cap ∧ (b.Up = true → n.Up = true ∨ E.nod n.Id)) : InvE E N (pPutN s n):=by
 refine ⟨h.cf,?_,kt h.ns,?_,h.al,h.asr,h.ak,h.cl,h.cs,fun c hc => ?_,h.ss,?_,h.pl,h.ps,h.pk,h.now,h.ep,h.sq,h.en,h.sd.chk,fun c hc => ?_,fun x hx => ?_,h.sd.ntc,fun m hm => ?_,h.sd.one⟩
 ·show (putG (·.Id) s.Nodes n).length ≤ 12
  rcases hb with hb | hb
  ·rw [mb.2 hb h.ns]; exact h.nl
  ·have:=(mb (id:=fun x : Node => x.Id) (l:=s.Nodes) (a:=n)).1; omega
 ·intro x hx
  rcases (aQ h.ns).1 hx with rfl | ⟨hx,_⟩
  ·exact hn
  ·exact h.nk x hx
 ·have:=h.ck c hc
  exact ⟨this.size,this.app,this.label,this.id⟩
 ·intro x hx
  obtain ⟨b,hb,e⟩:=h.sk x hx
  by_cases he : b.Id = n.Id
  ·exact ⟨n,(aQ h.ns).2 (.inl rfl),by omega⟩
  ·exact ⟨b,(aQ h.ns).2 (.inr ⟨hb,he⟩),e⟩
 ·obtain ⟨b,hb,e1,e2,e3⟩:=h.sd.nod c hc
  by_cases he : b.Id = n.Id
  ·rcases hu with hu | ⟨b',hb',f1,f2,f3,f4⟩
   ·exact absurd (by omega) (hu.1 c hc)
   ·have : b = b':=jV (id:=fun x : Node => x.Id) h.ns hb hb' (by omega)
    subst this
    exact ⟨n,(aQ h.ns).2 (.inl rfl),by omega,by omega,e3.elim f4 fun e => .inr (by rw [← he]; exact e)⟩
  ·exact ⟨b,(aQ h.ns).2 (.inr ⟨hb,he⟩),e1,e2,e3⟩
 ·obtain ⟨b,hb,e1,e3⟩:=h.sd.slt x hx
  by_cases he : b.Id = n.Id
  ·rcases hu with hu | ⟨b',hb',f1,f2,f3,f4⟩
   ·exact absurd (by omega) (hu.2 x hx)
   ·have : b = b':=jV (id:=fun x : Node => x.Id) h.ns hb hb' (by omega)
    subst this
    exact ⟨n,(aQ h.ns).2 (.inl rfl),by omega,e3.elim f4 fun e => .inr (by rw [← he]; exact e)⟩
  ·exact ⟨b,(aQ h.ns).2 (.inr ⟨hb,he⟩),e1,e3⟩
 ·rcases (aQ h.ns).1 hm with rfl | ⟨hm,_⟩
  ·rcases hu with hu | ⟨b,hb,f1,f2,f3,f4⟩
   ·have e : et (pPutN s m) m.Id = ⟨0,0⟩:=by
     show vsum ((s.Conts.filter fun c => c.Node == m.Id).map (·.Size)) = _
     rw [List.filter_eq_nil_iff.2 fun c hc => by simpa using hu.1 c hc]; rfl
    rw [e]
    have:=hn.1
    unfold VB at this
    dsimp only
    omega
   ·have:=h.sd.fit b hb
    rw [f1,f3] at this
    exact this
  ·exact h.sd.fit m hm
def noS : Slot:=⟨0,0,0⟩
def nV (s : State) (i : Int) : Option Slot:=s.Slots.find? fun x => x.Node == i
theorem r7 {s : State} (h : SSmall s) (i : Int) : jg s i = some ((nV s i).elim (noS,false) fun x => (x,true)):=by
 unfold jg
 have e:=cI (fun i => (noS,i)) s.Slots (fun q => q.Node == i) (fun q => .inl (q,true)) (.inr noS) (step:=cy s i) (by have:=h.l; omega) ?_ ?_ ?_
 ·unfold noS at e
  rw [e]
  unfold nV noS
  cases s.Slots.find? fun q => q.Node == i <;> rfl
 ·intro k hk hp
  unfold cy
  rw [ah hk,ai hk]
  simp only [cond_true,Gp,hp,cond_false]
 ·intro k hk hp
  unfold cy
  rw [ah hk,ai hk]
  simp only [cond_true,Gp,hp]
 ·unfold cy
  rw [ao]
  rfl
def pNoSlot (s : State) (i : Int) : State:=⟨s.Conf,s.Nodes,s.Apps,s.Conts,s.Slots.filter fun x => x.Node != i,s.Plans,s.Now,s.Epoch,s.Seq⟩
theorem jS {s : State} (h : SSmall s) (i : Int) : bS s i = some (pNoSlot s i):=by
 unfold bS
 have hc:=h.l
 have e:=bb (fun (l : List Slot) i => (l,i)) s.Slots (fun c => c.Node != i) id (step:=dO s i) (by omega) ?_ ?_
 ·rw [e,List.map_id]; rfl
 ·intro k hk l hl
  unfold dO
  rw [ah hk,ai hk]
  simp only [cond_true,Gp]
  cases hp : (s.Slots[k].Node != i) <;> simp only [cond_true,cond_false,Gp,if_true]
  ·rfl
  ·rw [am (by simp; omega) (by omega)]; rfl
 ·intro l
  unfold dO
  rw [ao]
  rfl
theorem InvE.noSlot {E : ExC} {N : Nat} {s : State} (h : InvE E N s) (i : Int) : InvE E N (pNoSlot s i):=h.less (List.Sublist.refl _) List.filter_sublist fun _ _ _ => .inr rfl
def pKeeps (s : State) (app prio : Int) : Bool:=(s.Slots.find? fun x => x.App == app && x.Prio == prio).isSome
theorem xb {s : State} (h : SSmall s) (app prio : Int) : iC s app prio = some (pKeeps s app prio):=by
 unfold iC
 have st : ∀ k (hk : k < s.Slots.length),cp s app prio (k : Int) = some (bif s.Slots[k].App == app && s.Slots[k].Prio == prio then .inr (.inl true) else .inl (w64 ((k : Int) + 1))):=by
  intro k hk
  unfold cp
  rw [ah hk,ai hk]
  simp only [cond_true,Gp]
  cases s.Slots[k].App == app <;> cases s.Slots[k].Prio == prio <;> rfl
 have e:=cI (fun i => i) s.Slots (fun x => x.App == app && x.Prio == prio) (fun q => (.inl true : Bool ⊕ Unit)) (.inr ()) (step:=cp s app prio) (by have:=h.l; omega) ?_ ?_ ?_
 ·rw [e]
  unfold pKeeps
  cases s.Slots.find? fun x => x.App == app && x.Prio == prio <;> rfl
 ·intro k hk hp
  rw [st k hk,hp]; rfl
 ·intro k hk hp
  rw [st k hk,hp]; rfl
 ·unfold cp
  rw [ao]
  rfl
def insG {α : Type} (id : α → Int) (l : List α) (a : α) : List α:=(l.takeWhile fun x => decide (id x < id a)) ++ a :: l.dropWhile fun x => decide (id x < id a)
theorem xw {α : Type} {id : α → Int} {l : List α} {a : α} (h : ∀ x ∈ l,id x ≠ id a) : insG id l a = putG id l a:=by
 unfold insG putG
 have : ∀ x ∈ l.dropWhile fun x => decide (id x < id a),id x ≠ id a:=fun x hx => h x ((List.dropWhile_sublist _).subset hx)
 cases hd : l.dropWhile fun x => decide (id x < id a) with
 | nil => rfl
 | cons b y =>
  rw [hd] at this
  dsimp only
  rw [if_neg (this b (by simp))]
theorem yZ {α : Type} {id : α → Int} {b : Nat} (hb : b ≤ 1000) {l : List α} (hn : l.length ≤ 1000000) {a : α} {k1 : Int} (hk : k1 = ((l.takeWhile fun x => decide (id x < id a)).length : Int)) {β : Type} (f : List α → Option β) :
  ((slc l 0 k1).bind fun x => (app b [] x).bind fun l1 => (app b l1 [a]).bind fun l2 => (slc l k1 (l.length : Int)).bind fun l3 => (app b l2 l3).bind f) = f (insG id l a):=by
 have hle:=jP (fun x => decide (id x < id a)) l
 have ht:=kR (fun x => decide (id x < id a)) l
 subst hk
 unfold insG
 generalize hA : l.takeWhile (fun x => decide (id x < id a)) = A at hle ht ⊢
 have s1 : slc l 0 (A.length : Int) = some A:=by
  unfold slc
  rw [if_pos ⟨by omega,by omega,by omega⟩,Int.toNat_natCast,ht.1]; rfl
 have s2 : slc l (A.length : Int) (l.length : Int) = some (l.drop A.length):=by
  unfold slc
  rw [if_pos ⟨by omega,by omega,by omega⟩,Int.toNat_natCast,Int.toNat_natCast,List.take_length]
 rw [s1,Gp,am (by simp; omega) hb,Gp,List.nil_append,am (by simp; omega) hb,Gp,s2,Gp,am (by simp; omega) hb,Gp,ht.2]
 simp
def pHold (s : State) (x : Slot) : State:=⟨s.Conf,s.Nodes,s.Apps,s.Conts,insG (·.Node) s.Slots x,s.Plans,s.Now,s.Epoch,s.Seq⟩
theorem z3 {s : State} (h : SSmall s) (x : Slot) : iM s x = some (pHold s x):=by
 unfold iM
 have hn:=h.l
 have e:=gE s.Slots (fun y => decide (y.Node < x.Node)) (step:=ft s x) (by omega) ?_ ?_
 ·rw [e,Gp]
  exact yZ (id:=fun x : Slot => x.Node) (by omega) (by omega) rfl (fun l4 => some (⟨s.Conf,s.Nodes,s.Apps,s.Conts,l4,s.Plans,s.Now,s.Epoch,s.Seq⟩ : State))
 ·intro k hk
  unfold ft
  rw [ah hk,ai hk]
  simp only [cond_true,Gp]
  cases decide (s.Slots[k].Node < x.Node) <;> rfl
 ·unfold ft
  rw [ao]
  rfl
theorem InvE.hold {E : ExC} {N : Nat} {s : State} (h : InvE E N s) {x : Slot} (h1 : ∀ y ∈ s.Slots,y.Node ≠ x.Node) (h2 : ∃ n ∈ s.Nodes,n.Id = x.Node ∧ n.Up = true) : InvE E N (pHold s x):=by
 have e : insG (·.Node) s.Slots x = putG (·.Node) s.Slots x:=xw h1
 refine ⟨h.cf,h.nl,h.ns,h.nk,h.al,h.asr,h.ak,h.cl,h.cs,fun c hc => ?_,?_,?_,h.pl,h.ps,h.pk,h.now,h.ep,h.sq,h.en,h.sd.chk,h.sd.nod,?_,h.sd.ntc,h.sd.fit,h.sd.one⟩
 ·have:=h.ck c hc
  exact ⟨this.size,this.app,this.label,this.id⟩
 ·show (insG (·.Node) s.Slots x).Pairwise _
  rw [e]; exact kt h.ss
 ·intro y hy
  have hy : y ∈ insG (·.Node) s.Slots x:=hy
  rw [e] at hy
  rcases (aQ h.ss).1 hy with rfl | ⟨hy,_⟩
  ·obtain ⟨n,hn,e,_⟩:=h2; exact ⟨n,hn,e⟩
  ·exact h.sk y hy
 ·intro y hy
  have hy : y ∈ insG (·.Node) s.Slots x:=hy
  rw [e] at hy
  rcases (aQ h.ss).1 hy with rfl | ⟨hy,_⟩
  ·obtain ⟨n,hn,e,hu⟩:=h2; exact ⟨n,hn,e,.inl hu⟩
  ·exact h.sd.slt y hy
def cid (s : State) : Int:=w64 ((shlK .i64 s.Epoch 20) + (w64 (s.Seq + 1)))
theorem shl20 {x : Int} (h0 : 0 ≤ x) (h1 : x ≤ 1048576) : shlK .i64 x 20 = x * 1048576:=by
 unfold shlK
 have : (2 : Int) ^ min (20 : Int).toNat IntKind.i64.bits = 1048576:=by decide
 rw [this]
 exact aj (by omega) (by omega)
theorem Ck {s : State} (h1 : 0 ≤ s.Epoch ∧ s.Epoch ≤ 1048576) (h2 : 0 ≤ s.Seq ∧ s.Seq ≤ 1048575) : cid s = s.Epoch * 1048576 + s.Seq + 1:=by
 unfold cid
 rw [shl20 h1.1 h1.2,aj (x:=s.Seq + 1) (by omega) (by omega),aj (by omega) (by omega)]
 omega
def gCont (s : State) (n : Node) (a : App) (x : Ask) : Cont:=⟨cid s,a.Id,n.Id,x.Size,x.Prio,n.Label,a.State == 1,0⟩
def gApp (s : State) (a : App) (x : Ask) : App :=
 if a.State = 1 then ⟨a.Id,2,a.Queue,a.User,a.Prio,a.Master,[],s.Now,0,a.Grants,a.Kills,a.Told,a.Lost⟩
 else ⟨a.Id,a.State,a.Queue,a.User,a.Prio,a.Master,pTake a.Asks x.Prio,a.Seen,a.Beat,a.Grants ++ [cid s],a.Kills,a.Told,a.Lost⟩
def ic (s : State) (n : Node) (a : App) (x : Ask) : State :=
 pPutA ⟨s.Conf,s.Nodes,s.Apps,insG (·.Id) s.Conts (gCont s n a x),s.Slots,s.Plans,s.Now,s.Epoch,s.Seq + 1⟩ (gApp s a x)
theorem oG {s : State} (h : SSmall s) (hs : 0 ≤ s.Seq ∧ s.Seq ≤ 1048575) (n : Node) {a : App} (h1 : a.Asks.length ≤ 100) (h2 : ∀ x ∈ a.Asks,0 ≤ x.Count ∧ x.Count ≤ 1000000) (h3 : a.Grants.length ≤ 10000000) (x : Ask) :
  ef s n a x = some (ic s n a x,gCont s n a x):=by
 unfold ef
 obtain ⟨r,er,hr⟩:=FL (l:=a.Asks) (by omega) h2 x.Prio
 rw [er,Gp]
 have hn:=h.c
 have e1 : (bif a.State == 1 then some (⟨a.Id,2,a.Queue,a.User,a.Prio,⟨a.Master.Mem,a.Master.Cores⟩,[],s.Now,0,a.Grants,a.Kills,a.Told,a.Lost⟩ : App)
  else (app 8 [] a.Grants).bind fun l => (app 8 l [w64 ((shlK .i64 s.Epoch 20) + (w64 (s.Seq + 1)))]).bind fun l1 =>
   some (⟨a.Id,a.State,a.Queue,a.User,a.Prio,⟨a.Master.Mem,a.Master.Cores⟩,r.1,a.Seen,a.Beat,l1,a.Kills,a.Told,a.Lost⟩ : App)) = some (gApp s a x):=by
  unfold gApp
  by_cases ha : a.State = 1
  ·rw [if_pos ha,show (a.State == 1) = true by simpa using ha]; rfl
  ·rw [if_neg ha,show (a.State == 1) = false by simpa using ha,cond_false,am (by simp; omega) (by omega),Gp,am (by simp; omega) (by omega),Gp,hr]
   rfl
 rw [e1,Gp]
 have e:=gE s.Conts (fun y => decide (y.Id < (gCont s n a x).Id)) (step:=eL s) (by omega) ?_ ?_
 ·rw [e,Gp]
  refine (yZ (id:=fun x : Cont => x.Id) (a:=gCont s n a x) (b:=72) (by omega) (by omega) rfl (fun l6 => (aO (⟨⟨s.Conf.Labels,s.Conf.Queues⟩,s.Nodes,s.Apps,l6,s.Slots,s.Plans,s.Now,s.Epoch,w64 (s.Seq + 1)⟩ : State) (gApp s a x)).bind fun x3 => some (x3,gCont s n a x))).trans ?_
  rw [aj (x:=s.Seq + 1) (by omega) (by omega)]
  rw [wC (by exact h.a),Gp]
  rfl
 ·intro k hk
  unfold eL
  rw [ah hk,ai hk]
  simp only [cond_true,Gp]
  show (bif decide (s.Conts[k].Id < cid s) then _ else _) = some (if decide (s.Conts[k].Id < cid s) = true then _ else _)
  cases decide (s.Conts[k].Id < cid s) <;> rfl
 ·unfold eL
  rw [ao]
  rfl
end Go.Fx.D
