/-
  The reference manager: what holds of its state after every script. Conditions: none.
-/
import Derived.Test.YteodpoelbdakgaaGreatS10
namespace Go.Fx.D
open Go Go.Fx
set_option linter.unusedVariables false
set_option linter.unusedSimpArgs false
theorem nJ {s : State} {i : Int} {a : App} (h : appAt s i = some a) : a ∈ s.Apps ∧ a.Id = i:=jn h
theorem InvE.appAt {E : ExC} {N : Nat} {s : State} (h : InvE E N s) {a : App} (ha : a ∈ s.Apps) : appAt s a.Id = some a:=oo h.asr ha
theorem InvE.uniqA {E : ExC} {N : Nat} {s : State} (h : InvE E N s) {a b : App} (ha : a ∈ s.Apps) (hb : b ∈ s.Apps) (e : a.Id = b.Id) : a = b:=by
 have h1:=h.appAt ha
 rw [e,h.appAt hb] at h1
 cases h1
 rfl
theorem InvE.noc {E : ExC} {N : Nat} {s : State} (h : InvE E N s) {a : App} (ha : a ∈ s.Apps) : a.State = 2 ∨ ∀ c ∈ s.Conts,c.App ≠ a.Id:=by
 by_cases h2 : a.State = 2
 ·exact .inl h2
 ·refine .inr fun c hc e => ?_
  obtain ⟨b,hb,e1,e2⟩:=(h.ck c hc).app
  have:=h.uniqA ha hb (by omega)
  subst this
  exact h2 e2
theorem tE {a : App} (h : pLive a = true) : a.State = 1 ∨ a.State = 2:=by
 unfold pLive at h
 simpa using h
theorem CQ (a : Ask) (n : Node) : Gv (aU a n) fun _ => True:=by
 unfold aU
 repeat' (first | exact ⟨_,rfl,trivial⟩ | refine ae (fun _ => ?_) (fun _ => ?_) | refine ad (P:=fun _ => True) ?_ (fun _ _ => ?_))
def km (a : Ask) (n : Node) : Int:=(aU a n).getD 0
theorem mc (a : Ask) (n : Node) : aU a n = some (km a n):=uK (CQ a n) 0
theorem F6 (a : Ask) (n : Node) : Gv (ba a n) fun _ => True:=by
 unfold ba
 rw [mc,Gp]
 repeat' (first | exact ⟨_,rfl,trivial⟩ | refine ae (fun _ => ?_) (fun _ => ?_))
def pMay (a : Ask) (n : Node) : Bool:=(ba a n).getD false
theorem oW (a : Ask) (n : Node) : ba a n = some (pMay a n):=uK (F6 a n) false
structure Keep (s t : State) : Prop where
 cf : t.Conf = s.Conf
 nd : t.Nodes = s.Nodes
 sl : t.Slots = s.Slots
 cs : t.Conts = s.Conts
 pl : t.Plans = s.Plans
 now : t.Now = s.Now
 ep : t.Epoch = s.Epoch
 sq : t.Seq = s.Seq
 ap : ∀ a ∈ s.Apps,∃ b ∈ t.Apps,b.Id = a.Id ∧ b.State = a.State ∧ b.Queue = a.Queue ∧ b.User = a.User
 pa : ∀ b ∈ t.Apps,∃ a ∈ s.Apps,b.Id = a.Id ∧ b.State = a.State ∧ b.Queue = a.Queue ∧ b.User = a.User
theorem Keep.refl (s : State) : Keep s s:=⟨rfl,rfl,rfl,rfl,rfl,rfl,rfl,rfl,fun a ha => ⟨a,ha,rfl,rfl,rfl,rfl⟩,fun a ha => ⟨a,ha,rfl,rfl,rfl,rfl⟩⟩
theorem Keep.trans {s t u : State} (h : Keep s t) (k : Keep t u) : Keep s u:=by
 refine ⟨k.cf.trans h.cf,k.nd.trans h.nd,k.sl.trans h.sl,k.cs.trans h.cs,k.pl.trans h.pl,k.now.trans h.now,k.ep.trans h.ep,k.sq.trans h.sq,fun a ha => ?_,fun c hc => ?_⟩
 rotate_left
 ·obtain ⟨b,hb,e1,e2,e3,e4⟩:=k.pa c hc
  obtain ⟨a,ha,f1,f2,f3,f4⟩:=h.pa b hb
  exact ⟨a,ha,e1.trans f1,e2.trans f2,e3.trans f3,e4.trans f4⟩
 obtain ⟨b,hb,e1,e2,e3,e4⟩:=h.ap a ha
 obtain ⟨c,hc,f1,f2,f3,f4⟩:=k.ap b hb
 exact ⟨c,hc,f1.trans e1,f2.trans e2,f3.trans e3,f4.trans e4⟩
def ib (a : App) (prio : Int) : App:=⟨a.Id,a.State,a.Queue,a.User,a.Prio,a.Master,pMiss a.Asks prio,a.Seen,a.Beat,a.Grants,a.Kills,a.Told,a.Lost⟩
theorem uA (p : Int) (x : Ask) : (missK p x).Prio = x.Prio:=by unfold missK; split <;> rfl
theorem FM {l : List Ask} (h : l.Pairwise fun x y => x.Prio < y.Prio) (p : Int) : (pMiss l p).Pairwise fun x y => x.Prio < y.Prio:=by
 unfold pMiss
 rw [List.pairwise_map]
 refine h.imp fun {a b} hab => ?_
 rw [uA,uA]; exact hab
theorem ua {p : Int} {x y : Ask} (h : takeK p x = some y) : y.Prio = x.Prio:=by
 unfold takeK at h
 split at h
 ·split at h
  ·cases h
  ·cases h; rfl
 ·cases h; rfl
theorem zB (p : Int) : ∀ {l : List Ask},l.Pairwise (fun x y => x.Prio < y.Prio) → (pTake l p).Pairwise fun x y => x.Prio < y.Prio
 | [],_ => by simp [pTake]
 | x :: l,h => by
  have h1:=(List.pairwise_cons.1 h).1
  have ih:=zB p (List.pairwise_cons.1 h).2
  unfold pTake at ih ⊢
  rw [List.filterMap_cons]
  split
  ·exact ih
  ·rename_i y hy
   refine List.pairwise_cons.2 ⟨fun z hz => ?_,ih⟩
   obtain ⟨u,hu,e⟩:=List.mem_filterMap.1 hz
   rw [ua hy,ua e]
   exact h1 u hu
theorem E9 {N : Nat} {c : Conf} {a : App} (h : AppOk N c a) (prio : Int) : AppOk N c (ib a prio):=by
 refine ⟨h.st,h.user,h.path,h.leaf,h.mas,by show (a.Asks.map _).length ≤ 8; rw [List.length_map]; exact h.al,?_,h.gr,h.ki,h.to,h.lo,FM h.ap prio⟩
 intro x hx
 obtain ⟨y,hy,rfl⟩:=List.mem_map.1 hx
 have:=h.ask y hy
 unfold missK
 split
 ·exact ⟨this.label,this.size,this.count⟩
 ·exact this
theorem InvE.miss {N : Nat} {s : State} (h : InvE ex0 N s) {a : App} (ha : a ∈ s.Apps) (prio : Int) : Inv N (pPutA s (ib a prio)) ∧ Keep s (pPutA s (ib a prio)):=by
 refine ⟨h.putA ⟨a,ha,rfl,fun e => e⟩ (E9 (h.ak a ha) prio) (h.noc (a:=a) ha : a.State = 2 ∨ ∀ c ∈ s.Conts,c.App ≠ a.Id),⟨rfl,rfl,rfl,rfl,rfl,rfl,rfl,rfl,fun b hb => ?_,fun b hb => ?_⟩⟩
 rotate_left
 ·rcases (aQ h.asr).1 hb with rfl | ⟨hb,_⟩
  ·exact ⟨a,ha,rfl,rfl,rfl,rfl⟩
  ·exact ⟨b,hb,rfl,rfl,rfl,rfl⟩
 by_cases he : b.Id = a.Id
 ·have:=h.uniqA hb ha he
  subst this
  exact ⟨ib b prio,(aQ h.asr).2 (.inl rfl),rfl,rfl,rfl,rfl⟩
 ·exact ⟨b,(aQ h.asr).2 (.inr ⟨hb,he⟩),rfl,rfl,rfl,rfl⟩
theorem zO {c : Conf} {l : List Ask} (h : ∀ x ∈ l,AskOk c x) (prio : Int) : (pTake l prio).length ≤ l.length ∧ ∀ x ∈ pTake l prio,AskOk c x:=by
 refine ⟨List.length_filterMap_le _ _,fun x hx => ?_⟩
 obtain ⟨y,hy,e⟩:=List.mem_filterMap.1 hx
 have:=h y hy
 unfold takeK at e
 split at e
 ·split at e
  ·cases e
  ·cases e
   exact ⟨this.label,this.size,by have:=this.count; dsimp only; omega⟩
 ·cases e
  exact this
theorem DE {α : Type} (id : α → Int) (l : List α) (a : α) : (insG id l a).length = l.length + 1:=by
 unfold insG
 have:=congrArg List.length (List.takeWhile_append_dropWhile (p:=fun x => decide (id x < id a)) (l:=l))
 rw [Gs] at this ⊢
 rw [List.length_cons]
 omega
theorem u7 {α : Type} {id : α → Int} {a : α} : ∀ {l : List α},(∀ x ∈ l,id x < id a) → insG id l a = l ++ [a]:=by
 intro l h
 unfold insG
 have h1 : ∀ l : List α,(∀ x ∈ l,id x < id a) → (l.takeWhile fun x => decide (id x < id a)) = l ∧ (l.dropWhile fun x => decide (id x < id a)) = []:=by
  intro l
  induction l with
  | nil => intro _; exact ⟨rfl,rfl⟩
  | cons x l ih =>
   intro h
   have:=ih fun y hy => h y (List.mem_cons_of_mem _ hy)
   have hx:=h x List.mem_cons_self
   rw [List.takeWhile_cons_of_pos (by simpa using hx),List.dropWhile_cons_of_pos (by simpa using hx),this.1,this.2]
   exact ⟨rfl,rfl⟩
 rw [(h1 l h).1,(h1 l h).2]
theorem InvE.grant {N : Nat} {s : State} (h : InvE ex0 N s) {n : Node} (hn : n ∈ s.Nodes) (hup : n.Up = true) {a : App} (ha : a ∈ s.Apps) (hl : pLive a = true) {x : Ask} (hx : AskOk s.Conf x) (hf : vfits x.Size (pFree s n.Id) = true) (hc : s.Conts.length < 200) (hq : s.Seq < 1048575) : Inv (N + 1) (ic s n a x):=by
 have hid:=Ck h.ep h.sq
 have hlt : ∀ c ∈ s.Conts,c.Id < (gCont s n a x).Id:=by
  intro c hc
  have:=(h.ck c hc).id
  show c.Id < cid s
  omega
 have e : insG (·.Id) s.Conts (gCont s n a x) = putG (·.Id) s.Conts (gCont s n a x):=xw fun c hc => by have:=hlt c hc; omega
 have eA : insG (·.Id) s.Conts (gCont s n a x) = s.Conts ++ [gCont s n a x]:=u7 (id:=fun c : Cont => c.Id) hlt
 have hak:=h.ak a ha
 have hlv:=tE hl
 have hap : AppOk (N + 1) s.Conf (gApp s a x):=by
  unfold gApp
  split
  ·exact ⟨by dsimp only; omega,hak.user,hak.path,fun _ => hak.leaf hlv,hak.mas,by simp,by simp,Nat.le_succ_of_le hak.gr,Nat.le_succ_of_le hak.ki,Nat.le_succ_of_le hak.to,Nat.le_succ_of_le hak.lo,by simp⟩
  ·have ht:=zO hak.ask x.Prio
   exact ⟨hak.st,hak.user,hak.path,hak.leaf,hak.mas,Nat.le_trans ht.1 hak.al,ht.2,by have:=hak.gr; simp; omega,Nat.le_succ_of_le hak.ki,Nat.le_succ_of_le hak.to,Nat.le_succ_of_le hak.lo,zB x.Prio hak.ap⟩
 have hgid : (gApp s a x).Id = a.Id:=by unfold gApp; split <;> rfl
 have hgst : (gApp s a x).State = 2:=by
  unfold gApp
  split
  ·rfl
  ·dsimp only; omega
 have hin : gApp s a x ∈ (ic s n a x).Apps:=(aQ h.asr).2 (.inl rfl)
 refine ⟨h.cf,h.nl,h.ns,h.nk,?_,kt h.asr,?_,?_,?_,?_,h.ss,h.sk,h.pl,h.ps,h.pk,h.now,h.ep,?_,by have:=h.en; show s.Epoch ≤ ((N + 1 : Nat) : Int); omega,h.sd.chk,fun c hc => ?_,h.sd.slt,fun c hc => ?_,fun m hm => ?_,fun b hb e2 => ?_⟩
 ·show (putG (·.Id) s.Apps (gApp s a x)).length ≤ 16
  rw [mb.2 ⟨a,ha,hgid.symm⟩ h.asr]; exact h.al
 ·intro b hb
  rcases (aQ h.asr).1 hb with rfl | ⟨hb,_⟩
  ·exact hap
  ·exact (h.ak b hb).mono (by omega)
 ·show (insG (·.Id) s.Conts (gCont s n a x)).length ≤ 200
  rw [DE]; omega
 ·show (insG (·.Id) s.Conts (gCont s n a x)).Pairwise _
  rw [e]; exact kt h.cs
 ·intro c hc
  have hc : c ∈ insG (·.Id) s.Conts (gCont s n a x):=hc
  rw [e] at hc
  rcases (aQ h.cs).1 hc with rfl | ⟨hc,_⟩
  ·have hnk:=h.nk n hn
   refine ⟨hx.size,⟨_,hin,hgid,hgst⟩,hnk.2,?_⟩
   show 0 ≤ cid s ∧ cid s ≤ s.Epoch * 1048576 + (s.Seq + 1)
   have:=h.ep
   have:=h.sq
   omega
  ·have:=h.ck c hc
   refine ⟨this.size,?_,this.label,?_⟩
   ·obtain ⟨b,hb,e1,e2⟩:=this.app
    by_cases he : b.Id = (gApp s a x).Id
    ·exact ⟨_,hin,by omega,hgst⟩
    ·exact ⟨b,(aQ h.asr).2 (.inr ⟨hb,he⟩),e1,e2⟩
   ·have:=this.id
    show 0 ≤ c.Id ∧ c.Id ≤ s.Epoch * 1048576 + (s.Seq + 1)
    omega
 ·have:=h.sq
  show 0 ≤ s.Seq + 1 ∧ s.Seq + 1 ≤ 1048575
  omega
 ·have hc : c ∈ insG (·.Id) s.Conts (gCont s n a x):=hc
  rw [eA] at hc
  rcases List.mem_append.1 hc with hc | hc
  ·exact h.sd.nod c hc
  ·rw [Gt] at hc
   subst hc
   exact ⟨n,hn,rfl,rfl,.inl hup⟩
 ·have hc : c ∈ insG (·.Id) s.Conts (gCont s n a x):=hc
  rw [eA] at hc
  rcases List.mem_append.1 hc with hc | hc
  ·exact h.sd.ntc c hc
  ·rw [Gt] at hc
   subst hc
   show (0 : Int) ≤ 0 ∧ (0 : Int) ≤ imax s.Now 1
   unfold imax
   split <;> omega
 ·have hfm:=h.sd.fit m hm
  have hfe : et (ic s n a x) m.Id = if n.Id = m.Id then vplus (et s m.Id) x.Size else et s m.Id:=by
   show vsum (((insG (·.Id) s.Conts (gCont s n a x)).filter fun c => c.Node == m.Id).map (·.Size)) = _
   rw [eA,List.filter_append,List.map_append,wY]
   by_cases e2 : n.Id = m.Id
   ·rw [if_pos e2,List.filter_cons_of_pos (by show (n.Id == m.Id) = true; simpa using e2),List.filter_nil]
    show vplus _ (vsum [x.Size]) = _
    rw [xN]; rfl
   ·rw [if_neg e2,List.filter_cons_of_neg (by show ¬ (n.Id == m.Id) = true; simpa using e2),List.filter_nil]
    show vplus _ (vsum []) = _
    rw [tx]
    unfold vplus et
    dsimp only
    rw [Int.add_zero,Int.add_zero]
  rw [hfe]
  by_cases e2 : n.Id = m.Id
  ·have em : n = m:=jV (id:=fun x : Node => x.Id) h.ns hn hm e2
   subst em
   rw [if_pos rfl]
   have hat : cz s n.Id = some n:=oo h.ns hn
   unfold pFree at hf
   rw [hat] at hf
   dsimp only at hf
   rw [if_pos hup] at hf
   unfold vfits vless imax at hf
   simp only [Bool.and_eq_true,decide_eq_true_eq] at hf
   have hx2:=hx.size
   unfold SzOk at hx2
   unfold vplus
   dsimp only
   obtain ⟨f1,f2⟩:=hf
   split at f1 <;> split at f2 <;> omega
  ·rw [if_neg e2]; exact hfm
 ·refine .inr ?_
  show (pMas (insG (·.Id) s.Conts (gCont s n a x)) b.Id).length = 1
  have hpm : pMas (insG (·.Id) s.Conts (gCont s n a x)) b.Id = pMas s.Conts b.Id ++ pMas [gCont s n a x] b.Id:=by
   unfold pMas; rw [eA,List.filter_append]
  rw [hpm]
  rcases (aQ h.asr).1 hb with rfl | ⟨hb,hbi⟩
  ·rw [hgid]
   by_cases e3 : a.State = 1
   ·have h0 : pMas s.Conts a.Id = []:=List.filter_eq_nil_iff.2 fun c hc => by
     rcases h.noc ha with e4 | e4
     ·omega
     ·have:=e4 c hc
      simp [this]
    have h1 : pMas [gCont s n a x] a.Id = [gCont s n a x]:=List.filter_cons_of_pos (by show (a.Id == a.Id && (a.State == 1)) = true; simp [e3])
    rw [h0,h1]; rfl
   ·have h1 : pMas [gCont s n a x] a.Id = []:=List.filter_cons_of_neg (by show ¬ (a.Id == a.Id && (a.State == 1)) = true; simp [e3])
    rw [h1,List.append_nil]
    have h2 : a.State = 2:=by omega
    rcases h.sd.one a ha h2 with e4 | e4
    ·cases e4
    ·exact e4
  ·have hne : b.Id ≠ a.Id:=by rw [hgid] at hbi; exact hbi
   have h1 : pMas [gCont s n a x] b.Id = []:=List.filter_cons_of_neg (by show ¬ (a.Id == b.Id && (a.State == 1)) = true; simp [Ne.symm hne])
   rw [h1,List.append_nil]
   rcases h.sd.one b hb e2 with e4 | e4
   ·cases e4
   ·exact e4
def AskR (N : Nat) (s : State) (r : State × Int × Cont) : Prop:=(r.2.1 = 0 → Inv N r.1 ∧ Keep s r.1) ∧ (r.2.1 ≠ 0 → Inv (N + 1) r.1 ∧ r.1.Conf = s.Conf ∧ r.1.Nodes = s.Nodes)
theorem rI {N : Nat} {s t : State} {c : Cont} (h : Inv N t) (k : Keep s t) : AskR N s (t,0,c):=⟨fun _ => ⟨h,k⟩,fun h => absurd rfl h⟩
theorem wZ {N : Nat} {s t : State} {c : Cont} {k : Int} (hk : k ≠ 0) (h : Inv (N + 1) t) (h1 : t.Conf = s.Conf) (h2 : t.Nodes = s.Nodes) : AskR N s (t,k,c):=⟨fun h => absurd h hk,fun _ => ⟨h,h1,h2⟩⟩
theorem InvE.leafLen {E : ExC} {N : Nat} {s : State} (h : InvE E N s) {a : App} (ha : a ∈ s.Apps) : a.Queue.length ≤ 1000000:=by have:=(h.ak a ha).path.len; omega
theorem wB {N : Nat} {s : State} (h : Inv N s) (hN : N ≤ 1000000) {n : Node} (hn : n ∈ s.Nodes) (hup : n.Up = true) (hfree : ∀ y ∈ s.Slots,y.Node ≠ n.Id) {a : App} (ha : a ∈ s.Apps) (hl : pLive a = true) {x : Ask} (hx : AskOk s.Conf x) (hc : s.Conts.length < 200) (hq : s.Seq < 1048575) (first : Bool) :
  Gv (bE s n a x first) (AskR N s):=by
 have hsc:=h.sc
 have hak:=h.ak a ha
 unfold bE
 rw [ri hsc (h.leafLen ha) hx.size.vb,Gp]
 refine ad (P:=fun _ => True) ?_ fun q _ => ?_
 ·rw [mc,Gp,ce,Gp]
  repeat' (first | exact ⟨_,rfl,trivial⟩ | refine ae (fun _ => ?_) (fun _ => ?_))
 refine ae (fun _ => aa (rI h (.refl s))) fun _ => ?_
 rw [oW,Gp]
 refine ae (fun _ => ?_) fun _ => ?_
 ·refine ad (P:=fun t => Inv N t ∧ Keep s t) ?_ fun t ht => aa (rI ht.1 ht.2)
  refine ae (fun _ => ?_) fun _ => aa ⟨h,.refl s⟩
  rw [zJ (by have:=hak.al; omega),Gp]
  refine ad (P:=fun t => t = pPutA s (ib a x.Prio)) (jw (my h.z _) rfl) ?_
  rintro t rfl
  exact aa (h.miss ha x.Prio)
 ·rw [ol hsc (h.leafLen ha) n.Label hx.size.vb,Gp]
  refine ae (fun _ => aa (rI h (.refl s))) fun _ => ?_
  rw [oy h.sb,Gp,ce,Gp]
  refine ae (fun hf => ?_) fun _ => ?_
  ·rw [oG h.z h.sq n (by have:=hak.al; omega) (fun y hy => by have:=(hak.ask y hy).count; omega) (by have:=hak.gr; omega) x,Gp]
   exact aa (wZ (by simp) (h.grant hn hup ha hl hx hf hc hq) rfl rfl)
  ·refine ad (P:=fun _ => True) ?_ fun q1 _ => ?_
   ·rw [xb h.z,Gp]
    repeat' (first | exact ⟨_,rfl,trivial⟩ | refine ae (fun _ => ?_) (fun _ => ?_))
   ·refine ae (fun _ => ?_) fun _ => aa (rI h (.refl s))
    rw [z3 h.z,Gp]
    exact aa (wZ (by simp) ((h.hold hfree ⟨n,hn,rfl,hup⟩).mono (by omega)) rfl rfl)
structure RI (N : Nat) (n : Node) (s t : State) : Prop where
 i : Inv N t
 k : Keep s t
def RQ (N : Nat) (n : Node) (s : State) (r : (State × Int × Cont) ⊕ (State × State × Cont)) : Prop :=
 match r with
 | .inl q => q.2.1 ≠ 0 ∧ Inv (N + 1) q.1 ∧ q.1.Conf = s.Conf ∧ q.1.Nodes = s.Nodes
 | .inr p => RI N n s p.1
theorem BZ {N : Nat} (hN : N ≤ 1000000) {s : State} {n : Node} (hn : n ∈ s.Nodes) (hup : n.Up = true) (hfree : ∀ y ∈ s.Slots,y.Node ≠ n.Id) (hc : s.Conts.length < 200) (hq : s.Seq < 1048575) (first : Bool) {ids : List Int} {k : Nat} (hk : k < ids.length)
  {a0 : App} (ha0 : a0 ∈ s.Apps) (hid : a0.Id = ids[k]) (hl : pLive a0 = true) {x2 : App × Bool} (hx2 : x2.1.Asks.length ≤ 1000 ∧ ∀ x ∈ x2.1.Asks,AskOk s.Conf x) {t1 : State × State × Cont} (ht : RI N n s t1.1) :
  Gv (loop (aA n first ids (t1.1,t1.2.1,t1.2.2,(k : Int)) x2) (t1.1,t1.2.1,t1.2.2,0)) (RQ N n s):=by
 refine av (fun (p : State × State × Cont) i => (p.1,p.2.1,p.2.2,i)) x2.1.Asks.length (fun _ p => RI N n s p.1) (step:=aA n first ids (t1.1,t1.2.1,t1.2.2,(k : Int)) x2) (by omega) ?_ ?_ (s:=t1) ht
 ·intro j hj p hp
  obtain ⟨b,hb,e1,e2,e3,e4⟩:=hp.k.ap a0 ha0
  unfold aA
  dsimp only
  rw [ah hj,cond_true,ay hk,Gp,Gq hk,Gp,aT hp.i.z,← hid,← e1,hp.i.appAt hb,Gp,ai hj,Gp]
  have hlb : pLive b = true:=by unfold pLive at hl ⊢; rw [e2]; exact hl
  have hask : AskOk p.1.Conf x2.1.Asks[j]:=by rw [hp.k.cf]; exact hx2.2 _ (List.getElem_mem hj)
  refine ad (wB hp.i hN (by rw [hp.k.nd]; exact hn) hup (by rw [hp.k.sl]; exact hfree) hb hlb hask (by rw [hp.k.cs]; exact hc) (by rw [hp.k.sq]; exact hq) first) ?_
  rintro ⟨u,kd,c⟩ ⟨r0,r1⟩
  dsimp only at r0 r1 ⊢
  refine ae (fun hz => ?_) fun hz => ?_
  ·have hz : kd ≠ 0:=by simpa using hz
   obtain ⟨q1,q2,q3⟩:=r1 hz
   exact aa (.inr ⟨_,rfl,hz,q1,q2.trans hp.k.cf,q3.trans hp.k.nd⟩)
  ·have hz : kd = 0:=by simpa using hz
   obtain ⟨q1,q2⟩:=r0 hz
   exact aa (.inl ⟨(u,p.2.1,p.2.2),rfl,⟨q1,hp.k.trans q2⟩⟩)
 ·intro p hp
  unfold aA
  dsimp only
  rw [ao,cond_false]
  exact aa ⟨_,rfl,hp⟩
theorem Ci {N : Nat} (hN : N ≤ 1000000) {s : State} {n : Node} (hn : n ∈ s.Nodes) (hup : n.Up = true) (hfree : ∀ y ∈ s.Slots,y.Node ≠ n.Id) (hc : s.Conts.length < 200) (hq : s.Seq < 1048575) (first : Bool) {leaves : List Str} {k : Nat} (hk : k < leaves.length) (hll : leaves[k].length ≤ 1000000)
  {ids : List Int} (hil : ids.length ≤ 100000) (hids : ∀ i ∈ ids,∃ a ∈ s.Apps,a.Id = i ∧ pLive a = true ∧ a.Queue = leaves[k]) {t : State × State × Cont} (ht : RI N n s t.1) :
  Gv (loop (aB n first leaves (t.1,t.2.1,t.2.2,(k : Int)) ids) (t.1,t.2.1,t.2.2,0)) (RQ N n s):=by
 refine av (fun (p : State × State × Cont) i => (p.1,p.2.1,p.2.2,i)) ids.length (fun _ p => RI N n s p.1) (step:=aB n first leaves (t.1,t.2.1,t.2.2,(k : Int)) ids) (by omega) ?_ ?_ (s:=t) ht
 ·intro j hj p hp
  obtain ⟨a0,ha0,hid,hl,hqu⟩:=hids _ (List.getElem_mem hj)
  obtain ⟨b,hb,e1,e2,e3,e4⟩:=hp.k.ap a0 ha0
  have hbk:=hp.i.ak b hb
  unfold aB
  dsimp only
  rw [ah hj,cond_true]
  refine ad (P:=fun r => match r with | .inl p => RI N n s p.1 | .inr q => q.2.1 ≠ 0 ∧ Inv (N + 1) q.1 ∧ q.1.Conf = s.Conf ∧ q.1.Nodes = s.Nodes) ?_ ?_
  ·rw [ay hj,Gp,Gq hj,Gp,aT hp.i.z,← hid,← e1,hp.i.appAt hb,Gp,ay hk,Gp,Gq hk,Gp,
    m8 hp.i.sc hll,Gp]
   refine ae (fun _ => aa hp) fun _ => ?_
   refine ad (BZ hN hn hup hfree hc hq first hj ha0 hid hl ⟨by have:=hbk.al; show b.Asks.length ≤ 1000; omega,fun x hx => by rw [← hp.k.cf]; exact hbk.ask x hx⟩ hp) ?_
   rintro (q | q) hr
   ·exact aa hr
   ·exact aa hr
  ·rintro (q | q) hr
   ·exact aa (.inl ⟨q,rfl,hr⟩)
   ·exact aa (.inr ⟨_,rfl,hr⟩)
 ·intro p hp
  unfold aB
  dsimp only
  rw [ao,cond_false]
  exact aa ⟨_,rfl,hp⟩
theorem qy {N : Nat} (hN : N ≤ 1000000) {s : State} (h : Inv N s) {n : Node} (hn : n ∈ s.Nodes) (hup : n.Up = true) (hfree : ∀ y ∈ s.Slots,y.Node ≠ n.Id) (hc : s.Conts.length < 200) (hq : s.Seq < 1048575) (first : Bool) :
  Gv (aH s n first) (AskR N s):=by
 unfold aH
 rw [pA h.sc,Gp]
 have hll:=qD h.sc n.Label
 refine ad (P:=RQ N n s) ?_ ?_
 ·refine av (fun (p : State × State × Cont) i => (p.1,p.2.1,p.2.2,i)) (bB s n.Label).length (fun _ p => RI N n s p.1) (step:=aI n first (bB s n.Label)) (by omega) ?_ ?_
   (s:=(s,(⟨⟨[],[]⟩,[],[],[],[],[],0,0,0⟩ : State),(⟨0,0,0,⟨0,0⟩,0,0,false,0⟩ : Cont))) ⟨h,.refl s⟩
  ·intro j hj p hp
   unfold aI
   dsimp only
   rw [ah hj,cond_true,ay hj,Gp,Gq hj,Gp,sf hp.i.z,Gp]
   have hlen : ((bB s n.Label)[j]).length ≤ 1000000:=by
    have:=(pg h.cf (sO h.sc n.Label (List.getElem_mem hj))).len
    omega
   have hn' : n ∈ p.1.Nodes:=by rw [hp.k.nd]; exact hn
   refine ad (Ci hN (s:=p.1) hn' hup (by rw [hp.k.sl]; exact hfree) (by rw [hp.k.cs]; exact hc) (by rw [hp.k.sq]; exact hq) first hj hlen (by have:=sX (s:=p.1) (bB s n.Label)[j]; have:=hp.i.al; omega) (fun i hi => sZ hi) (t:=p) ⟨hp.i,.refl _⟩) ?_
   rintro (q | q) hr
   ·exact aa (.inr ⟨_,rfl,hr.1,hr.2.1,hr.2.2.1.trans hp.k.cf,hr.2.2.2.trans hp.k.nd⟩)
   ·exact aa (.inl ⟨q,rfl,⟨hr.i,hp.k.trans hr.k⟩⟩)
  ·intro p hp
   unfold aI
   dsimp only
   rw [ao,cond_false]
   exact aa ⟨_,rfl,hp⟩
 ·rintro (q | q) hr
  ·exact aa (wZ hr.1 hr.2.1 hr.2.2.1 hr.2.2.2)
  ·exact aa (rI hr.i hr.k)
end Go.Fx.D
