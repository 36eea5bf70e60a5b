/-
  The reference manager: what holds of its state after every script. Conditions: none.
-/
import Derived.Test.YtmpaebhomokjmaaGreatS10
namespace Go.Fx.D
open Go Go.Fx
set_option linter.unusedVariables false
set_option linter.unusedSimpArgs false
theorem uQ {s : State} {i : Int} {a : App} (h : appAt s i = some a) : a ∈ s.Apps ∧ a.Id = i:=nV h
theorem Inv.appAt {N : Nat} {s : State} (h : Inv N s) {a : App} (ha : a ∈ s.Apps) : appAt s a.Id = some a:=vu h.asr ha
theorem Inv.uniqA {N : Nat} {s : State} (h : Inv N s) {a b : App} (ha : a ∈ s.Apps) (hb : b ∈ s.Apps) (e : a.Id = b.Id) : a = b:=by
 have h1:=h.appAt ha
 rw [e,h.appAt hb] at h1
 cases h1
 rfl
theorem Inv.noc {N : Nat} {s : State} (h : Inv N s) {a : App} (ha : a ∈ s.Apps) : a.State = 2 ∨ ∀ c ∈ s.Conts,c.App ≠ a.Id:=by
 by_cases h2 : a.State = 2
 ·exact .inl h2
 ·refine .inr fun c hc e => ?_
  obtain ⟨b,hb,e1,e2⟩:=(h.ck c hc).app
  have:=h.uniqA ha hb (by omega)
  subst this
  exact h2 e2
theorem C4 {a : App} (h : pLive a = true) : a.State = 1 ∨ a.State = 2:=by
 unfold pLive at h
 simpa using h
theorem He (a : Ask) (n : Node) : Gv (bY a n) fun _ => True:=by
 unfold bY
 repeat' (first | exact ⟨_,rfl,trivial⟩ | refine ae (fun _ => ?_) (fun _ => ?_) | refine ad (P:=fun _ => True) ?_ (fun _ _ => ?_))
def IX (a : Ask) (n : Node) : Int:=(bY a n).getD 0
theorem Aw (a : Ask) (n : Node) : bY a n = some (IX a n):=yf (He a n) 0
theorem Js (a : Ask) (n : Node) : Gv (cz a n) fun _ => True:=by
 unfold cz
 rw [Aw,Jw]
 repeat' (first | exact ⟨_,rfl,trivial⟩ | refine ae (fun _ => ?_) (fun _ => ?_))
def pMay (a : Ask) (n : Node) : Bool:=(cz a n).getD false
theorem EW (a : Ask) (n : Node) : cz a n = some (pMay a n):=yf (Js a n) false
structure Keep (s t : State) : Prop where
 cf : t.Conf = s.Conf
 nd : t.Nodes = s.Nodes
 sl : t.Slots = s.Slots
 cs : t.Conts = s.Conts
 pl : t.Plans = s.Plans
 now : t.Now = s.Now
 ep : t.Epoch = s.Epoch
 sq : t.Seq = s.Seq
 ap : ∀ a ∈ s.Apps,∃ b ∈ t.Apps,b.Id = a.Id ∧ b.State = a.State ∧ b.Queue = a.Queue ∧ b.User = a.User
theorem Keep.refl (s : State) : Keep s s:=⟨rfl,rfl,rfl,rfl,rfl,rfl,rfl,rfl,fun a ha => ⟨a,ha,rfl,rfl,rfl,rfl⟩⟩
theorem Keep.trans {s t u : State} (h : Keep s t) (k : Keep t u) : Keep s u:=by
 refine ⟨k.cf.trans h.cf,k.nd.trans h.nd,k.sl.trans h.sl,k.cs.trans h.cs,k.pl.trans h.pl,k.now.trans h.now,k.ep.trans h.ep,k.sq.trans h.sq,fun a ha => ?_⟩
 obtain ⟨b,hb,e1,e2,e3,e4⟩:=h.ap a ha
 obtain ⟨c,hc,f1,f2,f3,f4⟩:=k.ap b hb
 exact ⟨c,hc,f1.trans e1,f2.trans e2,f3.trans e3,f4.trans e4⟩
def uY (a : App) (prio : Int) : App:=⟨a.Id,a.State,a.Queue,a.User,a.Prio,a.Master,pMiss a.Asks prio,a.Seen,a.Beat,a.Grants,a.Kills,a.Told,a.Lost⟩
theorem Ig {N : Nat} {c : Conf} {a : App} (h : AppOk N c a) (prio : Int) : AppOk N c (uY a prio):=by
 refine ⟨h.st,h.user,h.path,h.leaf,h.mas,by show (a.Asks.map _).length ≤ 8; rw [List.length_map]; exact h.al,?_,h.gr,h.ki,h.to,h.lo⟩
 intro x hx
 obtain ⟨y,hy,rfl⟩:=List.mem_map.1 hx
 have:=h.ask y hy
 unfold missK
 split
 ·exact ⟨this.label,this.size,this.count⟩
 ·exact this
theorem Inv.miss {N : Nat} {s : State} (h : Inv N s) {a : App} (ha : a ∈ s.Apps) (prio : Int) : Inv N (pPutA s (uY a prio)) ∧ Keep s (pPutA s (uY a prio)):=by
 refine ⟨h.putA ⟨a,ha,rfl⟩ (Ig (h.ak a ha) prio) (h.noc (a:=a) ha : a.State = 2 ∨ ∀ c ∈ s.Conts,c.App ≠ a.Id),⟨rfl,rfl,rfl,rfl,rfl,rfl,rfl,rfl,fun b hb => ?_⟩⟩
 by_cases he : b.Id = a.Id
 ·have:=h.uniqA hb ha he
  subst this
  exact ⟨uY b prio,(cw h.asr).2 (.inl rfl),rfl,rfl,rfl,rfl⟩
 ·exact ⟨b,(cw h.asr).2 (.inr ⟨hb,he⟩),rfl,rfl,rfl,rfl⟩
theorem IJ {c : Conf} {l : List Ask} (h : ∀ x ∈ l,AskOk c x) (prio : Int) : (pTake l prio).length ≤ l.length ∧ ∀ x ∈ pTake l prio,AskOk c x:=by
 refine ⟨List.length_filterMap_le _ _,fun x hx => ?_⟩
 obtain ⟨y,hy,e⟩:=List.mem_filterMap.1 hx
 have:=h y hy
 unfold takeK at e
 split at e
 ·split at e
  ·cases e
  ·cases e
   exact ⟨this.label,this.size,by have:=this.count; dsimp only; omega⟩
 ·cases e
  exact this
theorem GI {α : Type} (id : α → Int) (l : List α) (a : α) : (insG id l a).length = l.length + 1:=by
 unfold insG
 have:=congrArg List.length (List.takeWhile_append_dropWhile (p:=fun x => decide (id x < id a)) (l:=l))
 rw [Jz] at this ⊢
 rw [List.length_cons]
 omega
theorem Inv.grant {N : Nat} {s : State} (h : Inv N s) {n : Node} (hn : n ∈ s.Nodes) {a : App} (ha : a ∈ s.Apps) (hl : pLive a = true) {x : Ask} (hx : AskOk s.Conf x) (hc : s.Conts.length < 200) (hq : s.Seq < 1048575) : Inv (N + 1) (AL s n a x):=by
 have hid:=Ji h.ep h.sq
 have hlt : ∀ c ∈ s.Conts,c.Id < (gCont s n a x).Id:=by
  intro c hc
  have:=(h.ck c hc).id
  show c.Id < cid s
  omega
 have e : insG (·.Id) s.Conts (gCont s n a x) = putG (·.Id) s.Conts (gCont s n a x):=AW fun c hc => by have:=hlt c hc; omega
 have hak:=h.ak a ha
 have hlv:=C4 hl
 have hap : AppOk (N + 1) s.Conf (gApp s a x):=by
  unfold gApp
  split
  ·exact ⟨by dsimp only; omega,hak.user,hak.path,fun _ => hak.leaf hlv,hak.mas,by simp,by simp,Nat.le_succ_of_le hak.gr,Nat.le_succ_of_le hak.ki,Nat.le_succ_of_le hak.to,Nat.le_succ_of_le hak.lo⟩
  ·have ht:=IJ hak.ask x.Prio
   exact ⟨hak.st,hak.user,hak.path,hak.leaf,hak.mas,Nat.le_trans ht.1 hak.al,ht.2,by have:=hak.gr; simp; omega,Nat.le_succ_of_le hak.ki,Nat.le_succ_of_le hak.to,Nat.le_succ_of_le hak.lo⟩
 have hgid : (gApp s a x).Id = a.Id:=by unfold gApp; split <;> rfl
 have hgst : (gApp s a x).State = 2:=by
  unfold gApp
  split
  ·rfl
  ·dsimp only; omega
 have hin : gApp s a x ∈ (AL s n a x).Apps:=(cw h.asr).2 (.inl rfl)
 refine ⟨h.cf,h.nl,h.ns,h.nk,?_,lW h.asr,?_,?_,?_,?_,h.ss,h.sk,h.pl,h.ps,h.pk,h.now,h.ep,?_⟩
 ·show (putG (·.Id) s.Apps (gApp s a x)).length ≤ 16
  rw [nX.2 ⟨a,ha,hgid.symm⟩ h.asr]; exact h.al
 ·intro b hb
  rcases (cw h.asr).1 hb with rfl | ⟨hb,_⟩
  ·exact hap
  ·exact (h.ak b hb).mono (by omega)
 ·show (insG (·.Id) s.Conts (gCont s n a x)).length ≤ 200
  rw [GI]; omega
 ·show (insG (·.Id) s.Conts (gCont s n a x)).Pairwise _
  rw [e]; exact lW h.cs
 ·intro c hc
  have hc : c ∈ insG (·.Id) s.Conts (gCont s n a x):=hc
  rw [e] at hc
  rcases (cw h.cs).1 hc with rfl | ⟨hc,_⟩
  ·have hnk:=h.nk n hn
   refine ⟨hx.size,⟨_,hin,hgid,hgst⟩,hnk.2,?_⟩
   show 0 ≤ cid s ∧ cid s ≤ s.Epoch * 1048576 + (s.Seq + 1)
   have:=h.ep
   have:=h.sq
   omega
  ·have:=h.ck c hc
   refine ⟨this.size,?_,this.label,?_⟩
   ·obtain ⟨b,hb,e1,e2⟩:=this.app
    by_cases he : b.Id = (gApp s a x).Id
    ·exact ⟨_,hin,by omega,hgst⟩
    ·exact ⟨b,(cw h.asr).2 (.inr ⟨hb,he⟩),e1,e2⟩
   ·have:=this.id
    show 0 ≤ c.Id ∧ c.Id ≤ s.Epoch * 1048576 + (s.Seq + 1)
    omega
 ·have:=h.sq
  show 0 ≤ s.Seq + 1 ∧ s.Seq + 1 ≤ 1048575
  omega
def AskR (N : Nat) (s : State) (r : State × Int × Cont) : Prop:=(r.2.1 = 0 → Inv N r.1 ∧ Keep s r.1) ∧ (r.2.1 ≠ 0 → Inv (N + 1) r.1 ∧ r.1.Conf = s.Conf ∧ r.1.Nodes = s.Nodes)
theorem vp {N : Nat} {s t : State} {c : Cont} (h : Inv N t) (k : Keep s t) : AskR N s (t,0,c):=⟨fun _ => ⟨h,k⟩,fun h => absurd rfl h⟩
theorem Bf {N : Nat} {s t : State} {c : Cont} {k : Int} (hk : k ≠ 0) (h : Inv (N + 1) t) (h1 : t.Conf = s.Conf) (h2 : t.Nodes = s.Nodes) : AskR N s (t,k,c):=⟨fun h => absurd h hk,fun _ => ⟨h,h1,h2⟩⟩
theorem Inv.leafLen {N : Nat} {s : State} (h : Inv N s) {a : App} (ha : a ∈ s.Apps) : a.Queue.length ≤ 1000000:=by have:=(h.ak a ha).path.len; omega
theorem I_ {N : Nat} {s : State} (h : Inv N s) (hN : N ≤ 1000000) {n : Node} (hn : n ∈ s.Nodes) (hfree : ∀ y ∈ s.Slots,y.Node ≠ n.Id) {a : App} (ha : a ∈ s.Apps) (hl : pLive a = true) {x : Ask} (hx : AskOk s.Conf x) (hc : s.Conts.length < 200) (hq : s.Seq < 1048575) (first : Bool) :
  Gv (kn s n a x first) (AskR N s):=by
 have hsc:=h.sc
 have hak:=h.ak a ha
 unfold kn
 rw [EO hsc (h.leafLen ha) hx.size.vb,Jw]
 refine ad (P:=fun _ => True) ?_ fun q _ => ?_
 ·rw [Aw,Jw,lV,Jw]
  repeat' (first | exact ⟨_,rfl,trivial⟩ | refine ae (fun _ => ?_) (fun _ => ?_))
 refine ae (fun _ => aa (vp h (.refl s))) fun _ => ?_
 rw [EW,Jw]
 refine ae (fun _ => ?_) fun _ => ?_
 ·refine ad (P:=fun t => Inv N t ∧ Keep s t) ?_ fun t ht => aa (vp ht.1 ht.2)
  refine ae (fun _ => ?_) fun _ => aa ⟨h,.refl s⟩
  rw [Hy (by have:=hak.al; omega),Jw]
  refine ad (P:=fun t => t = pPutA s (uY a x.Prio)) (bz (qS h.z _) rfl) ?_
  rintro t rfl
  exact aa (h.miss ha x.Prio)
 ·rw [B3 hsc (h.leafLen ha) n.Label hx.size.vb,Jw]
  refine ae (fun _ => aa (vp h (.refl s))) fun _ => ?_
  rw [Cx h.sb,Jw,lV,Jw]
  refine ae (fun _ => ?_) fun _ => ?_
  ·rw [An h.z h.sq n (by have:=hak.al; omega) (fun y hy => by have:=(hak.ask y hy).count; omega) (by have:=hak.gr; omega) x,Jw]
   exact aa (Bf (by simp) (h.grant hn ha hl hx hc hq) rfl rfl)
  ·refine ad (P:=fun _ => True) ?_ fun q1 _ => ?_
   ·rw [FA h.z,Jw]
    repeat' (first | exact ⟨_,rfl,trivial⟩ | refine ae (fun _ => ?_) (fun _ => ?_))
   ·refine ae (fun _ => ?_) fun _ => aa (vp h (.refl s))
    rw [H8 h.z,Jw]
    exact aa (Bf (by simp) ((h.hold hfree ⟨n,hn,rfl⟩).mono (by omega)) rfl rfl)
structure RI (N : Nat) (n : Node) (s t : State) : Prop where
 i : Inv N t
 k : Keep s t
def RQ (N : Nat) (n : Node) (s : State) (r : (State × Int × Cont) ⊕ (State × State × Cont)) : Prop :=
 match r with
 | .inl q => q.2.1 ≠ 0 ∧ Inv (N + 1) q.1 ∧ q.1.Conf = s.Conf ∧ q.1.Nodes = s.Nodes
 | .inr p => RI N n s p.1
theorem EB {N : Nat} (hN : N ≤ 1000000) {s : State} {n : Node} (hn : n ∈ s.Nodes) (hfree : ∀ y ∈ s.Slots,y.Node ≠ n.Id) (hc : s.Conts.length < 200) (hq : s.Seq < 1048575) (first : Bool) {ids : List Int} {k : Nat} (hk : k < ids.length)
  {a0 : App} (ha0 : a0 ∈ s.Apps) (hid : a0.Id = ids[k]) (hl : pLive a0 = true) {x2 : App × Bool} (hx2 : x2.1.Asks.length ≤ 1000 ∧ ∀ x ∈ x2.1.Asks,AskOk s.Conf x) {t1 : State × State × Cont} (ht : RI N n s t1.1) :
  Gv (loop (cO n first ids (t1.1,t1.2.1,t1.2.2,(k : Int)) x2) (t1.1,t1.2.1,t1.2.2,0)) (RQ N n s):=by
 refine aG (fun (p : State × State × Cont) i => (p.1,p.2.1,p.2.2,i)) x2.1.Asks.length (fun _ p => RI N n s p.1) (step:=cO n first ids (t1.1,t1.2.1,t1.2.2,(k : Int)) x2) (by omega) ?_ ?_ (s:=t1) ht
 ·intro j hj p hp
  obtain ⟨b,hb,e1,e2,e3,e4⟩:=hp.k.ap a0 ha0
  unfold cO
  dsimp only
  rw [aj hj,cond_true,aM hk,Jw,Jx hk,Jw,dV hp.i.z,← hid,← e1,hp.i.appAt hb,Jw,ai hj,Jw]
  have hlb : pLive b = true:=by unfold pLive at hl ⊢; rw [e2]; exact hl
  have hask : AskOk p.1.Conf x2.1.Asks[j]:=by rw [hp.k.cf]; exact hx2.2 _ (List.getElem_mem hj)
  refine ad (I_ hp.i hN (by rw [hp.k.nd]; exact hn) (by rw [hp.k.sl]; exact hfree) hb hlb hask (by rw [hp.k.cs]; exact hc) (by rw [hp.k.sq]; exact hq) first) ?_
  rintro ⟨u,kd,c⟩ ⟨r0,r1⟩
  dsimp only at r0 r1 ⊢
  refine ae (fun hz => ?_) fun hz => ?_
  ·have hz : kd ≠ 0:=by simpa using hz
   obtain ⟨q1,q2,q3⟩:=r1 hz
   exact aa (.inr ⟨_,rfl,hz,q1,q2.trans hp.k.cf,q3.trans hp.k.nd⟩)
  ·have hz : kd = 0:=by simpa using hz
   obtain ⟨q1,q2⟩:=r0 hz
   exact aa (.inl ⟨(u,p.2.1,p.2.2),rfl,⟨q1,hp.k.trans q2⟩⟩)
 ·intro p hp
  unfold cO
  dsimp only
  rw [ar,cond_false]
  exact aa ⟨_,rfl,hp⟩
theorem D3 {N : Nat} (hN : N ≤ 1000000) {s : State} {n : Node} (hn : n ∈ s.Nodes) (hfree : ∀ y ∈ s.Slots,y.Node ≠ n.Id) (hc : s.Conts.length < 200) (hq : s.Seq < 1048575) (first : Bool) {leaves : List Str} {k : Nat} (hk : k < leaves.length) (hll : leaves[k].length ≤ 1000000)
  {ids : List Int} (hil : ids.length ≤ 100000) (hids : ∀ i ∈ ids,∃ a ∈ s.Apps,a.Id = i ∧ pLive a = true ∧ a.Queue = leaves[k]) {t : State × State × Cont} (ht : RI N n s t.1) :
  Gv (loop (cP n first leaves (t.1,t.2.1,t.2.2,(k : Int)) ids) (t.1,t.2.1,t.2.2,0)) (RQ N n s):=by
 refine aG (fun (p : State × State × Cont) i => (p.1,p.2.1,p.2.2,i)) ids.length (fun _ p => RI N n s p.1) (step:=cP n first leaves (t.1,t.2.1,t.2.2,(k : Int)) ids) (by omega) ?_ ?_ (s:=t) ht
 ·intro j hj p hp
  obtain ⟨a0,ha0,hid,hl,hqu⟩:=hids _ (List.getElem_mem hj)
  obtain ⟨b,hb,e1,e2,e3,e4⟩:=hp.k.ap a0 ha0
  have hbk:=hp.i.ak b hb
  unfold cP
  dsimp only
  rw [aj hj,cond_true]
  refine ad (P:=fun r => match r with | .inl p => RI N n s p.1 | .inr q => q.2.1 ≠ 0 ∧ Inv (N + 1) q.1 ∧ q.1.Conf = s.Conf ∧ q.1.Nodes = s.Nodes) ?_ ?_
  ·rw [aM hj,Jw,Jx hj,Jw,dV hp.i.z,← hid,← e1,hp.i.appAt hb,Jw,aM hk,Jw,Jx hk,Jw,
    Cj hp.i.sc hll,Jw]
   refine ae (fun _ => aa hp) fun _ => ?_
   refine ad (EB hN hn hfree hc hq first hj ha0 hid hl ⟨by have:=hbk.al; show b.Asks.length ≤ 1000; omega,fun x hx => by rw [← hp.k.cf]; exact hbk.ask x hx⟩ hp) ?_
   rintro (q | q) hr
   ·exact aa hr
   ·exact aa hr
  ·rintro (q | q) hr
   ·exact aa (.inl ⟨q,rfl,hr⟩)
   ·exact aa (.inr ⟨_,rfl,hr⟩)
 ·intro p hp
  unfold cP
  dsimp only
  rw [ar,cond_false]
  exact aa ⟨_,rfl,hp⟩
theorem zI {N : Nat} (hN : N ≤ 1000000) {s : State} (h : Inv N s) {n : Node} (hn : n ∈ s.Nodes) (hfree : ∀ y ∈ s.Slots,y.Node ≠ n.Id) (hc : s.Conts.length < 200) (hq : s.Seq < 1048575) (first : Bool) :
  Gv (eB s n first) (AskR N s):=by
 unfold eB
 rw [E2 h.sc,Jw]
 have hll:=Dn h.sc n.Label
 refine ad (P:=RQ N n s) ?_ ?_
 ·refine aG (fun (p : State × State × Cont) i => (p.1,p.2.1,p.2.2,i)) (pA s n.Label).length (fun _ p => RI N n s p.1) (step:=fd n first (pA s n.Label)) (by omega) ?_ ?_
   (s:=(s,(⟨⟨[],[]⟩,[],[],[],[],[],0,0,0⟩ : State),(⟨0,0,0,⟨0,0⟩,0,0,false,0⟩ : Cont))) ⟨h,.refl s⟩
  ·intro j hj p hp
   unfold fd
   dsimp only
   rw [aj hj,cond_true,aM hj,Jw,Jx hj,Jw,HW hp.i.z,Jw]
   have hlen : ((pA s n.Label)[j]).length ≤ 1000000:=by
    have:=(r_ h.cf (BI h.sc n.Label (List.getElem_mem hj))).len
    omega
   have hn' : n ∈ p.1.Nodes:=by rw [hp.k.nd]; exact hn
   refine ad (D3 hN (s:=p.1) hn' (by rw [hp.k.sl]; exact hfree) (by rw [hp.k.cs]; exact hc) (by rw [hp.k.sq]; exact hq) first hj hlen (by have:=G6 (s:=p.1) (pA s n.Label)[j]; have:=hp.i.al; omega) (fun i hi => GF hi) (t:=p) ⟨hp.i,.refl _⟩) ?_
   rintro (q | q) hr
   ·exact aa (.inr ⟨_,rfl,hr.1,hr.2.1,hr.2.2.1.trans hp.k.cf,hr.2.2.2.trans hp.k.nd⟩)
   ·exact aa (.inl ⟨q,rfl,⟨hr.i,hp.k.trans hr.k⟩⟩)
  ·intro p hp
   unfold fd
   dsimp only
   rw [ar,cond_false]
   exact aa ⟨_,rfl,hp⟩
 ·rintro (q | q) hr
  ·exact aa (Bf hr.1 hr.2.1 hr.2.2.1 hr.2.2.2)
  ·exact aa (vp hr.i hr.k)
end Go.Fx.D
