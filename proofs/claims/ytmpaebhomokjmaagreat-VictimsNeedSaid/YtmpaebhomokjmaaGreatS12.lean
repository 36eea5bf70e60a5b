/-
  The reference manager: what holds of its state after every script. Conditions: none.
-/
import Derived.Test.YtmpaebhomokjmaaGreatS11
namespace Go.Fx.D
open Go Go.Fx
set_option linter.unusedVariables false
set_option linter.unusedSimpArgs false
def lI (a : App) : Ask:=⟨0,0,⟨a.Master.Mem,a.Master.Cores⟩,1,-1,-1,0⟩
theorem y_ {c : Conf} (hc : ConfOk c) {a : App} (h : SzOk a.Master) : AskOk c (lI a):=⟨by have:=hc.lab; show 0 ≤ (0 : Int) ∧ (0 : Int) < c.Labels.length; omega,h,by show 1 ≤ (1 : Int) ∧ (1 : Int) ≤ 50; omega⟩
theorem Inv.reset {N : Nat} {s : State} (h : Inv N s) {a b : App} (ha : a ∈ s.Apps) (hid : b.Id = a.Id) (hb : AppOk N s.Conf b) : Inv N (pShed (pPutA s b) a.Id):=by
 have h1:=h.shed a.Id
 have h2 : Inv N (pPutA (pShed s a.Id) b):=h1.putA ⟨a,ha,hid.symm⟩ hb (.inr fun c hc e => by
  have:=(List.mem_filter.1 hc).2
  rw [hid] at e
  simp [e] at this)
 exact h2
theorem Dx {s : State} {i : Int} {c : Cont} (h : sL s i = some c) : c ∈ s.Conts ∧ c.Id = i:=nV h
theorem Gj {N : Nat} (hN : N ≤ 1000000) {s : State} (h : Inv N s) (i : Int) : Gv ((a7 s i).bind fun x1 =>
   bif ! x1.2 then
    some s
   else
    (aO s x1.1.App).bind fun x2 =>
    bif x1.1.Master then
     (jf x2.1).bind fun x3 =>
     (aS s (⟨x2.1.Id,1,x2.1.Queue,x2.1.User,x2.1.Prio,⟨x2.1.Master.Mem,x2.1.Master.Cores⟩,x3,s.Now,0,[],[],[],[]⟩ : App)).bind fun x4 =>
     (dm x4 x1.1.App).bind fun x5 =>
     some x5.1
    else
     (dh s x1.1.Id).bind fun x6 =>
     (b9 x2.1.Grants x1.1.Id).bind fun x7 =>
     (
      bif ! x7.2 then
       (app 8 [] x2.1.Kills).bind fun l =>
       (app 8 l [x1.1.Id]).bind fun l1 =>
       some (⟨x2.1.Id,x2.1.State,x2.1.Queue,x2.1.User,x2.1.Prio,⟨x2.1.Master.Mem,x2.1.Master.Cores⟩,x2.1.Asks,x2.1.Seen,x2.1.Beat,x7.1,l1,x2.1.Told,x2.1.Lost⟩ : App)
      else
       some (⟨x2.1.Id,x2.1.State,x2.1.Queue,x2.1.User,x2.1.Prio,⟨x2.1.Master.Mem,x2.1.Master.Cores⟩,x2.1.Asks,x2.1.Seen,x2.1.Beat,x7.1,x2.1.Kills,x2.1.Told,x2.1.Lost⟩ : App)).bind fun a =>
     (aS x6 a).bind fun x8 =>
     some x8) (Inv (N + 1)):=by
 rw [kh h.z,Jw]
 cases hc : sL s i with
 | none => exact aa (h.mono (by omega))
 | some c =>
  obtain ⟨hcm,_⟩:=Dx hc
  obtain ⟨a,ha,e1,e2⟩:=(h.ck c hcm).app
  have hak:=h.ak a ha
  simp only [Option.elim,Bool.not_true,cond_false]
  rw [dV h.z,← e1,h.appAt ha,Jw]
  simp only [Option.elim]
  refine ae (fun _ => ?_) fun _ => ?_
  ·show Gv ((some [lI a]).bind _) _
   rw [Jw]
   refine ad (P:=fun t => t = pPutA s ⟨a.Id,1,a.Queue,a.User,a.Prio,⟨a.Master.Mem,a.Master.Cores⟩,[lI a],s.Now,0,[],[],[],[]⟩) (bz (qS h.z _) rfl) ?_
   rintro t rfl
   have hok : AppOk N s.Conf ⟨a.Id,1,a.Queue,a.User,a.Prio,⟨a.Master.Mem,a.Master.Cores⟩,[lI a],s.Now,0,[],[],[],[]⟩ :=
    ⟨by dsimp only; omega,hak.user,hak.path,fun _ => hak.leaf (.inr e2),hak.mas,by simp,fun x hx => by
     have : x = lI a:=by simpa using hx
     subst this
     exact y_ h.cf hak.mas,by simp,by simp,by simp,by simp⟩
   have hz : SSmall (pPutA s ⟨a.Id,1,a.Queue,a.User,a.Prio,⟨a.Master.Mem,a.Master.Cores⟩,[lI a],s.Now,0,[],[],[],[]⟩):=by
    refine ⟨h.z.n,?_,h.z.c,h.z.l,h.z.p⟩
    have:=(nX (id:=fun x : App => x.Id) (l:=s.Apps) (a:=⟨a.Id,1,a.Queue,a.User,a.Prio,⟨a.Master.Mem,a.Master.Cores⟩,[lI a],s.Now,0,[],[],[],[]⟩)).1
    have h2:=h.al
    show (putG _ _ _).length ≤ 100000
    omega
   rw [Cm hz,Jw]
   have hr:=h.reset (b:=⟨a.Id,1,a.Queue,a.User,a.Prio,⟨a.Master.Mem,a.Master.Cores⟩,[lI a],s.Now,0,[],[],[],[]⟩) ha rfl hok
   exact aa (hr.mono (by omega))
  ·rw [Ce h.z,Jw,xe (by have:=hak.gr; omega),Jw]
   have hA:=h.away c.Id
   have hgl : (a.Grants.filter fun x => x != c.Id).length ≤ a.Grants.length:=List.length_filter_le _ _
   refine ad (P:=fun b => b.Id = a.Id ∧ b.State = 2 ∧ AppOk (N + 1) s.Conf b) ?_ ?_
   ·refine ae (fun _ => ?_) fun _ => ?_
    ·rw [am (by have:=hak.ki; simp; omega) (by omega),Jw,am (by have:=hak.ki; simp; omega) (by omega),Jw]
     refine aa ⟨rfl,e2,hak.st,hak.user,hak.path,hak.leaf,hak.mas,hak.al,hak.ask,by have:=hak.gr; dsimp only; omega,by have:=hak.ki; simp; omega,Nat.le_succ_of_le hak.to,Nat.le_succ_of_le hak.lo⟩
    ·exact aa ⟨rfl,e2,hak.st,hak.user,hak.path,hak.leaf,hak.mas,hak.al,hak.ask,by have:=hak.gr; dsimp only; omega,Nat.le_succ_of_le hak.ki,Nat.le_succ_of_le hak.to,Nat.le_succ_of_le hak.lo⟩
   ·rintro b ⟨b1,b2,b3⟩
    rw [qS hA.z,Jw]
    exact aa ((hA.mono (Nat.le_succ N)).putA ⟨a,ha,b1.symm⟩ b3 (.inl b2))
theorem vq {N : Nat} {s : State} (h : Inv N s) {ids : List Int} (hN : N + ids.length ≤ 1000000) : Gv (ce s ids) (Inv (N + ids.length)):=by
 unfold ce
 refine ad (P:=Inv (N + ids.length)) ?_ fun t ht => aa ht
 refine aG (fun (p : State) i => (p,i)) ids.length (fun k p => Inv (N + k) p) (step:=gh ids) (by omega) ?_ ?_ (s:=s) h
 ·intro k hk t ht
  unfold gh
  rw [aj hk,cond_true]
  dsimp only
  rw [ai hk,Jw]
  refine ad (Gj (by omega) ht ids[k]) fun u hu => aa (.inl ⟨u,rfl,hu⟩)
 ·intro t ht
  unfold gh
  rw [ar]
  exact aa ⟨t,rfl,ht⟩
theorem qI {s : State} {i : Int} {n : Node} (h : oX s i = some n) : n ∈ s.Nodes ∧ n.Id = i:=nV h
theorem Fv {N : Nat} {s : State} (h : Inv N s) (i b : Int) : Gv (kq s i b) fun r => Inv N r.1:=by
 unfold kq
 rw [lU h.z,Jw]
 cases hn : oX s i with
 | none => exact aa h
 | some n =>
  obtain ⟨hm,_⟩:=qI hn
  simp only [Option.elim,Bool.not_true,cond_false]
  refine ae (fun _ => aa h) fun _ => ae (fun _ => aa h) fun _ => ae (fun _ => aa h) fun _ => ae (fun _ => aa h) fun _ => ?_
  rw [vH h.z,Jw]
  exact aa (h.putN (.inl ⟨n,hm,rfl⟩) (h.nk n hm))
theorem HT {N : Nat} {s : State} (h : Inv N s) (i : Int) : Gv (kw s i) (Inv N):=by
 unfold kw
 rw [lU h.z,Jw]
 cases hn : oX s i with
 | none => exact aa h
 | some n =>
  obtain ⟨hm,_⟩:=qI hn
  simp only [Option.elim,Bool.not_true,cond_false]
  rw [vH h.z,Jw]
  exact aa (h.putN (.inl ⟨n,hm,rfl⟩) (h.nk n hm))
theorem wc (n : Int) : gM n = some (decide (0 ≤ n) && decide (n ≤ 1073741824)):=by
 unfold gM
 by_cases h : n ≥ 0
 ·rw [decide_eq_true h]; rfl
 ·rw [decide_eq_false h]; rfl
theorem BE {N : Nat} {s : State} (h : Inv N s) (n : Node) : Gv (gF s n) fun r => Inv N r.1:=by
 unfold gF
 refine ad (P:=fun b => b = false → VB 1073741824 n.Cap ∧ 0 ≤ n.Label ∧ n.Label < s.Conf.Labels.length) ?_ ?_
 ·refine ae (fun _ => aa (by simp)) fun _ => ae (fun _ => aa (by simp)) fun _ => ae (fun _ => aa (by simp)) fun h1 => ae (fun _ => aa (by simp)) fun h2 =>
   ae (fun _ => aa (by simp)) fun _ => ae (fun _ => aa (by simp)) fun _ => ?_
  rw [wc,Jw]
  refine ae (fun _ => aa (by simp)) fun h3 => ?_
  rw [wc,Jw]
  refine aa fun h4 => ?_
  simp only [decide_eq_false_iff_not,Bool.not_eq_false',Bool.and_eq_true,decide_eq_true_eq] at h1 h2 h3 h4
  exact ⟨⟨h3,h4⟩,by omega,by omega⟩
 ·intro b hb
  refine ae (fun _ => aa h) fun hbf => ?_
  have hb:=hb hbf
  rw [lU h.z,Jw]
  cases hn : oX s n.Id with
  | none =>
   simp only [Option.elim,cond_false,Jw,Bool.not_false,cond_true]
   refine ae (fun _ => aa h) fun hlen => ?_
   rw [vH h.z,Jw]
   simp only [decide_eq_false_iff_not] at hlen
   exact aa (h.putN (.inr (by omega)) hb)
  | some m =>
   obtain ⟨hm,hid⟩:=qI hn
   simp only [Option.elim,cond_true,Jw,Bool.not_true,cond_false]
   refine ae (fun _ => aa h) fun _ => ?_
   rw [vH h.z,Jw]
   exact aa (h.putN (.inl ⟨m,hm,hid⟩) hb)
theorem pZ (p : App → Bool) : ∀ (l z : List App) (d : Bool),l.foldl (fun (t : List App × Bool) x => if (!t.2 && p x) = true then (t.1,true) else (t.1 ++ [x],t.2)) (z,d) = (z ++ (if d = true then l else l.eraseP p),d || l.any p)
 | [],z,d => by cases d <;> simp
 | x :: l,z,d => by
  rw [List.foldl_cons]
  cases d with
  | true =>
   rw [if_neg (by simp),pZ p l]
   simp
  | false =>
   cases hp : p x with
   | true =>
    rw [if_pos (by simp),pZ p l]
    simp [hp]
   | false =>
    rw [if_neg (by simp),pZ p l]
    simp [hp]
theorem EV {s : State} (h : SSmall s) : iA s = some ⟨s.Conf,s.Nodes,s.Apps.eraseP fun a => !pLive a,s.Conts,s.Slots,s.Plans,s.Now,s.Epoch,s.Seq⟩:=by
 unfold iA
 have hn:=h.a
 have e:=(fE (fun (t : List App × Bool) i => (t.1,t.2,i)) s.Apps (fun (t : List App × Bool) x => if (!t.2 && !pLive x) = true then (t.1,true) else (t.1 ++ [x],t.2)) (fun k t => t.1.length ≤ k) (fun t => t.1)
  (step:=ez s) (by omega) ?_ ?_ (s:=([],false)) (by simp)).1
 ·rw [e,pZ (fun a => !pLive a),Jw]
  simp
 ·rintro k hk ⟨l,d⟩ hl
  dsimp only at hl ⊢
  refine ⟨?_,by split <;> (try simp) <;> omega⟩
  unfold ez
  dsimp only
  rw [aj hk,cond_true,ai hk,Jw,lT,Jw]
  cases d <;> cases pLive s.Apps[k] <;>
   simp [am (b:=200) (l:=l) (m:=[s.Apps[k]]) (by simp; omega) (by omega)]
 ·rintro ⟨l,d⟩ _
  unfold ez
  dsimp only
  rw [ar]
  rfl
theorem Inv.forget {N : Nat} {s : State} (h : Inv N s) : Inv N ⟨s.Conf,s.Nodes,s.Apps.eraseP fun a => !pLive a,s.Conts,s.Slots,s.Plans,s.Now,s.Epoch,s.Seq⟩:=by
 have hs : (s.Apps.eraseP fun a => !pLive a).Sublist s.Apps:=List.eraseP_sublist
 refine ⟨h.cf,h.nl,h.ns,h.nk,Nat.le_trans hs.length_le h.al,h.asr.sublist hs,fun a ha => h.ak a (hs.subset ha),h.cl,h.cs,fun c hc => ?_,h.ss,h.sk,h.pl,h.ps,h.pk,h.now,h.ep,h.sq⟩
 have:=h.ck c hc
 refine ⟨this.size,?_,this.label,this.id⟩
 obtain ⟨a,ha,e1,e2⟩:=this.app
 refine ⟨a,?_,e1,e2⟩
 exact (List.mem_eraseP_of_neg (by unfold pLive; simp [e2])).2 ha
theorem uX (n : Int) : fq n = some (decide (1 ≤ n) && decide (n ≤ 1073741824)):=by
 unfold fq
 by_cases h : n ≥ 1
 ·rw [decide_eq_true h]; rfl
 ·rw [decide_eq_false h]; rfl
theorem BA {s : State} (h : SSmall s) : loop (cu s) (0,0) = some ((s.Apps.filter pLive).length : Int):=by
 have hn:=h.a
 have e:=(fE (fun (t : Int) i => (t,i)) s.Apps (fun t x => if pLive x = true then t + 1 else t) (fun k t => 0 ≤ t ∧ t ≤ k) (fun t => t) (step:=cu s) (by omega) ?_ ?_ (s:=0) (by simp)).1
 ·rw [e]
  have gen : ∀ (l : List App) (z : Int),l.foldl (fun t x => if pLive x = true then t + 1 else t) z = z + ((l.filter pLive).length : Int):=by
   intro l
   induction l with
   | nil => intro z; simp
   | cons x l ih =>
    intro z
    rw [List.foldl_cons,ih,List.filter_cons]
    split
    ·simp; omega
    ·rfl
  rw [gen,Int.zero_add]
 ·intro k hk t ht
  refine ⟨?_,by split <;> omega⟩
  unfold cu
  dsimp only
  rw [aj hk,cond_true,ai hk,Jw,lT,Jw]
  cases pLive s.Apps[k]
  ·rfl
  ·simp only [cond_true,Jw,if_true]
   rw [ao (x:=t + 1) (by omega) (by omega)]
 ·intro t _
  unfold cu
  rw [ar]
  rfl
theorem EF {N : Nat} {s : State} (h : Inv N s) (a : App) (hu : 0 ≤ a.User ∧ a.User ≤ 2) : Gv (iq s a) fun r => Inv N r.1:=by
 unfold iq
 refine ad (P:=fun b => b = false → SzOk a.Master) ?_ ?_
 ·refine ae (fun _ => aa (by simp)) fun _ => ae (fun _ => aa (by simp)) fun _ => ae (fun _ => aa (by simp)) fun h1 => ae (fun _ => aa (by simp)) fun h2 =>
   ae (fun _ => aa (by simp)) fun _ => ae (fun _ => aa (by simp)) fun _ => ?_
  rw [uX,Jw]
  refine ae (fun _ => aa (by simp)) fun h3 => ?_
  rw [uX,Jw]
  refine aa fun h4 => ?_
  simp only [Bool.not_eq_false',Bool.and_eq_true,decide_eq_true_eq] at h3 h4
  exact ⟨h3,h4⟩
 ·intro b hb
  refine ae (fun _ => aa h) fun hbf => ?_
  have hb:=hb hbf
  rw [dV h.z,Jw]
  cases hn : appAt s a.Id with
  | some m => exact aa h
  | none =>
   have hno:=zS hn
   simp only [Option.elim,cond_false]
   rw [BA h.z,Jw]
   refine ae (fun _ => aa h) fun hlv => ?_
   rw [xS h.cf.small,Jw]
   refine ae (fun _ => aa h) fun hleaf => ?_
   have hleaf : pLeaf s.Conf a.Queue = true:=by simpa using hleaf
   simp only [decide_eq_false_iff_not] at hlv
   refine ad (P:=fun t => Inv N t ∧ t.Apps.length < 16 ∧ (∀ x ∈ t.Apps,x ∈ s.Apps) ∧ t.Conf = s.Conf) ?_ ?_
   ·refine ae (fun hge => ?_) fun hlt => ?_
    ·rw [EV h.z,Jw]
     refine aa ⟨h.forget,?_,fun x hx => List.eraseP_sublist.subset hx,rfl⟩
     have hex : ∃ x ∈ s.Apps,(!pLive x) = true:=by
      apply Classical.byContradiction
      intro hne
      have : s.Apps.filter pLive = s.Apps:=List.filter_eq_self.2 fun x hx => by
       cases hp : pLive x with
       | true => rfl
       | false => exact absurd ⟨x,hx,by rw [hp]; rfl⟩ hne
      rw [this] at hlv
      simp only [decide_eq_true_eq] at hge
      omega
     obtain ⟨x,hx,hp⟩:=hex
     have hl:=List.length_eraseP_of_mem (p:=fun a => !pLive a) hx hp
     have h2:=h.al
     show (s.Apps.eraseP _).length < 16
     have hpos:=List.length_pos_of_mem hx
     omega
    ·simp only [decide_eq_false_iff_not] at hlt
     exact aa ⟨h,by omega,fun x hx => hx,rfl⟩
   ·rintro t ⟨ht,htl,hts,htc⟩
    show Gv ((some [lI a]).bind _) _
    rw [Jw,qS ht.z,Jw]
    refine aa ?_
    have hno' : ∀ x ∈ t.Apps,x.Id ≠ a.Id:=fun x hx => hno x (hts x hx)
    have hok : AppOk N t.Conf ⟨a.Id,1,a.Queue,a.User,a.Prio,⟨a.Master.Mem,a.Master.Cores⟩,[lI a],t.Now,0,[],[],[],[]⟩ :=
     ⟨by dsimp only; omega,hu,r_ h.cf hleaf,fun _ => by rw [htc]; exact hleaf,hb,by simp,fun x hx => by
      have : x = lI a:=by simpa using hx
      subst this
      exact y_ ht.cf hb,by simp,by simp,by simp,by simp⟩
    refine ⟨ht.cf,ht.nl,ht.ns,ht.nk,?_,lW ht.asr,?_,ht.cl,ht.cs,?_,ht.ss,ht.sk,ht.pl,ht.ps,ht.pk,ht.now,ht.ep,ht.sq⟩
    ·have:=(nX (id:=fun x : App => x.Id) (l:=t.Apps) (a:=⟨a.Id,1,a.Queue,a.User,a.Prio,⟨a.Master.Mem,a.Master.Cores⟩,[lI a],t.Now,0,[],[],[],[]⟩)).1
     show (putG _ _ _).length ≤ 16
     omega
    ·intro x hx
     rcases (cw ht.asr).1 hx with rfl | ⟨hx,_⟩
     ·exact hok
     ·exact ht.ak x hx
    ·intro c hc
     have:=ht.ck c hc
     refine ⟨this.size,?_,this.label,this.id⟩
     obtain ⟨b,hb,e1,e2⟩:=this.app
     exact ⟨b,(cw ht.asr).2 (.inr ⟨hb,hno' b hb⟩),e1,e2⟩
theorem Jj {N : Nat} {s : State} (h : Inv N s) (i st : Int) (hst : st = 3 ∨ st = 4) : Gv (km s i st) fun r => Inv N r.1:=by
 unfold km
 rw [dV h.z,Jw]
 cases hn : appAt s i with
 | none => exact aa h
 | some a =>
  obtain ⟨ha,rfl⟩:=uQ hn
  have hak:=h.ak a ha
  simp only [Option.elim,Bool.not_true,cond_false]
  rw [lT,Jw,Jw]
  refine ae (fun _ => aa h) fun _ => ?_
  have hz : ∀ b : App,SSmall (pPutA s b):=by
   intro b
   refine ⟨h.z.n,?_,h.z.c,h.z.l,h.z.p⟩
   have:=(nX (id:=fun x : App => x.Id) (l:=s.Apps) (a:=b)).1
   have h2:=h.al
   show (putG _ _ _).length ≤ 100000
   omega
  rw [qS h.z,Jw,Cm (hz _),Jw]
  refine aa (h.reset ha rfl ⟨by dsimp only; omega,hak.user,hak.path,fun e => by dsimp only at e; omega,hak.mas,by simp,by simp,by simp,by simp,by simp,by simp⟩)
theorem Ef {N : Nat} {s : State} (h : Inv N s) (i st : Int) (hst : st = 3 ∨ st = 4) : Gv (gP s i st) fun r => Inv N r.1:=by
 unfold gP
 rw [dV h.z,Jw]
 refine ae (fun _ => aa h) fun _ => ?_
 rw [lT,Jw]
 refine ae (fun _ => aa h) fun _ => ?_
 exact ad (Jj h i st hst) fun r hr => aa hr
end Go.Fx.D
