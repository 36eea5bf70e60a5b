/-
  The reference manager: what holds of its state after every script. Conditions: none.
-/
import Derived.Test.YtbhbgldkokjndaaGreatS11
namespace Go.Fx.D
open Go Go.Fx
set_option linter.unusedVariables false
set_option linter.unusedSimpArgs false
def iN (a : App) : Ask:=⟨0,0,⟨a.Master.Mem,a.Master.Cores⟩,1,-1,-1,0⟩
theorem qg {c : Conf} (hc : ConfOk c) {a : App} (h : SzOk a.Master) : AskOk c (iN a):=⟨by have:=hc.lab; show 0 ≤ (0 : Int) ∧ (0 : Int) < c.Labels.length; omega,h,by show 1 ≤ (1 : Int) ∧ (1 : Int) ≤ 50; omega⟩
theorem Inv.reset {N : Nat} {s : State} (h : Inv N s) {a b : App} (ha : a ∈ s.Apps) (hid : b.Id = a.Id) (hb : AppOk N s.Conf b) : Inv N (pShed (pPutA s b) a.Id):=by
 have h1:=h.shed a.Id
 have h2 : Inv N (pPutA (pShed s a.Id) b):=h1.putA ⟨a,ha,hid.symm⟩ hb (.inr fun c hc e => by
  have:=(List.mem_filter.1 hc).2
  rw [hid] at e
  simp [e] at this)
 exact h2
theorem uD {s : State} {i : Int} {c : Cont} (h : na s i = some c) : c ∈ s.Conts ∧ c.Id = i:=jO h
theorem xp {N : Nat} (hN : N ≤ 1000000) {s : State} (h : Inv N s) (i : Int) : Gv ((aS s i).bind fun x1 =>
   bif ! x1.2 then
    some s
   else
    (aH s x1.1.App).bind fun x2 =>
    bif x1.1.Master then
     (f_ x2.1).bind fun x3 =>
     (aI s (⟨x2.1.Id,1,x2.1.Queue,x2.1.User,x2.1.Prio,⟨x2.1.Master.Mem,x2.1.Master.Cores⟩,x3,s.Now,0,[],[],[],[]⟩ : App)).bind fun x4 =>
     (b8 x4 x1.1.App).bind fun x5 =>
     some x5.1
    else
     (b7 s x1.1.Id).bind fun x6 =>
     (bo x2.1.Grants x1.1.Id).bind fun x7 =>
     (
      bif ! x7.2 then
       (app 8 [] x2.1.Kills).bind fun l =>
       (app 8 l [x1.1.Id]).bind fun l1 =>
       some (⟨x2.1.Id,x2.1.State,x2.1.Queue,x2.1.User,x2.1.Prio,⟨x2.1.Master.Mem,x2.1.Master.Cores⟩,x2.1.Asks,x2.1.Seen,x2.1.Beat,x7.1,l1,x2.1.Told,x2.1.Lost⟩ : App)
      else
       some (⟨x2.1.Id,x2.1.State,x2.1.Queue,x2.1.User,x2.1.Prio,⟨x2.1.Master.Mem,x2.1.Master.Cores⟩,x2.1.Asks,x2.1.Seen,x2.1.Beat,x7.1,x2.1.Kills,x2.1.Told,x2.1.Lost⟩ : App)).bind fun a =>
     (aI x6 a).bind fun x8 =>
     some x8) (Inv (N + 1)):=by
 rw [iR h.z,At]
 cases hc : na s i with
 | none => exact aa (h.mono (by omega))
 | some c =>
  obtain ⟨hcm,_⟩:=uD hc
  obtain ⟨a,ha,e1,e2⟩:=(h.ck c hcm).app
  have hak:=h.ak a ha
  simp only [Option.elim,Bool.not_true,cond_false]
  rw [dt h.z,← e1,h.appAt ha,At]
  simp only [Option.elim]
  refine ae (fun _ => ?_) fun _ => ?_
  ·show Gv ((some [iN a]).bind _) _
   rw [At]
   refine ad (P:=fun t => t = pPutA s ⟨a.Id,1,a.Queue,a.User,a.Prio,⟨a.Master.Mem,a.Master.Cores⟩,[iN a],s.Now,0,[],[],[],[]⟩) (aU (ll h.z _) rfl) ?_
   rintro t rfl
   have hok : AppOk N s.Conf ⟨a.Id,1,a.Queue,a.User,a.Prio,⟨a.Master.Mem,a.Master.Cores⟩,[iN a],s.Now,0,[],[],[],[]⟩ :=
    ⟨by dsimp only; omega,hak.user,hak.path,fun _ => hak.leaf (.inr e2),hak.mas,by simp,fun x hx => by
     have : x = iN a:=by simpa using hx
     subst this
     exact qg h.cf hak.mas,by simp,by simp,by simp,by simp⟩
   have hz : SSmall (pPutA s ⟨a.Id,1,a.Queue,a.User,a.Prio,⟨a.Master.Mem,a.Master.Cores⟩,[iN a],s.Now,0,[],[],[],[]⟩):=by
    refine ⟨h.z.n,?_,h.z.c,h.z.l,h.z.p⟩
    have:=(jS (id:=fun x : App => x.Id) (l:=s.Apps) (a:=⟨a.Id,1,a.Queue,a.User,a.Prio,⟨a.Master.Mem,a.Master.Cores⟩,[iN a],s.Now,0,[],[],[],[]⟩)).1
    have h2:=h.al
    show (putG _ _ _).length ≤ 100000
    omega
   rw [uo hz,At]
   have hr:=h.reset (b:=⟨a.Id,1,a.Queue,a.User,a.Prio,⟨a.Master.Mem,a.Master.Cores⟩,[iN a],s.Now,0,[],[],[],[]⟩) ha rfl hok
   exact aa (hr.mono (by omega))
  ·rw [ub h.z,At,o0 (by have:=hak.gr; omega),At]
   have hA:=h.away c.Id
   have hgl : (a.Grants.filter fun x => x != c.Id).length ≤ a.Grants.length:=List.length_filter_le _ _
   refine ad (P:=fun b => b.Id = a.Id ∧ b.State = 2 ∧ AppOk (N + 1) s.Conf b) ?_ ?_
   ·refine ae (fun _ => ?_) fun _ => ?_
    ·rw [ah (by have:=hak.ki; simp; omega) (by omega),At,ah (by have:=hak.ki; simp; omega) (by omega),At]
     refine aa ⟨rfl,e2,hak.st,hak.user,hak.path,hak.leaf,hak.mas,hak.al,hak.ask,by have:=hak.gr; dsimp only; omega,by have:=hak.ki; simp; omega,Nat.le_succ_of_le hak.to,Nat.le_succ_of_le hak.lo⟩
    ·exact aa ⟨rfl,e2,hak.st,hak.user,hak.path,hak.leaf,hak.mas,hak.al,hak.ask,by have:=hak.gr; dsimp only; omega,Nat.le_succ_of_le hak.ki,Nat.le_succ_of_le hak.to,Nat.le_succ_of_le hak.lo⟩
   ·rintro b ⟨b1,b2,b3⟩
    rw [ll hA.z,At]
    exact aa ((hA.mono (Nat.le_succ N)).putA ⟨a,ha,b1.symm⟩ b3 (.inl b2))
theorem n_ {N : Nat} {s : State} (h : Inv N s) {ids : List Int} (hN : N + ids.length ≤ 1000000) : Gv (bw s ids) (Inv (N + ids.length)):=by
 unfold bw
 refine ad (P:=Inv (N + ids.length)) ?_ fun t ht => aa ht
 refine aw (fun (p : State) i => (p,i)) ids.length (fun k p => Inv (N + k) p) (step:=dX ids) (by omega) ?_ ?_ (s:=s) h
 ·intro k hk t ht
  unfold dX
  rw [aj hk,cond_true]
  dsimp only
  rw [ai hk,At]
  refine ad (xp (by omega) ht ids[k]) fun u hu => aa (.inl ⟨u,rfl,hu⟩)
 ·intro t ht
  unfold dX
  rw [ar]
  exact aa ⟨t,rfl,ht⟩
theorem lj {s : State} {i : Int} {n : Node} (h : j4 s i = some n) : n ∈ s.Nodes ∧ n.Id = i:=jO h
theorem wW {N : Nat} {s : State} (h : Inv N s) (i b : Int) : Gv (gZ s i b) fun r => Inv N r.1:=by
 unfold gZ
 rw [iQ h.z,At]
 cases hn : j4 s i with
 | none => exact aa h
 | some n =>
  obtain ⟨hm,_⟩:=lj hn
  simp only [Option.elim,Bool.not_true,cond_false]
  refine ae (fun _ => aa h) fun _ => ae (fun _ => aa h) fun _ => ae (fun _ => aa h) fun _ => ae (fun _ => aa h) fun _ => ?_
  rw [oi h.z,At]
  exact aa (h.putN (.inl ⟨n,hm,rfl⟩) (h.nk n hm))
theorem zR {N : Nat} {s : State} (h : Inv N s) (i : Int) : Gv (g9 s i) (Inv N):=by
 unfold g9
 rw [iQ h.z,At]
 cases hn : j4 s i with
 | none => exact aa h
 | some n =>
  obtain ⟨hm,_⟩:=lj hn
  simp only [Option.elim,Bool.not_true,cond_false]
  rw [oi h.z,At]
  exact aa (h.putN (.inl ⟨n,hm,rfl⟩) (h.nk n hm))
theorem oQ (n : Int) : eW n = some (decide (0 ≤ n) && decide (n ≤ 1073741824)):=by
 unfold eW
 by_cases h : n ≥ 0
 ·rw [decide_eq_true h]; rfl
 ·rw [decide_eq_false h]; rfl
theorem tp {N : Nat} {s : State} (h : Inv N s) (n : Node) : Gv (et s n) fun r => Inv N r.1:=by
 unfold et
 refine ad (P:=fun b => b = false → VB 1073741824 n.Cap ∧ 0 ≤ n.Label ∧ n.Label < s.Conf.Labels.length) ?_ ?_
 ·refine ae (fun _ => aa (by simp)) fun _ => ae (fun _ => aa (by simp)) fun _ => ae (fun _ => aa (by simp)) fun h1 => ae (fun _ => aa (by simp)) fun h2 =>
   ae (fun _ => aa (by simp)) fun _ => ae (fun _ => aa (by simp)) fun _ => ?_
  rw [oQ,At]
  refine ae (fun _ => aa (by simp)) fun h3 => ?_
  rw [oQ,At]
  refine aa fun h4 => ?_
  simp only [decide_eq_false_iff_not,Bool.not_eq_false',Bool.and_eq_true,decide_eq_true_eq] at h1 h2 h3 h4
  exact ⟨⟨h3,h4⟩,by omega,by omega⟩
 ·intro b hb
  refine ae (fun _ => aa h) fun hbf => ?_
  have hb:=hb hbf
  rw [iQ h.z,At]
  cases hn : j4 s n.Id with
  | none =>
   simp only [Option.elim,cond_false,At,Bool.not_false,cond_true]
   refine ae (fun _ => aa h) fun hlen => ?_
   rw [oi h.z,At]
   simp only [decide_eq_false_iff_not] at hlen
   exact aa (h.putN (.inr (by omega)) hb)
  | some m =>
   obtain ⟨hm,hid⟩:=lj hn
   simp only [Option.elim,cond_true,At,Bool.not_true,cond_false]
   refine ae (fun _ => aa h) fun _ => ?_
   rw [oi h.z,At]
   exact aa (h.putN (.inl ⟨m,hm,hid⟩) hb)
theorem kQ (p : App → Bool) : ∀ (l z : List App) (d : Bool),l.foldl (fun (t : List App × Bool) x => if (!t.2 && p x) = true then (t.1,true) else (t.1 ++ [x],t.2)) (z,d) = (z ++ (if d = true then l else l.eraseP p),d || l.any p)
 | [],z,d => by cases d <;> simp
 | x :: l,z,d => by
  rw [List.foldl_cons]
  cases d with
  | true =>
   rw [if_neg (by simp),kQ p l]
   simp
  | false =>
   cases hp : p x with
   | true =>
    rw [if_pos (by simp),kQ p l]
    simp [hp]
   | false =>
    rw [if_neg (by simp),kQ p l]
    simp [hp]
theorem vS {s : State} (h : SSmall s) : fb s = some ⟨s.Conf,s.Nodes,s.Apps.eraseP fun a => !pLive a,s.Conts,s.Slots,s.Plans,s.Now,s.Epoch,s.Seq⟩:=by
 unfold fb
 have hn:=h.a
 have e:=(dN (fun (t : List App × Bool) i => (t.1,t.2,i)) s.Apps (fun (t : List App × Bool) x => if (!t.2 && !pLive x) = true then (t.1,true) else (t.1 ++ [x],t.2)) (fun k t => t.1.length ≤ k) (fun t => t.1)
  (step:=cW s) (by omega) ?_ ?_ (s:=([],false)) (by simp)).1
 ·rw [e,kQ (fun a => !pLive a),At]
  simp
 ·rintro k hk ⟨l,d⟩ hl
  dsimp only at hl ⊢
  refine ⟨?_,by split <;> (try simp) <;> omega⟩
  unfold cW
  dsimp only
  rw [aj hk,cond_true,ai hk,At,js,At]
  cases d <;> cases pLive s.Apps[k] <;>
   simp [ah (b:=200) (l:=l) (m:=[s.Apps[k]]) (by simp; omega) (by omega)]
 ·rintro ⟨l,d⟩ _
  unfold cW
  dsimp only
  rw [ar]
  rfl
theorem Inv.forget {N : Nat} {s : State} (h : Inv N s) : Inv N ⟨s.Conf,s.Nodes,s.Apps.eraseP fun a => !pLive a,s.Conts,s.Slots,s.Plans,s.Now,s.Epoch,s.Seq⟩:=by
 have hs : (s.Apps.eraseP fun a => !pLive a).Sublist s.Apps:=List.eraseP_sublist
 refine ⟨h.cf,h.nl,h.ns,h.nk,Nat.le_trans hs.length_le h.al,h.asr.sublist hs,fun a ha => h.ak a (hs.subset ha),h.cl,h.cs,fun c hc => ?_,h.ss,h.sk,h.pl,h.ps,h.pk,h.now,h.ep,h.sq⟩
 have:=h.ck c hc
 refine ⟨this.size,?_,this.label,this.id⟩
 obtain ⟨a,ha,e1,e2⟩:=this.app
 refine ⟨a,?_,e1,e2⟩
 exact (List.mem_eraseP_of_neg (by unfold pLive; simp [e2])).2 ha
theorem nI (n : Int) : dP n = some (decide (1 ≤ n) && decide (n ≤ 1073741824)):=by
 unfold dP
 by_cases h : n ≥ 1
 ·rw [decide_eq_true h]; rfl
 ·rw [decide_eq_false h]; rfl
theorem sX {s : State} (h : SSmall s) : loop (bD s) (0,0) = some ((s.Apps.filter pLive).length : Int):=by
 have hn:=h.a
 have e:=(dN (fun (t : Int) i => (t,i)) s.Apps (fun t x => if pLive x = true then t + 1 else t) (fun k t => 0 ≤ t ∧ t ≤ k) (fun t => t) (step:=bD s) (by omega) ?_ ?_ (s:=0) (by simp)).1
 ·rw [e]
  have gen : ∀ (l : List App) (z : Int),l.foldl (fun t x => if pLive x = true then t + 1 else t) z = z + ((l.filter pLive).length : Int):=by
   intro l
   induction l with
   | nil => intro z; simp
   | cons x l ih =>
    intro z
    rw [List.foldl_cons,ih,List.filter_cons]
    split
    ·simp; omega
    ·rfl
  rw [gen,Int.zero_add]
 ·intro k hk t ht
  refine ⟨?_,by split <;> omega⟩
  unfold bD
  dsimp only
  rw [aj hk,cond_true,ai hk,At,js,At]
  cases pLive s.Apps[k]
  ·rfl
  ·simp only [cond_true,At,if_true]
   rw [ao (x:=t + 1) (by omega) (by omega)]
 ·intro t _
  unfold bD
  rw [ar]
  rfl
theorem vI {N : Nat} {s : State} (h : Inv N s) (a : App) (hu : 0 ≤ a.User ∧ a.User ≤ 2) : Gv (fd s a) fun r => Inv N r.1:=by
 unfold fd
 refine ad (P:=fun b => b = false → SzOk a.Master) ?_ ?_
 ·refine ae (fun _ => aa (by simp)) fun _ => ae (fun _ => aa (by simp)) fun _ => ae (fun _ => aa (by simp)) fun h1 => ae (fun _ => aa (by simp)) fun h2 =>
   ae (fun _ => aa (by simp)) fun _ => ae (fun _ => aa (by simp)) fun _ => ?_
  rw [nI,At]
  refine ae (fun _ => aa (by simp)) fun h3 => ?_
  rw [nI,At]
  refine aa fun h4 => ?_
  simp only [Bool.not_eq_false',Bool.and_eq_true,decide_eq_true_eq] at h3 h4
  exact ⟨h3,h4⟩
 ·intro b hb
  refine ae (fun _ => aa h) fun hbf => ?_
  have hb:=hb hbf
  rw [dt h.z,At]
  cases hn : appAt s a.Id with
  | some m => exact aa h
  | none =>
   have hno:=sI hn
   simp only [Option.elim,cond_false]
   rw [sX h.z,At]
   refine ae (fun _ => aa h) fun hlv => ?_
   rw [pO h.cf.small,At]
   refine ae (fun _ => aa h) fun hleaf => ?_
   have hleaf : pLeaf s.Conf a.Queue = true:=by simpa using hleaf
   simp only [decide_eq_false_iff_not] at hlv
   refine ad (P:=fun t => Inv N t ∧ t.Apps.length < 16 ∧ (∀ x ∈ t.Apps,x ∈ s.Apps) ∧ t.Conf = s.Conf) ?_ ?_
   ·refine ae (fun hge => ?_) fun hlt => ?_
    ·rw [vS h.z,At]
     refine aa ⟨h.forget,?_,fun x hx => List.eraseP_sublist.subset hx,rfl⟩
     have hex : ∃ x ∈ s.Apps,(!pLive x) = true:=by
      apply Classical.byContradiction
      intro hne
      have : s.Apps.filter pLive = s.Apps:=List.filter_eq_self.2 fun x hx => by
       cases hp : pLive x with
       | true => rfl
       | false => exact absurd ⟨x,hx,by rw [hp]; rfl⟩ hne
      rw [this] at hlv
      simp only [decide_eq_true_eq] at hge
      omega
     obtain ⟨x,hx,hp⟩:=hex
     have hl:=List.length_eraseP_of_mem (p:=fun a => !pLive a) hx hp
     have h2:=h.al
     show (s.Apps.eraseP _).length < 16
     have hpos:=List.length_pos_of_mem hx
     omega
    ·simp only [decide_eq_false_iff_not] at hlt
     exact aa ⟨h,by omega,fun x hx => hx,rfl⟩
   ·rintro t ⟨ht,htl,hts,htc⟩
    show Gv ((some [iN a]).bind _) _
    rw [At,ll ht.z,At]
    refine aa ?_
    have hno' : ∀ x ∈ t.Apps,x.Id ≠ a.Id:=fun x hx => hno x (hts x hx)
    have hok : AppOk N t.Conf ⟨a.Id,1,a.Queue,a.User,a.Prio,⟨a.Master.Mem,a.Master.Cores⟩,[iN a],t.Now,0,[],[],[],[]⟩ :=
     ⟨by dsimp only; omega,hu,lU h.cf hleaf,fun _ => by rw [htc]; exact hleaf,hb,by simp,fun x hx => by
      have : x = iN a:=by simpa using hx
      subst this
      exact qg ht.cf hb,by simp,by simp,by simp,by simp⟩
    refine ⟨ht.cf,ht.nl,ht.ns,ht.nk,?_,iV ht.asr,?_,ht.cl,ht.cs,?_,ht.ss,ht.sk,ht.pl,ht.ps,ht.pk,ht.now,ht.ep,ht.sq⟩
    ·have:=(jS (id:=fun x : App => x.Id) (l:=t.Apps) (a:=⟨a.Id,1,a.Queue,a.User,a.Prio,⟨a.Master.Mem,a.Master.Cores⟩,[iN a],t.Now,0,[],[],[],[]⟩)).1
     show (putG _ _ _).length ≤ 16
     omega
    ·intro x hx
     rcases (bG ht.asr).1 hx with rfl | ⟨hx,_⟩
     ·exact hok
     ·exact ht.ak x hx
    ·intro c hc
     have:=ht.ck c hc
     refine ⟨this.size,?_,this.label,this.id⟩
     obtain ⟨b,hb,e1,e2⟩:=this.app
     exact ⟨b,(bG ht.asr).2 (.inr ⟨hb,hno' b hb⟩),e1,e2⟩
theorem Al {N : Nat} {s : State} (h : Inv N s) (i st : Int) (hst : st = 3 ∨ st = 4) : Gv (hS s i st) fun r => Inv N r.1:=by
 unfold hS
 rw [dt h.z,At]
 cases hn : appAt s i with
 | none => exact aa h
 | some a =>
  obtain ⟨ha,rfl⟩:=nr hn
  have hak:=h.ak a ha
  simp only [Option.elim,Bool.not_true,cond_false]
  rw [js,At,At]
  refine ae (fun _ => aa h) fun _ => ?_
  have hz : ∀ b : App,SSmall (pPutA s b):=by
   intro b
   refine ⟨h.z.n,?_,h.z.c,h.z.l,h.z.p⟩
   have:=(jS (id:=fun x : App => x.Id) (l:=s.Apps) (a:=b)).1
   have h2:=h.al
   show (putG _ _ _).length ≤ 100000
   omega
  rw [ll h.z,At,uo (hz _),At]
  refine aa (h.reset ha rfl ⟨by dsimp only; omega,hak.user,hak.path,fun e => by dsimp only at e; omega,hak.mas,by simp,by simp,by simp,by simp,by simp,by simp⟩)
theorem wb {N : Nat} {s : State} (h : Inv N s) (i st : Int) (hst : st = 3 ∨ st = 4) : Gv (eS s i st) fun r => Inv N r.1:=by
 unfold eS
 rw [dt h.z,At]
 refine ae (fun _ => aa h) fun _ => ?_
 rw [js,At]
 refine ae (fun _ => aa h) fun _ => ?_
 exact ad (Al h i st hst) fun r hr => aa hr
end Go.Fx.D
