/-
  The reference manager: what holds of its state after every script. Conditions: none.
-/
import Derived.Test.YteodpoelbdakgaaGreatS11
namespace Go.Fx.D
open Go Go.Fx
set_option linter.unusedVariables false
set_option linter.unusedSimpArgs false
def kj (a : App) : Ask:=⟨0,0,⟨a.Master.Mem,a.Master.Cores⟩,1,-1,-1,0⟩
theorem vB {c : Conf} (hc : ConfOk c) {a : App} (h : SzOk a.Master) : AskOk c (kj a):=⟨by have:=hc.lab; show 0 ≤ (0 : Int) ∧ (0 : Int) < c.Labels.length; omega,h,by show 1 ≤ (1 : Int) ∧ (1 : Int) ≤ 50; omega⟩
theorem InvE.reset {E : ExC} {N : Nat} {s : State} (h : InvE E N s) {a b : App} (ha : a ∈ s.Apps) (hid : b.Id = a.Id) (hb : AppOk N s.Conf b) (hst : b.State ≠ 2) : InvE E N (pShed (pPutA s b) a.Id):=by
 have h1:=h.shed a.Id
 have h2 : InvE (exA E a.Id) N (pPutA (pShed s a.Id) b):=h1.putA ⟨a,ha,hid.symm,fun e => absurd e hst⟩ hb (.inr fun c hc e => by
  have:=(List.mem_filter.1 hc).2
  rw [hid] at e
  simp [e] at this)
 refine InvE.relax (E':=E) h2 (fun _ _ e => e) (fun _ _ e => e) fun x hx e2 ex => ?_
 rcases ex with ex | ex
 ·exact ex
 ·rcases (aQ h.asr).1 hx with rfl | ⟨hx,hne⟩
  ·exact absurd e2 hst
  ·exact absurd (by omega) hne
theorem tD {s : State} {i : Int} {c : Cont} (h : oY s i = some c) : c ∈ s.Conts ∧ c.Id = i:=jn h
structure Lost (s t : State) (ids : List Int) : Prop where
 nd : t.Nodes = s.Nodes
 ct : ∀ c ∈ t.Conts,c ∈ s.Conts ∧ c.Id ∉ ids
 sl : ∀ x ∈ t.Slots,x ∈ s.Slots
theorem DS {E : ExC} {N : Nat} (hN : N ≤ 1000000) {s : State} (h : InvE E N s) (i : Int) : Gv ((aY s i).bind fun x1 =>
   bif ! x1.2 then
    some s
   else
    (aC s x1.1.App).bind fun x2 =>
    bif x1.1.Master then
     (il x2.1).bind fun x3 =>
     (aO s (⟨x2.1.Id,1,x2.1.Queue,x2.1.User,x2.1.Prio,⟨x2.1.Master.Mem,x2.1.Master.Cores⟩,x3,s.Now,0,[],[],[],[]⟩ : App)).bind fun x4 =>
     (cE x4 x1.1.App).bind fun x5 =>
     some x5.1
    else
     (cM s x1.1.Id).bind fun x6 =>
     (bJ x2.1.Grants x1.1.Id).bind fun x7 =>
     (
      bif ! x7.2 then
       (app 8 [] x2.1.Kills).bind fun l =>
       (app 8 l [x1.1.Id]).bind fun l1 =>
       some (⟨x2.1.Id,x2.1.State,x2.1.Queue,x2.1.User,x2.1.Prio,⟨x2.1.Master.Mem,x2.1.Master.Cores⟩,x2.1.Asks,x2.1.Seen,x2.1.Beat,x7.1,l1,x2.1.Told,x2.1.Lost⟩ : App)
      else
       some (⟨x2.1.Id,x2.1.State,x2.1.Queue,x2.1.User,x2.1.Prio,⟨x2.1.Master.Mem,x2.1.Master.Cores⟩,x2.1.Asks,x2.1.Seen,x2.1.Beat,x7.1,x2.1.Kills,x2.1.Told,x2.1.Lost⟩ : App)).bind fun a =>
     (aO x6 a).bind fun x8 =>
     some x8) (fun t => InvE E (N + 1) t ∧ Lost s t [i]):=by
 rw [kv h.z,Gp]
 cases hc : oY s i with
 | none => exact aa ⟨h.mono (by omega),rfl,fun c hcc => ⟨hcc,by
   have:=l_ hc c hcc
   simpa using this⟩,fun x hx => hx⟩
 | some c =>
  obtain ⟨hcm,hci⟩:=tD hc
  obtain ⟨a,ha,e1,e2⟩:=(h.ck c hcm).app
  have hak:=h.ak a ha
  simp only [Option.elim,Bool.not_true,cond_false]
  rw [aT h.z,← e1,h.appAt ha,Gp]
  simp only [Option.elim]
  refine ae (fun _ => ?_) fun hnm => ?_
  ·show Gv ((some [kj a]).bind _) _
   rw [Gp]
   refine ad (P:=fun t => t = pPutA s ⟨a.Id,1,a.Queue,a.User,a.Prio,⟨a.Master.Mem,a.Master.Cores⟩,[kj a],s.Now,0,[],[],[],[]⟩) (jw (my h.z _) rfl) ?_
   rintro t rfl
   have hok : AppOk N s.Conf ⟨a.Id,1,a.Queue,a.User,a.Prio,⟨a.Master.Mem,a.Master.Cores⟩,[kj a],s.Now,0,[],[],[],[]⟩ :=
    ⟨by dsimp only; omega,hak.user,hak.path,fun _ => hak.leaf (.inr e2),hak.mas,by simp,fun x hx => by
     have : x = kj a:=by simpa using hx
     subst this
     exact vB h.cf hak.mas,by simp,by simp,by simp,by simp,by simp⟩
   have hz : SSmall (pPutA s ⟨a.Id,1,a.Queue,a.User,a.Prio,⟨a.Master.Mem,a.Master.Cores⟩,[kj a],s.Now,0,[],[],[],[]⟩):=by
    refine ⟨h.z.n,?_,h.z.c,h.z.l,h.z.p⟩
    have:=(mb (id:=fun x : App => x.Id) (l:=s.Apps) (a:=⟨a.Id,1,a.Queue,a.User,a.Prio,⟨a.Master.Mem,a.Master.Cores⟩,[kj a],s.Now,0,[],[],[],[]⟩)).1
    have h2:=h.al
    show (putG _ _ _).length ≤ 100000
    omega
   rw [zy hz,Gp]
   have hr:=h.reset (b:=⟨a.Id,1,a.Queue,a.User,a.Prio,⟨a.Master.Mem,a.Master.Cores⟩,[kj a],s.Now,0,[],[],[],[]⟩) ha rfl hok (by show (1 : Int) ≠ 2; omega)
   refine aa ⟨hr.mono (by omega),rfl,fun d hd => ?_,fun x hx => (List.mem_filter.1 hx).1⟩
   obtain ⟨d1,d2⟩:=List.mem_filter.1 hd
   refine ⟨d1,fun e => ?_⟩
   rw [Gt] at e
   have:=jV (id:=fun x : Cont => x.Id) h.cs d1 hcm (by omega)
   subst this
   rw [e1] at d2
   simp at d2
  ·rw [yF h.z,Gp,tF (by have:=hak.gr; omega),Gp]
   have hA:=h.away c.Id fun d hd e => by
    have:=jV (id:=fun x : Cont => x.Id) h.cs hd hcm (by omega)
    subst this
    exact hnm
   have hgl : (a.Grants.filter fun x => x != c.Id).length ≤ a.Grants.length:=List.length_filter_le _ _
   refine ad (P:=fun b => b.Id = a.Id ∧ b.State = 2 ∧ AppOk (N + 1) s.Conf b) ?_ ?_
   ·refine ae (fun _ => ?_) fun _ => ?_
    ·rw [am (by have:=hak.ki; simp; omega) (by omega),Gp,am (by have:=hak.ki; simp; omega) (by omega),Gp]
     refine aa ⟨rfl,e2,hak.st,hak.user,hak.path,hak.leaf,hak.mas,hak.al,hak.ask,by have:=hak.gr; dsimp only; omega,by have:=hak.ki; simp; omega,Nat.le_succ_of_le hak.to,Nat.le_succ_of_le hak.lo,hak.ap⟩
    ·exact aa ⟨rfl,e2,hak.st,hak.user,hak.path,hak.leaf,hak.mas,hak.al,hak.ask,by have:=hak.gr; dsimp only; omega,Nat.le_succ_of_le hak.ki,Nat.le_succ_of_le hak.to,Nat.le_succ_of_le hak.lo,hak.ap⟩
   ·rintro b ⟨b1,b2,b3⟩
    rw [my hA.z,Gp]
    refine aa ⟨(hA.mono (Nat.le_succ N)).putA ⟨a,ha,b1.symm,fun _ => e2⟩ b3 (.inl b2),rfl,fun d hd => ?_,fun x hx => hx⟩
    obtain ⟨d1,d2⟩:=List.mem_filter.1 hd
    refine ⟨d1,fun e => ?_⟩
    rw [Gt] at e
    rw [e,hci] at d2
    simp at d2
theorem xC {E : ExC} {N : Nat} {s : State} (h : InvE E N s) {ids : List Int} (hN : N + ids.length ≤ 1000000) : Gv (bq s ids) fun t => InvE E (N + ids.length) t ∧ Lost s t ids:=by
 unfold bq
 refine ad (P:=fun t => InvE E (N + ids.length) t ∧ Lost s t ids) ?_ fun t ht => aa ht
 refine av (fun (p : State) i => (p,i)) ids.length (fun k p => InvE E (N + k) p ∧ Lost s p (ids.take k)) (step:=fU ids) (by omega) ?_ ?_ (s:=s) ⟨h,rfl,fun c hc => ⟨hc,by simp⟩,fun x hx => hx⟩
 ·rintro k hk t ⟨ht,hl⟩
  unfold fU
  rw [ah hk,cond_true]
  dsimp only
  rw [ai hk,Gp]
  refine ad (DS (by omega) ht ids[k]) fun u hu => aa (.inl ⟨u,rfl,hu.1,hu.2.nd.trans hl.nd,fun c hc => ?_,fun x hx => hl.sl x (hu.2.sl x hx)⟩)
  obtain ⟨c1,c2⟩:=hu.2.ct c hc
  obtain ⟨c3,c4⟩:=hl.ct c c1
  refine ⟨c3,fun e => ?_⟩
  rw [List.take_succ_eq_append_getElem hk] at e
  rcases List.mem_append.1 e with e | e
  ·exact c4 e
  ·exact c2 e
 ·rintro t ⟨ht,hl⟩
  unfold fU
  rw [ao]
  rw [List.take_length] at hl
  exact aa ⟨t,rfl,ht,hl⟩
theorem uQ {E : ExC} {N : Nat} {s : State} (h : InvE E N s) {ids : List Int} (hN : N + ids.length ≤ 1000000) : Gv (bq s ids) (InvE E (N + ids.length)):=oj (xC h hN) fun _ ht => ht.1
theorem lB {s : State} {i : Int} {n : Node} (h : cz s i = some n) : n ∈ s.Nodes ∧ n.Id = i:=jn h
theorem Dp {N : Nat} {s : State} (h : Inv N s) (i b : Int) : Gv (jB s i b) fun r => Inv N r.1:=by
 unfold jB
 rw [bR h.z,Gp]
 cases hn : cz s i with
 | none => exact aa h
 | some n =>
  obtain ⟨hm,_⟩:=lB hn
  simp only [Option.elim,Bool.not_true,cond_false]
  refine ae (fun _ => aa h) fun _ => ae (fun _ => aa h) fun _ => ae (fun _ => aa h) fun _ => ae (fun _ => aa h) fun _ => ?_
  rw [pQ h.z,Gp]
  exact aa (h.putN (.inl ⟨n,hm,rfl⟩) (h.nk n hm) (.inr ⟨n,hm,rfl,rfl,rfl,fun e => .inl e⟩))
def exN (i : Int) : ExC:=⟨fun j => j = i,fun _ => False⟩
theorem EN {N : Nat} {s : State} (h : Inv N s) (i : Int) : Gv (jy s i) (InvE (exN i) N):=by
 have h' : InvE (exN i) N s:=h.relax (fun _ _ e => e.elim) (fun _ _ e => e.elim) fun _ _ _ e => e
 unfold jy
 rw [bR h.z,Gp]
 cases hn : cz s i with
 | none => exact aa h'
 | some n =>
  obtain ⟨hm,hid⟩:=lB hn
  simp only [Option.elim,Bool.not_true,cond_false]
  rw [pQ h.z,Gp]
  exact aa (h'.putN (.inl ⟨n,hm,rfl⟩) (h.nk n hm) (.inr ⟨n,hm,rfl,rfl,rfl,fun _ => .inr hid⟩))
theorem sY (n : Int) : go n = some (decide (0 ≤ n) && decide (n ≤ 1073741824)):=by
 unfold go
 by_cases h : n ≥ 0
 ·rw [decide_eq_true h]; rfl
 ·rw [decide_eq_false h]; rfl
theorem sC {N : Nat} {s : State} (h : Inv N s) (n : Node) : Gv (bm s n) fun r => Inv N r.1:=by
 unfold bm
 refine ad (P:=fun b => b = false → VB 1073741824 n.Cap ∧ 0 ≤ n.Label ∧ n.Label < s.Conf.Labels.length) ?_ ?_
 ·refine ae (fun _ => aa (by simp)) fun _ => ae (fun _ => aa (by simp)) fun _ => ae (fun _ => aa (by simp)) fun h1 => ae (fun _ => aa (by simp)) fun h2 =>
   ae (fun _ => aa (by simp)) fun _ => ae (fun _ => aa (by simp)) fun _ => ?_
  rw [sY,Gp]
  refine ae (fun _ => aa (by simp)) fun h3 => ?_
  rw [sY,Gp]
  refine aa fun h4 => ?_
  simp only [decide_eq_false_iff_not,Bool.not_eq_false',Bool.and_eq_true,decide_eq_true_eq] at h1 h2 h3 h4
  exact ⟨⟨h3,h4⟩,by omega,by omega⟩
 ·intro b hb
  refine ae (fun _ => aa h) fun hbf => ?_
  have hb:=hb hbf
  rw [bR h.z,Gp]
  cases hn : cz s n.Id with
  | none =>
   simp only [Option.elim,cond_false,Gp,Bool.not_false,cond_true]
   refine ae (fun _ => aa h) fun hlen => ?_
   rw [pQ h.z,Gp]
   simp only [decide_eq_false_iff_not] at hlen
   have h0:=l_ hn
   exact aa (h.putN (.inr (by omega)) hb (.inl ⟨fun c hc e => by
    have e : c.Node = n.Id:=e
    obtain ⟨m,hm,e1,_⟩:=h.sd.nod c hc
    exact h0 m hm (by omega),fun x hx e => by
    have e : x.Node = n.Id:=e
    obtain ⟨m,hm,e1⟩:=h.sk x hx
    exact h0 m hm (by omega)⟩))
  | some m =>
   obtain ⟨hm,hid⟩:=lB hn
   simp only [Option.elim,cond_true,Gp,Bool.not_true,cond_false]
   refine ae (fun _ => aa h) fun hup => ?_
   rw [pQ h.z,Gp]
   have hdn : ∀ k ∈ s.Nodes,k.Id = n.Id → ¬ (k.Up = true ∨ ex0.nod k.Id):=fun k hk e => by
    have:=jV (id:=fun x : Node => x.Id) h.ns hk hm (by omega)
    subst this
    rintro (e | e)
    ·rw [hup] at e; cases e
    ·exact e
   exact aa (h.putN (.inl ⟨m,hm,hid⟩) hb (.inl ⟨fun c hc e => by
    have e : c.Node = n.Id:=e
    obtain ⟨k,hk,e1,_,e3⟩:=h.sd.nod c hc
    exact hdn k hk (by omega) e3,fun x hx e => by
    have e : x.Node = n.Id:=e
    obtain ⟨k,hk,e1,e3⟩:=h.sd.slt x hx
    exact hdn k hk (by omega) e3⟩))
theorem nD (p : App → Bool) : ∀ (l z : List App) (d : Bool),l.foldl (fun (t : List App × Bool) x => if (!t.2 && p x) = true then (t.1,true) else (t.1 ++ [x],t.2)) (z,d) = (z ++ (if d = true then l else l.eraseP p),d || l.any p)
 | [],z,d => by cases d <;> simp
 | x :: l,z,d => by
  rw [List.foldl_cons]
  cases d with
  | true =>
   rw [if_neg (by simp),nD p l]
   simp
  | false =>
   cases hp : p x with
   | true =>
    rw [if_pos (by simp),nD p l]
    simp [hp]
   | false =>
    rw [if_neg (by simp),nD p l]
    simp [hp]
theorem va {s : State} (h : SSmall s) : gO s = some ⟨s.Conf,s.Nodes,s.Apps.eraseP fun a => !pLive a,s.Conts,s.Slots,s.Plans,s.Now,s.Epoch,s.Seq⟩:=by
 unfold gO
 have hn:=h.a
 have e:=(dD (fun (t : List App × Bool) i => (t.1,t.2,i)) s.Apps (fun (t : List App × Bool) x => if (!t.2 && !pLive x) = true then (t.1,true) else (t.1 ++ [x],t.2)) (fun k t => t.1.length ≤ k) (fun t => t.1)
  (step:=dR s) (by omega) ?_ ?_ (s:=([],false)) (by simp)).1
 ·rw [e,nD (fun a => !pLive a),Gp]
  simp
 ·rintro k hk ⟨l,d⟩ hl
  dsimp only at hl ⊢
  refine ⟨?_,by split <;> (try simp) <;> omega⟩
  unfold dR
  dsimp only
  rw [ah hk,cond_true,ai hk,Gp,hU,Gp]
  cases d <;> cases pLive s.Apps[k] <;>
   simp [am (b:=200) (l:=l) (m:=[s.Apps[k]]) (by simp; omega) (by omega)]
 ·rintro ⟨l,d⟩ _
  unfold dR
  dsimp only
  rw [ao]
  rfl
theorem InvE.forget {N : Nat} {s : State} (h : InvE ex0 N s) : Inv N ⟨s.Conf,s.Nodes,s.Apps.eraseP fun a => !pLive a,s.Conts,s.Slots,s.Plans,s.Now,s.Epoch,s.Seq⟩:=by
 have hs : (s.Apps.eraseP fun a => !pLive a).Sublist s.Apps:=List.eraseP_sublist
 refine ⟨h.cf,h.nl,h.ns,h.nk,Nat.le_trans hs.length_le h.al,h.asr.sublist hs,fun a ha => h.ak a (hs.subset ha),h.cl,h.cs,fun c hc => ?_,h.ss,h.sk,h.pl,h.ps,h.pk,h.now,h.ep,h.sq,h.en,h.sd.chk,h.sd.nod,h.sd.slt,h.sd.ntc,h.sd.fit,fun a ha e => h.sd.one a (hs.subset ha) e⟩
 have:=h.ck c hc
 refine ⟨this.size,?_,this.label,this.id⟩
 obtain ⟨a,ha,e1,e2⟩:=this.app
 refine ⟨a,?_,e1,e2⟩
 exact (List.mem_eraseP_of_neg (by unfold pLive; simp [e2])).2 ha
theorem rS (n : Int) : eX n = some (decide (1 ≤ n) && decide (n ≤ 1073741824)):=by
 unfold eX
 by_cases h : n ≥ 1
 ·rw [decide_eq_true h]; rfl
 ·rw [decide_eq_false h]; rfl
theorem sE {s : State} (h : SSmall s) : loop (bX s) (0,0) = some ((s.Apps.filter pLive).length : Int):=by
 have hn:=h.a
 have e:=(dD (fun (t : Int) i => (t,i)) s.Apps (fun t x => if pLive x = true then t + 1 else t) (fun k t => 0 ≤ t ∧ t ≤ k) (fun t => t) (step:=bX s) (by omega) ?_ ?_ (s:=0) (by simp)).1
 ·rw [e]
  have gen : ∀ (l : List App) (z : Int),l.foldl (fun t x => if pLive x = true then t + 1 else t) z = z + ((l.filter pLive).length : Int):=by
   intro l
   induction l with
   | nil => intro z; simp
   | cons x l ih =>
    intro z
    rw [List.foldl_cons,ih,List.filter_cons]
    split
    ·simp; omega
    ·rfl
  rw [gen,Int.zero_add]
 ·intro k hk t ht
  refine ⟨?_,by split <;> omega⟩
  unfold bX
  dsimp only
  rw [ah hk,cond_true,ai hk,Gp,hU,Gp]
  cases pLive s.Apps[k]
  ·rfl
  ·simp only [cond_true,Gp,if_true]
   rw [aj (x:=t + 1) (by omega) (by omega)]
 ·intro t _
  unfold bX
  rw [ao]
  rfl
theorem vL {N : Nat} {s : State} (h : Inv N s) (a : App) (hu : 0 ≤ a.User ∧ a.User ≤ 2) : Gv (bw s a) fun r => Inv N r.1:=by
 unfold bw
 refine ad (P:=fun b => b = false → SzOk a.Master) ?_ ?_
 ·refine ae (fun _ => aa (by simp)) fun _ => ae (fun _ => aa (by simp)) fun _ => ae (fun _ => aa (by simp)) fun h1 => ae (fun _ => aa (by simp)) fun h2 =>
   ae (fun _ => aa (by simp)) fun _ => ae (fun _ => aa (by simp)) fun _ => ?_
  rw [rS,Gp]
  refine ae (fun _ => aa (by simp)) fun h3 => ?_
  rw [rS,Gp]
  refine aa fun h4 => ?_
  simp only [Bool.not_eq_false',Bool.and_eq_true,decide_eq_true_eq] at h3 h4
  exact ⟨h3,h4⟩
 ·intro b hb
  refine ae (fun _ => aa h) fun hbf => ?_
  have hb:=hb hbf
  rw [aT h.z,Gp]
  cases hn : appAt s a.Id with
  | some m => exact aa h
  | none =>
   have hno:=l_ hn
   simp only [Option.elim,cond_false]
   rw [sE h.z,Gp]
   refine ae (fun _ => aa h) fun hlv => ?_
   rw [pP h.cf.small,Gp]
   refine ae (fun _ => aa h) fun hleaf => ?_
   have hleaf : pLeaf s.Conf a.Queue = true:=by simpa using hleaf
   simp only [decide_eq_false_iff_not] at hlv
   refine ad (P:=fun t => Inv N t ∧ t.Apps.length < 16 ∧ (∀ x ∈ t.Apps,x ∈ s.Apps) ∧ t.Conf = s.Conf) ?_ ?_
   ·refine ae (fun hge => ?_) fun hlt => ?_
    ·rw [va h.z,Gp]
     refine aa ⟨h.forget,?_,fun x hx => List.eraseP_sublist.subset hx,rfl⟩
     have hex : ∃ x ∈ s.Apps,(!pLive x) = true:=by
      apply Classical.byContradiction
      intro hne
      have : s.Apps.filter pLive = s.Apps:=List.filter_eq_self.2 fun x hx => by
       cases hp : pLive x with
       | true => rfl
       | false => exact absurd ⟨x,hx,by rw [hp]; rfl⟩ hne
      rw [this] at hlv
      simp only [decide_eq_true_eq] at hge
      omega
     obtain ⟨x,hx,hp⟩:=hex
     have hl:=List.length_eraseP_of_mem (p:=fun a => !pLive a) hx hp
     have h2:=h.al
     show (s.Apps.eraseP _).length < 16
     have hpos:=List.length_pos_of_mem hx
     omega
    ·simp only [decide_eq_false_iff_not] at hlt
     exact aa ⟨h,by omega,fun x hx => hx,rfl⟩
   ·rintro t ⟨ht,htl,hts,htc⟩
    show Gv ((some [kj a]).bind _) _
    rw [Gp,my ht.z,Gp]
    refine aa ?_
    have hno' : ∀ x ∈ t.Apps,x.Id ≠ a.Id:=fun x hx => hno x (hts x hx)
    have hok : AppOk N t.Conf ⟨a.Id,1,a.Queue,a.User,a.Prio,⟨a.Master.Mem,a.Master.Cores⟩,[kj a],t.Now,0,[],[],[],[]⟩ :=
     ⟨by dsimp only; omega,hu,pg h.cf hleaf,fun _ => by rw [htc]; exact hleaf,hb,by simp,fun x hx => by
      have : x = kj a:=by simpa using hx
      subst this
      exact vB ht.cf hb,by simp,by simp,by simp,by simp,by simp⟩
    refine ⟨ht.cf,ht.nl,ht.ns,ht.nk,?_,kt ht.asr,?_,ht.cl,ht.cs,?_,ht.ss,ht.sk,ht.pl,ht.ps,ht.pk,ht.now,ht.ep,ht.sq,ht.en,ht.sd.chk,ht.sd.nod,ht.sd.slt,ht.sd.ntc,ht.sd.fit,fun x hx e => ?_⟩
    ·have:=(mb (id:=fun x : App => x.Id) (l:=t.Apps) (a:=⟨a.Id,1,a.Queue,a.User,a.Prio,⟨a.Master.Mem,a.Master.Cores⟩,[kj a],t.Now,0,[],[],[],[]⟩)).1
     show (putG _ _ _).length ≤ 16
     omega
    ·intro x hx
     rcases (aQ ht.asr).1 hx with rfl | ⟨hx,_⟩
     ·exact hok
     ·exact ht.ak x hx
    ·intro c hc
     have:=ht.ck c hc
     refine ⟨this.size,?_,this.label,this.id⟩
     obtain ⟨b,hb,e1,e2⟩:=this.app
     exact ⟨b,(aQ ht.asr).2 (.inr ⟨hb,hno' b hb⟩),e1,e2⟩
    ·rcases (aQ ht.asr).1 hx with rfl | ⟨hx,_⟩
     ·have e : (1 : Int) = 2:=e
      omega
     ·exact ht.sd.one x hx e
theorem Gk {N : Nat} {s : State} (h : Inv N s) (i st : Int) (hst : st = 3 ∨ st = 4) : Gv (jC s i st) fun r => Inv N r.1:=by
 unfold jC
 rw [aT h.z,Gp]
 cases hn : appAt s i with
 | none => exact aa h
 | some a =>
  obtain ⟨ha,rfl⟩:=nJ hn
  have hak:=h.ak a ha
  simp only [Option.elim,Bool.not_true,cond_false]
  rw [hU,Gp,Gp]
  refine ae (fun _ => aa h) fun _ => ?_
  have hz : ∀ b : App,SSmall (pPutA s b):=by
   intro b
   refine ⟨h.z.n,?_,h.z.c,h.z.l,h.z.p⟩
   have:=(mb (id:=fun x : App => x.Id) (l:=s.Apps) (a:=b)).1
   have h2:=h.al
   show (putG _ _ _).length ≤ 100000
   omega
  rw [my h.z,Gp,zy (hz _),Gp]
  refine aa (h.reset ha rfl ⟨by dsimp only; omega,hak.user,hak.path,fun e => by dsimp only at e; omega,hak.mas,by simp,by simp,by simp,by simp,by simp,by simp,by simp⟩ (by dsimp only; omega))
theorem BS {N : Nat} {s : State} (h : Inv N s) (i st : Int) (hst : st = 3 ∨ st = 4) : Gv (gu s i st) fun r => Inv N r.1:=by
 unfold gu
 rw [aT h.z,Gp]
 refine ae (fun _ => aa h) fun _ => ?_
 rw [hU,Gp]
 refine ae (fun _ => aa h) fun _ => ?_
 exact ad (Gk h i st hst) fun r hr => aa hr
end Go.Fx.D
