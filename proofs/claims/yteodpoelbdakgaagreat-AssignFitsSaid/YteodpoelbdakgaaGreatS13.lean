/-
  The reference manager: what holds of its state after every script. Conditions: none.
-/
import Derived.Test.YteodpoelbdakgaaGreatS12
namespace Go.Fx.D
open Go Go.Fx
set_option linter.unusedVariables false
set_option linter.unusedSimpArgs false
theorem nR {l : List Ask} {p : Int} {x : Ask} (h : askAt l p = some x) : x ∈ l ∧ x.Prio = p:=jn h
theorem vQ {N : Nat} (hN : N ≤ 1000000) {s : State} (h : Inv N s) {n : Node} (hn : n ∈ s.Nodes) (hup : n.Up = true) (hc : s.Conts.length < 200) (hq : s.Seq < 1048575) (x : Slot) :
  Gv (bo s n x) fun r => if r.2.2.2 = true then Inv (N + 1) r.1 else Inv N r.1 ∧ (∀ y ∈ r.1.Slots,y.Node ≠ n.Id) ∧ r.1.Nodes = s.Nodes ∧ r.1.Conts = s.Conts ∧ r.1.Seq = s.Seq:=by
 have hrel : ∀ c : Cont,(fun r : State × Int × Cont × Bool => if r.2.2.2 = true then Inv (N + 1) r.1 else Inv N r.1 ∧ (∀ y ∈ r.1.Slots,y.Node ≠ n.Id) ∧ r.1.Nodes = s.Nodes ∧ r.1.Conts = s.Conts ∧ r.1.Seq = s.Seq) (pNoSlot s n.Id,0,c,false):=by
  intro c
  dsimp only
  rw [if_neg (by simp)]
  exact ⟨h.noSlot _,fun y hy => by have:=(List.mem_filter.1 hy).2; simpa using this,rfl,rfl,rfl⟩
 unfold bo
 rw [aT h.z,Gp]
 cases ha0 : appAt s x.App with
 | none =>
  simp only [Option.elim]
  rw [qg (by simp [noA]),Gp]
  simp only [Bool.not_false,cond_true,Gp]
  rw [jS h.z,Gp]
  exact aa (hrel _)
 | some a =>
  obtain ⟨ha,_⟩:=nJ ha0
  have hak:=h.ak a ha
  simp only [Option.elim]
  rw [qg (by have:=hak.al; omega),Gp]
  refine ad (P:=fun b => b = false → pLive a = true ∧ ∃ k ∈ a.Asks,askAt a.Asks x.Prio = some k) ?_ ?_
  ·refine ae (fun _ => aa (by simp)) fun _ => ?_
   rw [hU,Gp]
   refine ae (fun _ => aa (by simp)) fun hl => ?_
   have hl : pLive a = true:=by simpa using hl
   cases hk : askAt a.Asks x.Prio with
   | none => exact aa (by simp)
   | some k =>
    have hkm:=(nR hk).1
    have hkk:=hak.ask k hkm
    simp only [Option.elim,Bool.not_true,cond_false]
    rw [oW,Gp]
    refine ae (fun _ => aa (by simp)) fun _ => ?_
    rw [ce,Gp]
    refine ae (fun _ => aa (by simp)) fun _ => ?_
    rw [ri h.sc (h.leafLen ha) hkk.size.vb,Gp]
    refine ae (fun _ => aa (by simp)) fun _ => ?_
    rw [m8 h.sc (h.leafLen ha),Gp]
    exact aa fun _ => ⟨hl,k,hkm,rfl⟩
  ·intro b hb
   refine ae (fun _ => ?_) fun hbf => ?_
   ·rw [jS h.z,Gp]
    exact aa (hrel _)
   ·obtain ⟨hl,k,hkm,hk⟩:=hb hbf
    have hkk:=hak.ask k hkm
    rw [hk]
    simp only [Option.elim]
    refine ad (P:=fun q => q = false → vfits k.Size (pFree s n.Id) = true) ?_ fun q hq2 => ?_
    ·rw [oy h.sb,Gp,ce,Gp,ol h.sc (h.leafLen ha) n.Label hkk.size.vb]
     exact ae (fun _ => aa (by simp)) fun hf => aa fun _ => by simpa using hf
    ·refine ae (fun _ => aa ?_) fun hqf => ?_
     ·dsimp only
      rw [if_pos rfl]
      exact h.mono (by omega)
     ·rw [jS h.z,Gp]
      have hN':=h.noSlot n.Id
      rw [oG hN'.z hN'.sq n (by have:=hak.al; omega) (fun y hy => by have:=(hak.ask y hy).count; omega) (by have:=hak.gr; omega) k,Gp]
      refine aa ?_
      dsimp only
      rw [if_pos rfl]
      exact hN'.grant hn hup ha hl hkk (hq2 hqf) hc hq
theorem Ga {N : Nat} (hN : N ≤ 1000000) {s : State} (h : Inv N s) (i : Int) : Gv (a_ s i) fun r => Inv (N + 1) r.1:=by
 unfold a_
 rw [bR h.z,Gp]
 cases hn0 : cz s i with
 | none => exact aa (h.mono (by omega))
 | some n =>
  obtain ⟨hn,hid⟩:=lB hn0
  simp only [Option.elim,Bool.not_true,cond_false]
  refine ad (P:=fun b => b = false → n.Up = true ∧ s.Conts.length < 200 ∧ s.Seq < 1048575) ?_ ?_
  ·refine ae (fun _ => aa (by simp)) fun h0 => ae (fun _ => aa (by simp)) fun h1 => aa fun h2 => ?_
   simp only [decide_eq_false_iff_not] at h1 h2
   exact ⟨by simpa using h0,by omega,by omega⟩
  ·intro b hb
   refine ae (fun _ => aa (h.mono (by omega))) fun hbf => ?_
   obtain ⟨hup,hc,hq⟩:=hb hbf
   rw [r7 h.z,Gp]
   refine ad (P:=fun r => match r with
    | .inl p => Inv N p.1 ∧ (∀ y ∈ p.1.Slots,y.Node ≠ n.Id) ∧ n ∈ p.1.Nodes ∧ p.1.Conts.length < 200 ∧ p.1.Seq < 1048575
    | .inr q => Inv (N + 1) q.1) ?_ ?_
   ·cases hs : nV s i with
    | none =>
     simp only [Option.elim,cond_false]
     refine aa ⟨h,fun y hy e => ?_,hn,hc,hq⟩
     have:=l_ (id:=fun x : Slot => x.Node) hs y hy
     omega
    | some x =>
     simp only [Option.elim,cond_true]
     refine ad (vQ hN h hn hup hc hq x) ?_
     rintro r hr
     refine ae (fun hb => aa ?_) fun hb => aa ?_
     ·rw [if_pos hb] at hr
      exact hr
     ·rw [if_neg (by simp [hb])] at hr
      exact ⟨hr.1,hr.2.1,by rw [hr.2.2.1]; exact hn,by rw [hr.2.2.2.1]; exact hc,by rw [hr.2.2.2.2]; exact hq⟩
   ·rintro (p | q) hr
    ·obtain ⟨r1,r2,r3,r4,r5⟩:=hr
     refine ad (qy hN r1 r3 hup r2 r4 r5 true) ?_
     rintro ⟨t,k,c⟩ ⟨q0,q1⟩
     dsimp only at q0 q1 ⊢
     refine ae (fun hz => aa (q1 (by simpa using hz)).1) fun hz => ?_
     obtain ⟨u1,u2⟩:=q0 (by simpa using hz)
     refine ad (qy hN u1 (by rw [u2.nd]; exact r3) hup (by rw [u2.sl]; exact r2) (by rw [u2.cs]; exact r4) (by rw [u2.sq]; exact r5) false) ?_
     rintro ⟨t',k',c'⟩ ⟨w0,w1⟩
     refine aa ?_
     dsimp only at w0 w1 ⊢
     by_cases hk : k' = 0
     ·exact (w0 hk).1.mono (by omega)
     ·exact (w1 hk).1
    ·exact aa hr
theorem Cq {N : Nat} (hN : N ≤ 900000) {s : State} (h : Inv N s) (i : Int) : Gv (jd s i) fun r => Inv (N + 3) r.1 ∧ r.2.length ≤ 3:=by
 unfold jd
 refine ad (P:=fun r => Inv (N + 3) r.1 ∧ r.2.length ≤ 3) ?_ fun r hr => aa hr
 refine av (fun (p : State × List Cont) i => (p.1,p.2,i)) 3 (fun k p => Inv (N + k) p.1 ∧ p.2.length ≤ k) (step:=fC i) (by omega) ?_ ?_ (s:=(s,[])) ⟨h,by simp⟩
 ·rintro k hk p ⟨hp,hl⟩
  unfold fC
  dsimp only
  rw [show decide ((k : Int) < 3) = true from decide_eq_true (by omega),cond_true]
  refine ad (Ga (by omega) hp i) ?_
  rintro ⟨t,kd,c⟩ hr
  dsimp only at hr ⊢
  refine ae (fun _ => aa (.inr ⟨_,rfl,hr.mono (by omega),by dsimp only; omega⟩)) fun _ => ?_
  rw [am (by simp; omega) (by omega),Gp]
  exact aa (.inl ⟨(t,p.2 ++ [c]),rfl,hr,by simp; omega⟩)
 ·rintro p ⟨hp,hl⟩
  unfold fC
  dsimp only
  exact aa ⟨_,rfl,hp,hl⟩
theorem EM {N : Nat} (hN : N ≤ 800000) {s : State} (h : Inv N s) (x : Input) (hx : x.Ids.length ≤ 1000) : Gv (ja s x) fun r => Inv (N + 1003) r.1:=by
 unfold ja
 rw [bR h.z,Gp]
 refine ad (P:=fun _ => True) ?_ fun q _ => ?_
 ·repeat' (first | exact ⟨_,rfl,trivial⟩ | refine ae (fun _ => ?_) (fun _ => ?_))
 refine ae (fun _ => ?_) fun _ => ?_
 ·rw [AO h.z,Gp]
  exact aa (h.mono (by omega))
 refine ad (Dp h _ _) fun r hr => ?_
 refine ae (fun _ => aa (h.mono (Nat.le_add_right _ _))) fun _ => ?_
 refine ad (P:=fun l => l.length ≤ x.Ids.length) ?_ fun ids hids => ?_
 ·refine av (fun (l : List Int) i => (l,i)) x.Ids.length (fun k l => l.length ≤ k) (step:=fN x r) (by omega) ?_ ?_ (s:=[]) (by simp)
  ·intro k hk l hl
   unfold fN
   dsimp only
   rw [ah hk,cond_true]
   refine ad (P:=fun m => m.length ≤ k + 1) ?_ fun m hm => aa (.inl ⟨m,rfl,hm⟩)
   rw [ai hk,Gp,kv hr.z,Gp]
   refine ad (P:=fun _ => True) ?_ fun q _ => ?_
   ·repeat' (first | exact ⟨_,rfl,trivial⟩ | refine ae (fun _ => ?_) (fun _ => ?_))
   refine ae (fun _ => ?_) fun _ => aa (by omega)
   rw [am (by simp; omega) (by omega),Gp]
   exact aa (by simp; omega)
  ·intro l hl
   unfold fN
   rw [ao]
   exact aa ⟨l,rfl,hl⟩
 refine ad (uQ hr (ids:=ids) (by omega)) fun t ht => ?_
 refine ad (Cq (by omega) ht x.Id) fun u hu => ?_
 rw [AO hu.1.z,Gp]
 exact aa (hu.1.mono (by omega))
theorem Bp (x : Ask) (c : Conf) : Gv (jc x (c.Labels.length : Int)) fun e => e = 0 → (0 ≤ x.Label ∧ x.Label < c.Labels.length) ∧ SzOk x.Size ∧ 0 ≤ x.Count ∧ x.Count ≤ 50:=by
 have p9 : ∀ n : Int,jt n = some (decide (1 ≤ n) && decide (n ≤ 1073741824)):=fun n => rS n
 unfold jc
 refine ad (P:=fun b => b = false → (0 ≤ x.Label ∧ x.Label < c.Labels.length) ∧ SzOk x.Size) ?_ ?_
 ·refine ae (fun _ => aa (by simp)) fun _ => ae (fun _ => aa (by simp)) fun _ => ae (fun _ => aa (by simp)) fun h1 => ae (fun _ => aa (by simp)) fun h2 => ?_
  rw [p9,Gp]
  refine ae (fun _ => aa (by simp)) fun h3 => ?_
  rw [p9,Gp]
  refine ae (fun _ => aa (by simp)) fun h4 => ?_
  simp only [decide_eq_false_iff_not,Bool.not_eq_false',Bool.and_eq_true,decide_eq_true_eq] at h1 h2 h3 h4
  refine oj (P:=fun _ => True) ?_ fun b _ _ => ⟨by omega,h3,h4⟩
  repeat' (first | exact ⟨_,rfl,trivial⟩ | refine ae (fun _ => ?_) (fun _ => ?_))
 ·intro b hb
  refine ae (fun _ => aa (by simp)) fun hbf => ?_
  obtain ⟨h1,h2⟩:=hb hbf
  refine ad (P:=fun b => b = false → 0 ≤ x.Count ∧ x.Count ≤ 50) ?_ ?_
  ·refine ae (fun _ => aa (by simp)) fun h3 => aa fun h4 => ?_
   simp only [decide_eq_false_iff_not] at h3 h4
   omega
  ·intro b2 hb2
   refine ae (fun _ => aa (by simp)) fun hf => aa fun _ => ⟨h1,h2,hb2 hf⟩
theorem Gi {c : Conf} {l : List Ask} (hl : l.length ≤ 1000) (hk : ∀ x ∈ l,AskOk c x) (hs : l.Pairwise fun x y => x.Prio < y.Prio) {a : Ask} (h1 : 0 ≤ a.Label ∧ a.Label < c.Labels.length) (h2 : SzOk a.Size) (h3 : 0 ≤ a.Count ∧ a.Count ≤ 50) :
  Gv (j1 l a) fun r => r.1.length ≤ 8 ∧ (∀ x ∈ r.1,AskOk c x) ∧ r.1.Pairwise fun x y => x.Prio < y.Prio:=by
 have hnew : a.Count ≠ 0 → AskOk c ⟨a.Prio,a.Label,⟨a.Size.Mem,a.Size.Cores⟩,a.Count,a.Node,a.Rack,0⟩:=fun hc => ⟨h1,h2,by dsimp only; omega⟩
 unfold j1
 refine ad (P:=fun t => t.1.length ≤ 2 * l.length ∧ (∀ x ∈ t.1,AskOk c x) ∧ (t.2 = false → a.Count ≠ 0) ∧ t.1.Pairwise (fun x y => x.Prio < y.Prio) ∧ (t.2 = false → ∀ x ∈ t.1,x.Prio < a.Prio)) ?_ ?_
 ·refine av (fun (t : List Ask × Bool) i => (t.1,t.2,i)) l.length (fun k t => t.1.length ≤ 2 * k ∧ (∀ x ∈ t.1,AskOk c x) ∧ (t.2 = false → a.Count ≠ 0) ∧ t.1.Pairwise (fun x y => x.Prio < y.Prio) ∧ (t.2 = false → ∀ x ∈ t.1,x.Prio < a.Prio) ∧ ∀ x ∈ t.1,∀ y ∈ l.drop k,x.Prio < y.Prio) (step:=iH l a) (by omega) ?_ ?_ (s:=([],a.Count == 0)) ⟨by simp,by simp,by simp,by simp,by simp,by simp⟩
  ·rintro k hkk ⟨m,d⟩ ⟨q1,q2,q3,q4,q5,q6⟩
   dsimp only at q1 q2 q3 q4 q5 q6 ⊢
   have hd:=List.drop_eq_getElem_cons hkk
   have hsd : (l[k] :: l.drop (k + 1)).Pairwise fun x y => x.Prio < y.Prio:=by rw [← hd]; exact hs.sublist (List.drop_sublist k l)
   have hafter:=(List.pairwise_cons.1 hsd).1
   unfold iH
   dsimp only
   rw [ah hkk,cond_true]
   refine ad (P:=fun t => t.1.length ≤ 2 * (k + 1) ∧ (∀ x ∈ t.1,AskOk c x) ∧ (t.2 = false → a.Count ≠ 0) ∧ t.1.Pairwise (fun x y => x.Prio < y.Prio) ∧ (t.2 = false → ∀ x ∈ t.1,x.Prio < a.Prio) ∧ ∀ x ∈ t.1,∀ y ∈ l.drop (k + 1),x.Prio < y.Prio) ?_ fun t ht => aa (.inl ⟨t,rfl,ht⟩)
   refine ad (P:=fun t => t.1.length ≤ 2 * k + 1 ∧ (∀ x ∈ t.1,AskOk c x) ∧ (t.2 = false → a.Count ≠ 0) ∧ t.1.Pairwise (fun x y => x.Prio < y.Prio) ∧ (t.2 = false → (∀ x ∈ t.1,x.Prio < a.Prio) ∧ l[k].Prio ≤ a.Prio) ∧ ∀ x ∈ t.1,∀ y ∈ l.drop k,x.Prio < y.Prio) ?_ ?_
   ·refine ad (P:=fun b => (b = true → d = false ∧ a.Prio < l[k].Prio) ∧ (b = false → d = false → l[k].Prio ≤ a.Prio)) ?_ ?_
    ·refine ae (fun hd => ?_) fun hd => aa ⟨by simp,fun _ e => by rw [e] at hd; simp at hd⟩
     rw [ai hkk,Gp]
     refine aa ⟨fun e => ⟨by simpa using hd,by simpa using e⟩,fun e _ => ?_⟩
     simp only [gt_iff_lt,decide_eq_false_iff_not] at e
     omega
    ·intro b hb
     refine ae (fun hbt => ?_) fun hbf => aa ⟨by dsimp only; omega,q2,q3,q4,fun e => ⟨q5 e,hb.2 hbf e⟩,q6⟩
     obtain ⟨hdf,hlt⟩:=hb.1 hbt
     rw [am (by simp; omega) (by omega),Gp]
     refine aa ⟨by simp; omega,fun x hx => ?_,by simp,?_,by simp,?_⟩
     ·rcases List.mem_append.1 hx with hx | hx
      ·exact q2 x hx
      ·rw [Gt] at hx
       subst hx
       exact hnew (q3 hdf)
     ·refine List.pairwise_append.2 ⟨q4,by simp,fun x hx y hy => ?_⟩
      rw [Gt] at hy
      subst hy
      exact q5 hdf x hx
     ·intro x hx y hy
      rcases List.mem_append.1 hx with hx | hx
      ·exact q6 x hx y hy
      ·rw [Gt] at hx
       subst hx
       rw [hd] at hy
       rcases List.mem_cons.1 hy with rfl | hy
       ·exact hlt
       ·exact Int.lt_trans hlt (hafter y hy)
   ·rintro ⟨m2,d2⟩ ⟨p1,p2,p3,p4,p5,p6⟩
    dsimp only at p1 p2 p3 p4 p5 p6 ⊢
    have p6' : ∀ x ∈ m2,∀ y ∈ l.drop (k + 1),x.Prio < y.Prio:=fun x hx y hy => p6 x hx y (by rw [hd]; exact List.mem_cons_of_mem _ hy)
    rw [ai hkk,Gp]
    refine ae (fun hne => ?_) fun _ => aa ⟨by dsimp only; omega,p2,p3,p4,fun e => (p5 e).1,p6'⟩
    have hne : l[k].Prio ≠ a.Prio:=by simpa using hne
    rw [Gp,am (by simp; omega) (by omega),Gp]
    refine aa ⟨by simp; omega,fun x hx => ?_,p3,?_,?_,?_⟩
    ·rcases List.mem_append.1 hx with hx | hx
     ·exact p2 x hx
     ·rw [Gt] at hx
      subst hx
      exact hk _ (List.getElem_mem hkk)
    ·refine List.pairwise_append.2 ⟨p4,by simp,fun x hx y hy => ?_⟩
     rw [Gt] at hy
     subst hy
     exact p6 x hx _ (by rw [hd]; exact List.mem_cons_self)
    ·intro e x hx
     rcases List.mem_append.1 hx with hx | hx
     ·exact (p5 e).1 x hx
     ·rw [Gt] at hx
      subst hx
      have:=(p5 e).2
      omega
    ·intro x hx y hy
     rcases List.mem_append.1 hx with hx | hx
     ·exact p6' x hx y hy
     ·rw [Gt] at hx
      subst hx
      exact hafter y hy
  ·rintro t ⟨r1,r2,r3,r4,r5,r6⟩
   unfold iH
   dsimp only
   rw [ao,cond_false]
   exact aa ⟨t,rfl,r1,r2,r3,r4,r5⟩
 ·rintro ⟨m,d⟩ ⟨q1,q2,q3,q4,q5⟩
  dsimp only at q1 q2 q3 q4 q5 ⊢
  refine ad (P:=fun m => (∀ x ∈ m,AskOk c x) ∧ m.Pairwise fun x y => x.Prio < y.Prio) ?_ ?_
  ·refine ae (fun hd => ?_) fun _ => aa ⟨q2,q4⟩
   have hdf : d = false:=by simpa using hd
   rw [am (by simp; omega) (by omega),Gp]
   refine aa ⟨fun x hx => ?_,?_⟩
   ·rcases List.mem_append.1 hx with hx | hx
    ·exact q2 x hx
    ·rw [Gt] at hx
     subst hx
     exact hnew (q3 hdf)
   ·refine List.pairwise_append.2 ⟨q4,by simp,fun x hx y hy => ?_⟩
    rw [Gt] at hy
    subst hy
    exact q5 hdf x hx
  ·intro m2 hm2
   refine ae (fun _ => aa ⟨by simp,by simp,by simp⟩) fun hlen => aa ⟨?_,hm2.1,hm2.2⟩
   simp only [decide_eq_false_iff_not] at hlen
   dsimp only
   omega
theorem Eu {s : State} {l : List Ask} (hl : l.length ≤ 8) (hk : ∀ x ∈ l,AskOk s.Conf x) (hs : l.Pairwise fun x y => x.Prio < y.Prio) {more : List Ask} (hm : more.length ≤ 1000) : Gv (ir s l more) fun r => r.1.length ≤ 8 ∧ (∀ x ∈ r.1,AskOk s.Conf x) ∧ r.1.Pairwise fun x y => x.Prio < y.Prio:=by
 unfold ir
 refine ad (P:=fun r => match r with | .inl q => q.1.length ≤ 8 ∧ (∀ x ∈ q.1,AskOk s.Conf x) ∧ q.1.Pairwise (fun x y => x.Prio < y.Prio) | .inr q => q.length ≤ 8 ∧ (∀ x ∈ q,AskOk s.Conf x) ∧ q.Pairwise fun x y => x.Prio < y.Prio) ?_ ?_
 ·refine av (fun (l : List Ask) i => (l,i)) more.length (fun _ l => l.length ≤ 8 ∧ (∀ x ∈ l,AskOk s.Conf x) ∧ l.Pairwise fun x y => x.Prio < y.Prio) (step:=eH s more) (by omega) ?_ ?_ (s:=l) ⟨hl,hk,hs⟩
  ·rintro k hkk l ⟨q1,q2,q3⟩
   unfold eH
   dsimp only
   rw [ah hkk,cond_true,ai hkk,Gp]
   refine ad (Bp more[k] s.Conf) fun e he => ?_
   refine ae (fun _ => aa (.inr ⟨_,rfl,by simp⟩)) fun he0 => ?_
   obtain ⟨c1,c2,c3⟩:=he (by simpa using he0)
   rw [Gp]
   refine ad (Gi (by omega) q2 q3 c1 c2 c3) fun r hr => ?_
   refine ae (fun _ => aa (.inr ⟨_,rfl,by simp⟩)) fun _ => aa (.inl ⟨r.1,rfl,hr⟩)
  ·intro l hl
   unfold eH
   rw [ao]
   exact aa ⟨.inr l,rfl,hl⟩
 ·rintro (q | q) hq
  ·exact aa hq
  ·exact aa hq
theorem xZ {s : State} (h : SSmall s) {ids : List Int} (hi : ids.length ≤ 1000000) : Gv (ee s ids) fun _ => True:=by
 unfold ee
 refine ad (P:=fun _ => True) ?_ fun _ _ => aa trivial
 refine av (fun (l : List Cont) i => (l,i)) ids.length (fun k l => l.length ≤ k) (step:=eQ s ids) (by omega) ?_ ?_ (s:=[]) (by simp)
 ·intro k hk l hl
  unfold eQ
  dsimp only
  rw [ah hk,cond_true,ai hk,Gp,kv h,Gp]
  refine ad (P:=fun m => m.length ≤ k + 1) ?_ fun m hm => aa (.inl ⟨m,rfl,hm⟩)
  refine ae (fun _ => ?_) fun _ => aa (by omega)
  rw [am (by simp; omega) (by omega),Gp]
  exact aa (by simp; omega)
 ·intro l hl
  unfold eQ
  rw [ao]
  exact aa ⟨l,rfl,trivial⟩
theorem uc {s : State} (h : SSmall s) (i : Int) : Gv (cH s i) fun _ => True:=by
 have hn:=h.c
 unfold cH
 refine ad (P:=fun _ => True) ?_ fun _ _ => aa trivial
 refine av (fun (l : List Int) i => (l,i)) s.Conts.length (fun k l => l.length ≤ k) (step:=c_ s i) (by omega) ?_ ?_ (s:=[]) (by simp)
 ·intro k hk l hl
  unfold c_
  dsimp only
  rw [ah hk,cond_true,ai hk,Gp,Gp]
  refine ad (P:=fun m => m.length ≤ k + 1) ?_ fun m hm => aa (.inl ⟨m,rfl,hm⟩)
  refine ad (P:=fun _ => True) ?_ fun q _ => ?_
  ·repeat' (first | exact ⟨_,rfl,trivial⟩ | refine ae (fun _ => ?_) (fun _ => ?_))
  refine ae (fun _ => ?_) fun _ => aa (by omega)
  rw [Gp,am (by simp; omega) (by omega),Gp]
  exact aa (by simp; omega)
 ·intro l hl
  unfold c_
  rw [ao]
  exact aa ⟨l,rfl,trivial⟩
theorem BU {N : Nat} (hN : N ≤ 900000) {s : State} (h : Inv N s) (x : Input) (hi : x.Ids.length ≤ 1000) (hx : x.Asks.length ≤ 1000) : Gv (gZ s x) fun r => Inv N r.1:=by
 unfold gZ
 rw [aT h.z,Gp]
 cases ha0 : appAt s x.Id with
 | none => exact aa h
 | some a =>
  obtain ⟨ha,_⟩:=nJ ha0
  have hak:=h.ak a ha
  simp only [Option.elim,Bool.not_true,cond_false]
  refine ae (fun _ => aa h) fun hst => ae (fun _ => aa h) fun _ => ae (fun _ => ?_) fun _ => ae (fun _ => aa h) fun _ => ?_
  ·refine ad (xZ h.z (by have:=hak.to; omega)) fun _ _ => ad (uc h.z _) fun _ _ => ?_
   rw [am (by have:=hak.lo; simp; omega) (by omega),Gp]
   exact aa h
  ·have hst : a.State = 2:=by simpa using hst
   refine ad (Eu hak.al hak.ask hak.ap hx) fun r hr => ?_
   refine ae (fun _ => aa h) fun _ => ?_
   refine ad (P:=fun t => Inv N t.1 ∧ t.1.Conf = s.Conf ∧ t.1.Apps = s.Apps ∧ AppOk N s.Conf t.2 ∧ t.2.Id = a.Id ∧ t.2.State = 2) ?_ ?_
   ·refine av (fun (t : State × App) i => (t.1,t.2,i)) x.Ids.length (fun _ t => Inv N t.1 ∧ t.1.Conf = s.Conf ∧ t.1.Apps = s.Apps ∧ AppOk N s.Conf t.2 ∧ t.2.Id = a.Id ∧ t.2.State = 2) (step:=dL x) (by omega) ?_ ?_ (s:=(s,a)) ⟨h,rfl,rfl,hak,rfl,hst⟩
    ·rintro k hk ⟨t,b⟩ ⟨q1,q2,q3,q4,q5,q6⟩
     dsimp only at q1 q2 q3 q4 q5 q6 ⊢
     unfold dL
     dsimp only
     rw [ah hk,cond_true]
     refine ad (P:=fun t => Inv N t.1 ∧ t.1.Conf = s.Conf ∧ t.1.Apps = s.Apps ∧ AppOk N s.Conf t.2 ∧ t.2.Id = a.Id ∧ t.2.State = 2) ?_ fun t ht => aa (.inl ⟨t,rfl,ht⟩)
     rw [ai hk,Gp,kv q1.z,Gp]
     refine ad (P:=fun q => q = true → ∀ c ∈ t.Conts,c.Id = ((oY t x.Ids[k]).elim (noC,false) fun x => (x,true)).1.Id → c.Master = false) ?_ fun q hqq => ?_
     ·cases hct : oY t x.Ids[k] with
      | none => exact ae (fun e => by cases e) fun _ => aa (by simp)
      | some d =>
       refine ae (fun _ => ae (fun _ => aa fun e c hc e2 => ?_) fun _ => aa (by simp)) fun _ => aa (by simp)
       have:=jV (id:=fun x : Cont => x.Id) q1.cs hc (tD hct).1 e2
       subst this
       simpa using e
     refine ae (fun hqt => ?_) fun _ => aa ⟨q1,q2,q3,q4,q5,q6⟩
     rw [yF q1.z,Gp,tF (by have:=q4.gr; omega),Gp]
     refine aa ⟨q1.away _ (hqq hqt),q2,q3,⟨q4.st,q4.user,q4.path,q4.leaf,q4.mas,q4.al,q4.ask,Nat.le_trans (List.length_filter_le _ _) q4.gr,q4.ki,q4.to,q4.lo,q4.ap⟩,q5,q6⟩
    ·intro t ht
     unfold dL
     dsimp only
     rw [ao,cond_false]
     exact aa ⟨t,rfl,ht⟩
   ·rintro ⟨t,b⟩ ⟨q1,q2,q3,q4,q5,q6⟩
    dsimp only at q1 q2 q3 q4 q5 q6 ⊢
    refine ad (xZ q1.z (by have:=q4.gr; omega)) fun _ _ => ad (uc q1.z _) fun _ _ => ?_
    rw [am (by have:=q4.ki; simp; omega) (by omega),Gp,my q1.z,Gp]
    refine aa (q1.putA ⟨a,by rw [q3]; exact ha,q5.symm,fun _ => hst⟩ ?_ (.inl q6))
    rw [q2]
    exact ⟨q4.st,q4.user,q4.path,q4.leaf,q4.mas,hr.1,hr.2.1,by simp,by simp,q4.gr,q4.ki,hr.2.2⟩
theorem B4 {N : Nat} {s : State} (h : Inv N s) (text : Str) : Gv (gJ s text) fun r => Inv N r.1:=by
 unfold gJ
 refine ad (DJ text) ?_
 rintro ⟨c,e0⟩ ⟨hc,hcl⟩
 dsimp only at hc hcl ⊢
 refine ad (P:=fun e => e = 0 → ConfOk c ∧ aZ c = some 0) ?_ ?_
 ·refine ae (fun _ => ?_) fun he => aa fun e => ?_
  ·refine ad (P:=fun e => e = 0 → ConfOk c ∧ aZ c = some 0) ?_ fun e he => aa he
   obtain ⟨e,e1,e2⟩:=ED hc hcl
   exact ⟨e,e1,fun e3 => ⟨e2 e3,by rw [e1,e3]⟩⟩
  ·subst e; simp at he
 ·intro e he
  refine ae (fun _ => aa h) fun he0 => ?_
  obtain ⟨hcf,hchk⟩:=he (by simpa using he0)
  refine ae (fun _ => aa h) fun hlen => ?_
  simp only [decide_eq_false_iff_not] at hlen
  have hlb:=h.cf.lab
  refine ad (P:=fun r => match r with | .inl q => Inv N q.1 | .inr _ => True) ?_ ?_
  ·refine av (fun (t : State × Output) i => (t.1,t.2,i)) s.Conf.Labels.length (fun _ _ => True) (step:=dP s (c,e0)) (by omega) ?_ ?_ (s:=((⟨⟨[],[]⟩,[],[],[],[],[],0,0,0⟩ : State),(⟨0,[],[],[],0⟩ : Output))) trivial
   ·intro k hk t _
    unfold dP
    dsimp only
    have hk2 : k < c.Labels.length:=by omega
    rw [ah hk,cond_true,ay hk2,Gp,Gq hk2,Gp,ai hk,Gp]
    refine ae (fun _ => aa (.inr ⟨_,rfl,h⟩)) fun _ => aa (.inl ⟨t,rfl,trivial⟩)
   ·intro t _
    unfold dP
    dsimp only
    rw [ao,cond_false]
    exact aa ⟨_,rfl,trivial⟩
  ·rintro (q | q) hq
   ·exact aa hq
   ·have hal:=h.al
    refine ad (P:=fun r => match r with | .inl q => Inv N q.1 | .inr _ => ∀ a ∈ s.Apps,pLive a = true → pLeaf c a.Queue = true) ?_ ?_
    ·refine av (fun (t : State × Output) i => (t.1,t.2,i)) s.Apps.length (fun k _ => ∀ j (hj : j < s.Apps.length),j < k → pLive s.Apps[j] = true → pLeaf c s.Apps[j].Queue = true) (step:=dZ s (c,e0)) (by omega) ?_ ?_ (s:=q) (by intro j hj h; omega)
     ·intro k hk t ht
      unfold dZ
      dsimp only
      rw [ah hk,cond_true]
      refine ad (P:=fun b => b = false → pLive s.Apps[k] = true → pLeaf c s.Apps[k].Queue = true) ?_ ?_
      ·rw [ai hk,Gp,hU,Gp]
       refine ae (fun _ => ?_) fun hf => aa fun _ ht => by rw [hf] at ht; cases ht
       rw [Gp,pP hc,Gp]
       exact aa fun hb _ => by simpa using hb
      ·intro b hb
       refine ae (fun _ => aa (.inr ⟨_,rfl,h⟩)) fun hbf => aa (.inl ⟨t,rfl,fun j hj hjk => ?_⟩)
       by_cases e : j = k
       ·subst e; exact hb hbf
       ·exact ht j hj (by omega)
     ·intro t ht
      unfold dZ
      dsimp only
      rw [ao,cond_false]
      refine aa ⟨.inr t,rfl,fun a ha hl => ?_⟩
      obtain ⟨j,hj,rfl⟩:=List.getElem_of_mem ha
      exact ht j hj hj hl
    ·rintro (q2 | q2) hq2
     ·exact aa hq2
     ·refine aa ?_
      have hll : (s.Conf.Labels.length : Int) ≤ c.Labels.length:=by omega
      have hask : ∀ x : Ask,AskOk s.Conf x → AskOk c x:=fun x hx => ⟨by have:=hx.label; omega,hx.size,hx.count⟩
      refine ⟨hcf,h.nl,h.ns,fun n hn => ?_,h.al,h.asr,fun a ha => ?_,h.cl,h.cs,fun k hk => ?_,h.ss,h.sk,h.pl,h.ps,h.pk,h.now,h.ep,h.sq,h.en,hchk,h.sd.nod,h.sd.slt,h.sd.ntc,h.sd.fit,h.sd.one⟩
      ·have:=h.nk n hn
       exact ⟨this.1,this.2.1,by show n.Label < (c.Labels.length : Int); omega⟩
      ·have hak:=h.ak a ha
       refine ⟨hak.st,hak.user,hak.path,fun e => hq2 a ha (by unfold pLive; simpa using e),hak.mas,hak.al,fun x hx => hask x (hak.ask x hx),hak.gr,hak.ki,hak.to,hak.lo,hak.ap⟩
      ·have:=h.ck k hk
       exact ⟨this.size,this.app,by have:=this.label; show 0 ≤ k.Label ∧ k.Label < (c.Labels.length : Int); omega,this.id⟩
end Go.Fx.D
