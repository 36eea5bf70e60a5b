/-
  The reference manager: what holds of its state after every script. Conditions: none.
-/
import Derived.Test.YtmpaebhomokjmaaGreatS12
namespace Go.Fx.D
open Go Go.Fx
set_option linter.unusedVariables false
set_option linter.unusedSimpArgs false
theorem DI {l : List Ask} {p : Int} {x : Ask} (h : askAt l p = some x) : x ∈ l ∧ x.Prio = p:=nV h
theorem EJ {N : Nat} (hN : N ≤ 1000000) {s : State} (h : Inv N s) {n : Node} (hn : n ∈ s.Nodes) (hc : s.Conts.length < 200) (hq : s.Seq < 1048575) (x : Slot) :
  Gv (jB s n x) fun r => if r.2.2.2 = true then Inv (N + 1) r.1 else Inv N r.1 ∧ (∀ y ∈ r.1.Slots,y.Node ≠ n.Id) ∧ r.1.Nodes = s.Nodes ∧ r.1.Conts = s.Conts ∧ r.1.Seq = s.Seq:=by
 have hrel : ∀ c : Cont,(fun r : State × Int × Cont × Bool => if r.2.2.2 = true then Inv (N + 1) r.1 else Inv N r.1 ∧ (∀ y ∈ r.1.Slots,y.Node ≠ n.Id) ∧ r.1.Nodes = s.Nodes ∧ r.1.Conts = s.Conts ∧ r.1.Seq = s.Seq) (pNoSlot s n.Id,0,c,false):=by
  intro c
  dsimp only
  rw [if_neg (by simp)]
  exact ⟨h.noSlot _,fun y hy => by have:=(List.mem_filter.1 hy).2; simpa using this,rfl,rfl,rfl⟩
 unfold jB
 rw [dV h.z,Jw]
 cases ha0 : appAt s x.App with
 | none =>
  simp only [Option.elim]
  rw [Ea (by simp [noA]),Jw]
  simp only [Bool.not_false,cond_true,Jw]
  rw [r9 h.z,Jw]
  exact aa (hrel _)
 | some a =>
  obtain ⟨ha,_⟩:=uQ ha0
  have hak:=h.ak a ha
  simp only [Option.elim]
  rw [Ea (by have:=hak.al; omega),Jw]
  refine ad (P:=fun b => b = false → pLive a = true ∧ ∃ k ∈ a.Asks,askAt a.Asks x.Prio = some k) ?_ ?_
  ·refine ae (fun _ => aa (by simp)) fun _ => ?_
   rw [lT,Jw]
   refine ae (fun _ => aa (by simp)) fun hl => ?_
   have hl : pLive a = true:=by simpa using hl
   cases hk : askAt a.Asks x.Prio with
   | none => exact aa (by simp)
   | some k =>
    have hkm:=(DI hk).1
    have hkk:=hak.ask k hkm
    simp only [Option.elim,Bool.not_true,cond_false]
    rw [EW,Jw]
    refine ae (fun _ => aa (by simp)) fun _ => ?_
    rw [lV,Jw]
    refine ae (fun _ => aa (by simp)) fun _ => ?_
    rw [EO h.sc (h.leafLen ha) hkk.size.vb,Jw]
    refine ae (fun _ => aa (by simp)) fun _ => ?_
    rw [Cj h.sc (h.leafLen ha),Jw]
    exact aa fun _ => ⟨hl,k,hkm,rfl⟩
  ·intro b hb
   refine ae (fun _ => ?_) fun hbf => ?_
   ·rw [r9 h.z,Jw]
    exact aa (hrel _)
   ·obtain ⟨hl,k,hkm,hk⟩:=hb hbf
    have hkk:=hak.ask k hkm
    rw [hk]
    simp only [Option.elim]
    refine ad (P:=fun _ => True) ?_ fun q _ => ?_
    ·rw [Cx h.sb,Jw,lV,Jw,B3 h.sc (h.leafLen ha) n.Label hkk.size.vb]
     repeat' (first | exact ⟨_,rfl,trivial⟩ | refine ae (fun _ => ?_) (fun _ => ?_))
    ·refine ae (fun _ => aa ?_) fun _ => ?_
     ·dsimp only
      rw [if_pos rfl]
      exact h.mono (by omega)
     ·rw [r9 h.z,Jw]
      have hN':=h.noSlot n.Id
      rw [An hN'.z hN'.sq n (by have:=hak.al; omega) (fun y hy => by have:=(hak.ask y hy).count; omega) (by have:=hak.gr; omega) k,Jw]
      refine aa ?_
      dsimp only
      rw [if_pos rfl]
      exact hN'.grant hn ha hl hkk hc hq
theorem I1 {N : Nat} (hN : N ≤ 1000000) {s : State} (h : Inv N s) (i : Int) : Gv (kG s i) fun r => Inv (N + 1) r.1:=by
 unfold kG
 rw [lU h.z,Jw]
 cases hn0 : oX s i with
 | none => exact aa (h.mono (by omega))
 | some n =>
  obtain ⟨hn,hid⟩:=qI hn0
  simp only [Option.elim,Bool.not_true,cond_false]
  refine ad (P:=fun b => b = false → s.Conts.length < 200 ∧ s.Seq < 1048575) ?_ ?_
  ·refine ae (fun _ => aa (by simp)) fun _ => ae (fun _ => aa (by simp)) fun h1 => aa fun h2 => ?_
   simp only [decide_eq_false_iff_not] at h1 h2
   omega
  ·intro b hb
   refine ae (fun _ => aa (h.mono (by omega))) fun hbf => ?_
   obtain ⟨hc,hq⟩:=hb hbf
   rw [IK h.z,Jw]
   refine ad (P:=fun r => match r with
    | .inl p => Inv N p.1 ∧ (∀ y ∈ p.1.Slots,y.Node ≠ n.Id) ∧ n ∈ p.1.Nodes ∧ p.1.Conts.length < 200 ∧ p.1.Seq < 1048575
    | .inr q => Inv (N + 1) q.1) ?_ ?_
   ·cases hs : z3 s i with
    | none =>
     simp only [Option.elim,cond_false]
     refine aa ⟨h,fun y hy e => ?_,hn,hc,hq⟩
     have:=zS (id:=fun x : Slot => x.Node) hs y hy
     omega
    | some x =>
     simp only [Option.elim,cond_true]
     refine ad (EJ hN h hn hc hq x) ?_
     rintro r hr
     refine ae (fun hb => aa ?_) fun hb => aa ?_
     ·rw [if_pos hb] at hr
      exact hr
     ·rw [if_neg (by simp [hb])] at hr
      exact ⟨hr.1,hr.2.1,by rw [hr.2.2.1]; exact hn,by rw [hr.2.2.2.1]; exact hc,by rw [hr.2.2.2.2]; exact hq⟩
   ·rintro (p | q) hr
    ·obtain ⟨r1,r2,r3,r4,r5⟩:=hr
     refine ad (zI hN r1 r3 r2 r4 r5 true) ?_
     rintro ⟨t,k,c⟩ ⟨q0,q1⟩
     dsimp only at q0 q1 ⊢
     refine ae (fun hz => aa (q1 (by simpa using hz)).1) fun hz => ?_
     obtain ⟨u1,u2⟩:=q0 (by simpa using hz)
     refine ad (zI hN u1 (by rw [u2.nd]; exact r3) (by rw [u2.sl]; exact r2) (by rw [u2.cs]; exact r4) (by rw [u2.sq]; exact r5) false) ?_
     rintro ⟨t',k',c'⟩ ⟨w0,w1⟩
     refine aa ?_
     dsimp only at w0 w1 ⊢
     by_cases hk : k' = 0
     ·exact (w0 hk).1.mono (by omega)
     ·exact (w1 hk).1
    ·exact aa hr
theorem Ei {N : Nat} (hN : N ≤ 900000) {s : State} (h : Inv N s) (i : Int) : Gv (jD s i) fun r => Inv (N + 3) r.1 ∧ r.2.length ≤ 3:=by
 unfold jD
 refine ad (P:=fun r => Inv (N + 3) r.1 ∧ r.2.length ≤ 3) ?_ fun r hr => aa hr
 refine aG (fun (p : State × List Cont) i => (p.1,p.2,i)) 3 (fun k p => Inv (N + k) p.1 ∧ p.2.length ≤ k) (step:=gc i) (by omega) ?_ ?_ (s:=(s,[])) ⟨h,by simp⟩
 ·rintro k hk p ⟨hp,hl⟩
  unfold gc
  dsimp only
  rw [show decide ((k : Int) < 3) = true from decide_eq_true (by omega),cond_true]
  refine ad (I1 (by omega) hp i) ?_
  rintro ⟨t,kd,c⟩ hr
  dsimp only at hr ⊢
  refine ae (fun _ => aa (.inr ⟨_,rfl,hr.mono (by omega),by dsimp only; omega⟩)) fun _ => ?_
  rw [am (by simp; omega) (by omega),Jw]
  exact aa (.inl ⟨(t,p.2 ++ [c]),rfl,hr,by simp; omega⟩)
 ·rintro p ⟨hp,hl⟩
  unfold gc
  dsimp only
  exact aa ⟨_,rfl,hp,hl⟩
theorem Iw {N : Nat} (hN : N ≤ 800000) {s : State} (h : Inv N s) (x : Input) (hx : x.Ids.length ≤ 1000) : Gv (jR s x) fun r => Inv (N + 1003) r.1:=by
 unfold jR
 rw [lU h.z,Jw]
 refine ad (P:=fun _ => True) ?_ fun q _ => ?_
 ·repeat' (first | exact ⟨_,rfl,trivial⟩ | refine ae (fun _ => ?_) (fun _ => ?_))
 refine ae (fun _ => ?_) fun _ => ?_
 ·rw [Dg h.z,Jw]
  exact aa (h.mono (by omega))
 refine ad (Fv h _ _) fun r hr => ?_
 refine ae (fun _ => aa (h.mono (Nat.le_add_right _ _))) fun _ => ?_
 refine ad (P:=fun l => l.length ≤ x.Ids.length) ?_ fun ids hids => ?_
 ·refine aG (fun (l : List Int) i => (l,i)) x.Ids.length (fun k l => l.length ≤ k) (step:=go x r) (by omega) ?_ ?_ (s:=[]) (by simp)
  ·intro k hk l hl
   unfold go
   dsimp only
   rw [aj hk,cond_true]
   refine ad (P:=fun m => m.length ≤ k + 1) ?_ fun m hm => aa (.inl ⟨m,rfl,hm⟩)
   rw [ai hk,Jw,kh hr.z,Jw]
   refine ad (P:=fun _ => True) ?_ fun q _ => ?_
   ·repeat' (first | exact ⟨_,rfl,trivial⟩ | refine ae (fun _ => ?_) (fun _ => ?_))
   refine ae (fun _ => ?_) fun _ => aa (by omega)
   rw [am (by simp; omega) (by omega),Jw]
   exact aa (by simp; omega)
  ·intro l hl
   unfold go
   rw [ar]
   exact aa ⟨l,rfl,hl⟩
 refine ad (vq hr (ids:=ids) (by omega)) fun t ht => ?_
 refine ad (Ei (by omega) ht x.Id) fun u hu => ?_
 rw [Dg hu.1.z,Jw]
 exact aa (hu.1.mono (by omega))
theorem D9 (x : Ask) (c : Conf) : Gv (jE x (c.Labels.length : Int)) fun e => e = 0 → (0 ≤ x.Label ∧ x.Label < c.Labels.length) ∧ SzOk x.Size ∧ 0 ≤ x.Count ∧ x.Count ≤ 50:=by
 have p9 : ∀ n : Int,kH n = some (decide (1 ≤ n) && decide (n ≤ 1073741824)):=fun n => uX n
 unfold jE
 refine ad (P:=fun b => b = false → (0 ≤ x.Label ∧ x.Label < c.Labels.length) ∧ SzOk x.Size) ?_ ?_
 ·refine ae (fun _ => aa (by simp)) fun _ => ae (fun _ => aa (by simp)) fun _ => ae (fun _ => aa (by simp)) fun h1 => ae (fun _ => aa (by simp)) fun h2 => ?_
  rw [p9,Jw]
  refine ae (fun _ => aa (by simp)) fun h3 => ?_
  rw [p9,Jw]
  refine ae (fun _ => aa (by simp)) fun h4 => ?_
  simp only [decide_eq_false_iff_not,Bool.not_eq_false',Bool.and_eq_true,decide_eq_true_eq] at h1 h2 h3 h4
  refine sW (P:=fun _ => True) ?_ fun b _ _ => ⟨by omega,h3,h4⟩
  repeat' (first | exact ⟨_,rfl,trivial⟩ | refine ae (fun _ => ?_) (fun _ => ?_))
 ·intro b hb
  refine ae (fun _ => aa (by simp)) fun hbf => ?_
  obtain ⟨h1,h2⟩:=hb hbf
  refine ad (P:=fun b => b = false → 0 ≤ x.Count ∧ x.Count ≤ 50) ?_ ?_
  ·refine ae (fun _ => aa (by simp)) fun h3 => aa fun h4 => ?_
   simp only [decide_eq_false_iff_not] at h3 h4
   omega
  ·intro b2 hb2
   refine ae (fun _ => aa (by simp)) fun hf => aa fun _ => ⟨h1,h2,hb2 hf⟩
theorem Jv {c : Conf} {l : List Ask} (hl : l.length ≤ 1000) (hk : ∀ x ∈ l,AskOk c x) {a : Ask} (h1 : 0 ≤ a.Label ∧ a.Label < c.Labels.length) (h2 : SzOk a.Size) (h3 : 0 ≤ a.Count ∧ a.Count ≤ 50) :
  Gv (lp l a) fun r => r.1.length ≤ 8 ∧ ∀ x ∈ r.1,AskOk c x:=by
 have hnew : a.Count ≠ 0 → AskOk c ⟨a.Prio,a.Label,⟨a.Size.Mem,a.Size.Cores⟩,a.Count,a.Node,a.Rack,0⟩:=fun hc => ⟨h1,h2,by dsimp only; omega⟩
 unfold lp
 refine ad (P:=fun t => t.1.length ≤ 2 * l.length ∧ (∀ x ∈ t.1,AskOk c x) ∧ (t.2 = false → a.Count ≠ 0)) ?_ ?_
 ·refine aG (fun (t : List Ask × Bool) i => (t.1,t.2,i)) l.length (fun k t => t.1.length ≤ 2 * k ∧ (∀ x ∈ t.1,AskOk c x) ∧ (t.2 = false → a.Count ≠ 0)) (step:=jd l a) (by omega) ?_ ?_ (s:=([],a.Count == 0)) ⟨by simp,by simp,by simp⟩
  ·rintro k hkk ⟨m,d⟩ ⟨q1,q2,q3⟩
   dsimp only at q1 q2 q3 ⊢
   unfold jd
   dsimp only
   rw [aj hkk,cond_true]
   refine ad (P:=fun t => t.1.length ≤ 2 * (k + 1) ∧ (∀ x ∈ t.1,AskOk c x) ∧ (t.2 = false → a.Count ≠ 0)) ?_ fun t ht => aa (.inl ⟨t,rfl,ht⟩)
   refine ad (P:=fun t => t.1.length ≤ 2 * k + 1 ∧ (∀ x ∈ t.1,AskOk c x) ∧ (t.2 = false → a.Count ≠ 0)) ?_ ?_
   ·refine ad (P:=fun b => b = true → d = false) ?_ ?_
    ·refine ae (fun hd => ?_) fun _ => aa (by simp)
     rw [ai hkk,Jw]
     exact aa fun _ => by simpa using hd
    ·intro b hb
     refine ae (fun hbt => ?_) fun _ => aa ⟨by dsimp only; omega,q2,q3⟩
     rw [am (by simp; omega) (by omega),Jw]
     refine aa ⟨by simp; omega,fun x hx => ?_,by simp⟩
     rcases List.mem_append.1 hx with hx | hx
     ·exact q2 x hx
     ·rw [JA] at hx
      subst hx
      exact hnew (q3 (hb hbt))
   ·rintro ⟨m2,d2⟩ ⟨p1,p2,p3⟩
    dsimp only at p1 p2 p3 ⊢
    rw [ai hkk,Jw]
    refine ae (fun _ => ?_) fun _ => aa ⟨by dsimp only; omega,p2,p3⟩
    rw [Jw,am (by simp; omega) (by omega),Jw]
    refine aa ⟨by simp; omega,fun x hx => ?_,p3⟩
    rcases List.mem_append.1 hx with hx | hx
    ·exact p2 x hx
    ·rw [JA] at hx
     subst hx
     exact hk _ (List.getElem_mem hkk)
  ·rintro t ht
   unfold jd
   dsimp only
   rw [ar,cond_false]
   exact aa ⟨t,rfl,ht⟩
 ·rintro ⟨m,d⟩ ⟨q1,q2,q3⟩
  dsimp only at q1 q2 q3 ⊢
  refine ad (P:=fun m => ∀ x ∈ m,AskOk c x) ?_ ?_
  ·refine ae (fun hd => ?_) fun _ => aa q2
   rw [am (by simp; omega) (by omega),Jw]
   refine aa fun x hx => ?_
   rcases List.mem_append.1 hx with hx | hx
   ·exact q2 x hx
   ·rw [JA] at hx
    subst hx
    exact hnew (q3 (by simpa using hd))
  ·intro m2 hm2
   refine ae (fun _ => aa ⟨by simp,by simp⟩) fun hlen => aa ⟨?_,hm2⟩
   simp only [decide_eq_false_iff_not] at hlen
   dsimp only
   omega
theorem GE {s : State} {l : List Ask} (hl : l.length ≤ 8) (hk : ∀ x ∈ l,AskOk s.Conf x) {more : List Ask} (hm : more.length ≤ 1000) : Gv (jh s l more) fun r => r.1.length ≤ 8 ∧ ∀ x ∈ r.1,AskOk s.Conf x:=by
 unfold jh
 refine ad (P:=fun r => match r with | .inl q => q.1.length ≤ 8 ∧ ∀ x ∈ q.1,AskOk s.Conf x | .inr q => q.length ≤ 8 ∧ ∀ x ∈ q,AskOk s.Conf x) ?_ ?_
 ·refine aG (fun (l : List Ask) i => (l,i)) more.length (fun _ l => l.length ≤ 8 ∧ ∀ x ∈ l,AskOk s.Conf x) (step:=fj s more) (by omega) ?_ ?_ (s:=l) ⟨hl,hk⟩
  ·rintro k hkk l ⟨q1,q2⟩
   unfold fj
   dsimp only
   rw [aj hkk,cond_true,ai hkk,Jw]
   refine ad (D9 more[k] s.Conf) fun e he => ?_
   refine ae (fun _ => aa (.inr ⟨_,rfl,by simp⟩)) fun he0 => ?_
   obtain ⟨c1,c2,c3⟩:=he (by simpa using he0)
   rw [Jw]
   refine ad (Jv (by omega) q2 c1 c2 c3) fun r hr => ?_
   refine ae (fun _ => aa (.inr ⟨_,rfl,by simp⟩)) fun _ => aa (.inl ⟨r.1,rfl,hr⟩)
  ·intro l hl
   unfold fj
   rw [ar]
   exact aa ⟨.inr l,rfl,hl⟩
 ·rintro (q | q) hq
  ·exact aa hq
  ·exact aa hq
theorem zK {s : State} (h : SSmall s) {ids : List Int} (hi : ids.length ≤ 1000000) : Gv (eF s ids) fun _ => True:=by
 unfold eF
 refine ad (P:=fun _ => True) ?_ fun _ _ => aa trivial
 refine aG (fun (l : List Cont) i => (l,i)) ids.length (fun k l => l.length ≤ k) (step:=eY s ids) (by omega) ?_ ?_ (s:=[]) (by simp)
 ·intro k hk l hl
  unfold eY
  dsimp only
  rw [aj hk,cond_true,ai hk,Jw,kh h,Jw]
  refine ad (P:=fun m => m.length ≤ k + 1) ?_ fun m hm => aa (.inl ⟨m,rfl,hm⟩)
  refine ae (fun _ => ?_) fun _ => aa (by omega)
  rw [am (by simp; omega) (by omega),Jw]
  exact aa (by simp; omega)
 ·intro l hl
  unfold eY
  rw [ar]
  exact aa ⟨l,rfl,trivial⟩
theorem xw {s : State} (h : SSmall s) (i : Int) : Gv (dg s i) fun _ => True:=by
 have hn:=h.c
 unfold dg
 refine ad (P:=fun _ => True) ?_ fun _ _ => aa trivial
 refine aG (fun (l : List Int) i => (l,i)) s.Conts.length (fun k l => l.length ≤ k) (step:=dQ s i) (by omega) ?_ ?_ (s:=[]) (by simp)
 ·intro k hk l hl
  unfold dQ
  dsimp only
  rw [aj hk,cond_true,ai hk,Jw,Jw]
  refine ad (P:=fun m => m.length ≤ k + 1) ?_ fun m hm => aa (.inl ⟨m,rfl,hm⟩)
  refine ad (P:=fun _ => True) ?_ fun q _ => ?_
  ·repeat' (first | exact ⟨_,rfl,trivial⟩ | refine ae (fun _ => ?_) (fun _ => ?_))
  refine ae (fun _ => ?_) fun _ => aa (by omega)
  rw [Jw,am (by simp; omega) (by omega),Jw]
  exact aa (by simp; omega)
 ·intro l hl
  unfold dQ
  rw [ar]
  exact aa ⟨l,rfl,trivial⟩
theorem Fa {N : Nat} (hN : N ≤ 900000) {s : State} (h : Inv N s) (x : Input) (hi : x.Ids.length ≤ 1000) (hx : x.Asks.length ≤ 1000) : Gv (iv s x) fun r => Inv N r.1:=by
 unfold iv
 rw [dV h.z,Jw]
 cases ha0 : appAt s x.Id with
 | none => exact aa h
 | some a =>
  obtain ⟨ha,_⟩:=uQ ha0
  have hak:=h.ak a ha
  simp only [Option.elim,Bool.not_true,cond_false]
  refine ae (fun _ => aa h) fun hst => ae (fun _ => aa h) fun _ => ae (fun _ => ?_) fun _ => ae (fun _ => aa h) fun _ => ?_
  ·refine ad (zK h.z (by have:=hak.to; omega)) fun _ _ => ad (xw h.z _) fun _ _ => ?_
   rw [am (by have:=hak.lo; simp; omega) (by omega),Jw]
   exact aa h
  ·have hst : a.State = 2:=by simpa using hst
   refine ad (GE hak.al hak.ask hx) fun r hr => ?_
   refine ae (fun _ => aa h) fun _ => ?_
   refine ad (P:=fun t => Inv N t.1 ∧ t.1.Conf = s.Conf ∧ t.1.Apps = s.Apps ∧ AppOk N s.Conf t.2 ∧ t.2.Id = a.Id ∧ t.2.State = 2) ?_ ?_
   ·refine aG (fun (t : State × App) i => (t.1,t.2,i)) x.Ids.length (fun _ t => Inv N t.1 ∧ t.1.Conf = s.Conf ∧ t.1.Apps = s.Apps ∧ AppOk N s.Conf t.2 ∧ t.2.Id = a.Id ∧ t.2.State = 2) (step:=et x) (by omega) ?_ ?_ (s:=(s,a)) ⟨h,rfl,rfl,hak,rfl,hst⟩
    ·rintro k hk ⟨t,b⟩ ⟨q1,q2,q3,q4,q5,q6⟩
     dsimp only at q1 q2 q3 q4 q5 q6 ⊢
     unfold et
     dsimp only
     rw [aj hk,cond_true]
     refine ad (P:=fun t => Inv N t.1 ∧ t.1.Conf = s.Conf ∧ t.1.Apps = s.Apps ∧ AppOk N s.Conf t.2 ∧ t.2.Id = a.Id ∧ t.2.State = 2) ?_ fun t ht => aa (.inl ⟨t,rfl,ht⟩)
     rw [ai hk,Jw,kh q1.z,Jw]
     refine ad (P:=fun _ => True) ?_ fun q _ => ?_
     ·repeat' (first | exact ⟨_,rfl,trivial⟩ | refine ae (fun _ => ?_) (fun _ => ?_))
     refine ae (fun _ => ?_) fun _ => aa ⟨q1,q2,q3,q4,q5,q6⟩
     rw [Ce q1.z,Jw,xe (by have:=q4.gr; omega),Jw]
     refine aa ⟨q1.away _,q2,q3,⟨q4.st,q4.user,q4.path,q4.leaf,q4.mas,q4.al,q4.ask,Nat.le_trans (List.length_filter_le _ _) q4.gr,q4.ki,q4.to,q4.lo⟩,q5,q6⟩
    ·intro t ht
     unfold et
     dsimp only
     rw [ar,cond_false]
     exact aa ⟨t,rfl,ht⟩
   ·rintro ⟨t,b⟩ ⟨q1,q2,q3,q4,q5,q6⟩
    dsimp only at q1 q2 q3 q4 q5 q6 ⊢
    refine ad (zK q1.z (by have:=q4.gr; omega)) fun _ _ => ad (xw q1.z _) fun _ _ => ?_
    rw [am (by have:=q4.ki; simp; omega) (by omega),Jw,qS q1.z,Jw]
    refine aa (q1.putA ⟨a,by rw [q3]; exact ha,q5.symm⟩ ?_ (.inl q6))
    rw [q2]
    exact ⟨q4.st,q4.user,q4.path,q4.leaf,q4.mas,hr.1,hr.2,by simp,by simp,q4.gr,q4.ki⟩
theorem DS {N : Nat} {s : State} (h : Inv N s) (text : Str) (h45 : ∀ b ∈ text,b ≠ 45) : Gv (ia s text) fun r => Inv N r.1:=by
 unfold ia
 refine ad (FY text) ?_
 rintro ⟨c,e0⟩ ⟨hc,hcl,hcn⟩
 dsimp only at hc hcl hcn ⊢
 refine ad (P:=fun e => e = 0 → ConfOk c) ?_ ?_
 ·refine ae (fun _ => ?_) fun he => aa fun e => ?_
  ·exact ad (Ga hc hcl fun q hq b hb => h45 b (hcn q hq b hb)) fun e he => aa he
  ·subst e; simp at he
 ·intro e he
  refine ae (fun _ => aa h) fun he0 => ?_
  have hcf:=he (by simpa using he0)
  refine ae (fun _ => aa h) fun hlen => ?_
  simp only [decide_eq_false_iff_not] at hlen
  have hlb:=h.cf.lab
  refine ad (P:=fun r => match r with | .inl q => Inv N q.1 | .inr _ => True) ?_ ?_
  ·refine aG (fun (t : State × Output) i => (t.1,t.2,i)) s.Conf.Labels.length (fun _ _ => True) (step:=eg s (c,e0)) (by omega) ?_ ?_ (s:=((⟨⟨[],[]⟩,[],[],[],[],[],0,0,0⟩ : State),(⟨0,[],[],[],0⟩ : Output))) trivial
   ·intro k hk t _
    unfold eg
    dsimp only
    have hk2 : k < c.Labels.length:=by omega
    rw [aj hk,cond_true,aM hk2,Jw,Jx hk2,Jw,ai hk,Jw]
    refine ae (fun _ => aa (.inr ⟨_,rfl,h⟩)) fun _ => aa (.inl ⟨t,rfl,trivial⟩)
   ·intro t _
    unfold eg
    dsimp only
    rw [ar,cond_false]
    exact aa ⟨_,rfl,trivial⟩
  ·rintro (q | q) hq
   ·exact aa hq
   ·have hal:=h.al
    refine ad (P:=fun r => match r with | .inl q => Inv N q.1 | .inr _ => ∀ a ∈ s.Apps,pLive a = true → pLeaf c a.Queue = true) ?_ ?_
    ·refine aG (fun (t : State × Output) i => (t.1,t.2,i)) s.Apps.length (fun k _ => ∀ j (hj : j < s.Apps.length),j < k → pLive s.Apps[j] = true → pLeaf c s.Apps[j].Queue = true) (step:=ej s (c,e0)) (by omega) ?_ ?_ (s:=q) (by intro j hj h; omega)
     ·intro k hk t ht
      unfold ej
      dsimp only
      rw [aj hk,cond_true]
      refine ad (P:=fun b => b = false → pLive s.Apps[k] = true → pLeaf c s.Apps[k].Queue = true) ?_ ?_
      ·rw [ai hk,Jw,lT,Jw]
       refine ae (fun _ => ?_) fun hf => aa fun _ ht => by rw [hf] at ht; cases ht
       rw [Jw,xS hc,Jw]
       exact aa fun hb _ => by simpa using hb
      ·intro b hb
       refine ae (fun _ => aa (.inr ⟨_,rfl,h⟩)) fun hbf => aa (.inl ⟨t,rfl,fun j hj hjk => ?_⟩)
       by_cases e : j = k
       ·subst e; exact hb hbf
       ·exact ht j hj (by omega)
     ·intro t ht
      unfold ej
      dsimp only
      rw [ar,cond_false]
      refine aa ⟨.inr t,rfl,fun a ha hl => ?_⟩
      obtain ⟨j,hj,rfl⟩:=List.getElem_of_mem ha
      exact ht j hj hj hl
    ·rintro (q2 | q2) hq2
     ·exact aa hq2
     ·refine aa ?_
      have hll : (s.Conf.Labels.length : Int) ≤ c.Labels.length:=by omega
      have hask : ∀ x : Ask,AskOk s.Conf x → AskOk c x:=fun x hx => ⟨by have:=hx.label; omega,hx.size,hx.count⟩
      refine ⟨hcf,h.nl,h.ns,fun n hn => ?_,h.al,h.asr,fun a ha => ?_,h.cl,h.cs,fun k hk => ?_,h.ss,h.sk,h.pl,h.ps,h.pk,h.now,h.ep,h.sq⟩
      ·have:=h.nk n hn
       exact ⟨this.1,this.2.1,by show n.Label < (c.Labels.length : Int); omega⟩
      ·have hak:=h.ak a ha
       refine ⟨hak.st,hak.user,hak.path,fun e => hq2 a ha (by unfold pLive; simpa using e),hak.mas,hak.al,fun x hx => hask x (hak.ask x hx),hak.gr,hak.ki,hak.to,hak.lo⟩
      ·have:=h.ck k hk
       exact ⟨this.size,this.app,by have:=this.label; show 0 ≤ k.Label ∧ k.Label < (c.Labels.length : Int); omega,this.id⟩
end Go.Fx.D
