/-
  The reference manager: what holds of its state after every script. Conditions: none.
-/
import Derived.Test.YteodpoelbdakgaaGreatS17
namespace Go.Fx.D
open Go Go.Fx
set_option linter.unusedVariables false
set_option linter.unusedSimpArgs false
theorem Al : ∀ (d m : Nat) (n : Int),d ≤ m → 0 ≤ n → n < 10 ^ (d + 1) → d ≤ 15 → Gv (bA (m + 1) n) fun s => s.length ≤ 2 ^ d:=by
 intro d
 induction d with
 | zero =>
  intro m n _ h0 h1 _
  show Gv (co (bA m) n) _
  unfold co
  have h1 : n < 10:=by simpa using h1
  rw [decide_eq_false (by omega),cond_false,decide_eq_false (by omega),cond_false]
  exact aa (by simp)
 | succ d ih =>
  intro m n hm h0 h1 hd
  obtain ⟨m,rfl⟩ : ∃ k,m = k + 1:=⟨m - 1,by omega⟩
  show Gv (co (bA (m + 1)) n) _
  unfold co
  rw [decide_eq_false (by omega : ¬ n < 0),cond_false]
  refine ae (fun h10 => ?_) fun _ => aa (by simp; exact Nat.one_le_pow _ _ (by omega))
  simp only [decide_eq_true_eq] at h10
  have e1 : Int.tdiv n 10 = n / 10:=Int.tdiv_eq_ediv_of_nonneg h0
  have e2 : Int.tmod n 10 = n % 10:=Int.tmod_eq_emod_of_nonneg h0
  have hp : (10 : Int) ^ (d + 1 + 1) = 10 ^ (d + 1) * 10:=by rw [Int.pow_succ]
  have hb : (10 : Int) ^ (d + 1) ≤ 10 ^ 15:=by
   have : (10 : Nat) ^ (d + 1) ≤ 10 ^ 15:=Nat.pow_le_pow_right (by omega) (by omega)
   exact_mod_cast this
  have h10p : (10 : Int) ≤ 10 ^ (d + 1):=by
   have : (10 : Nat) ^ 1 ≤ 10 ^ (d + 1):=Nat.pow_le_pow_right (by omega) (by omega)
   exact_mod_cast this
  have hb15 : (10 : Int) ^ 15 = 1000000000000000:=by decide
  rw [e1,e2,aj (by omega) (by omega)]
  refine ad (ih m (n / 10) (by omega) (by omega) (by omega) (by omega)) fun x1 hx1 => ?_
  refine ad (ih m (n % 10) (by omega) (by omega) (by omega) (by omega)) fun x2 hx2 => ?_
  have hpow : 2 ^ d ≤ 2 ^ 15:=Nat.pow_le_pow_right (by omega) (by omega)
  rw [dd (by omega),Gp]
  refine aa ?_
  rw [Gs,Nat.pow_succ]
  omega
theorem wq {n : Int} (h0 : 0 ≤ n) (h1 : n ≤ 1000000) : Gv (bW n) fun s => s.length ≤ 64:=by
 unfold bW
 exact Al 6 63 n (by omega) h0 (by omega) (by omega)
theorem zk {L Q : Nat} (hL : L ≤ 10) (hQ : Q ≤ 10) {c : Conf} (hc : CB L Q c) : Gv (gy c) fun _ => True:=by
 unfold gy
 refine ad (P:=fun s => s.length ≤ 1000) ?_ fun s hs => ?_
 ·refine iI (fun t : List UInt8 × Int => 1 ≤ t.2 ∧ t.2 ≤ 11 ∧ (t.1.length : Int) ≤ 6 + 30 * t.2) (fun t => (11 - t.2).toNat) ?_ (by dsimp only; simp)
  rintro ⟨s,i⟩ ⟨h1,h2,h3⟩
  dsimp only at h1 h2 h3
  unfold mQ
  dsimp only
  refine ae (fun hlt => ?_) fun _ => aa (.inr ⟨s,rfl,by omega⟩)
  simp only [decide_eq_true_eq] at hlt
  have hl:=hc.lab
  rw [dd (by simp; omega),Gp]
  refine ad (fc (by omega) hlt) fun x hx => ?_
  have hxl:=hc.labs x hx.1
  rw [dd (by simp; omega),Gp]
  refine aa (.inl ⟨_,rfl,?_,?_⟩)
  ·rw [aj (x:=i + 1) (by omega) (by omega)]
   dsimp only
   simp only [Gs,List.length_cons,List.length_nil]
   omega
  ·rw [aj (x:=i + 1) (by omega) (by omega)]
   dsimp only
   omega
 ·rw [dd (by simp; omega),Gp]
  refine ad (P:=fun _ => True) ?_ fun _ _ => aa trivial
  refine av (fun (s : List UInt8) i => (s,i)) c.Queues.length (fun k s => s.length ≤ 1001 + k * 3000) (step:=gA c) (by have:=hc.qs; omega) ?_ ?_ (s:=_) (by simp; omega)
  ·intro k hk s hs
   have hq:=hc.q _ (List.getElem_mem hk)
   have hp:=hq.path
   have hqs:=hc.qs
   unfold gA
   dsimp only
   rw [ah hk,cond_true,ai hk,Gp,dd (by simp; omega),Gp,dd (by simp; omega),Gp,dd (by simp; omega),Gp]
   refine ad (wq hq.user.1 hq.user.2) fun x2 hx2 => ?_
   rw [dd (by simp; omega),Gp]
   refine ad (P:=fun m => m.length ≤ 1001 + k * 3000 + 200 + 10 * 200) ?_ fun m hm => ?_
   ·refine av (fun (s : List UInt8) i => (s,i)) c.Queues[k].Caps.length (fun j m => m.length ≤ 1001 + k * 3000 + 200 + j * 200) (step:=gX c.Queues[k]) (by have:=hq.caps; omega) ?_ ?_ (s:=_) (by simp; omega)
    ·intro j hj m hm
     have hcap:=hq.cap _ (List.getElem_mem hj)
     have hcl:=hq.caps
     unfold gX
     dsimp only
     rw [ah hj,cond_true,dd (by simp; omega),Gp]
     simp only [ai hj,Gp]
     refine ad (wq hcap.1.1 hcap.1.2) fun x4 hx4 => ?_
     rw [dd (by simp; omega),Gp,dd (by simp; omega),Gp]
     refine ad (wq hcap.2.1 hcap.2.2) fun x6 hx6 => ?_
     rw [dd (by simp; omega),Gp]
     exact aa (.inl ⟨_,rfl,by simp only [Gs,List.length_cons,List.length_nil]; omega⟩)
    ·intro m hm
     have hcl:=hq.caps
     unfold gX
     dsimp only
     rw [ao,cond_false]
     exact aa ⟨m,rfl,by omega⟩
   ·rw [dd (by simp; omega),Gp]
    exact aa (.inl ⟨_,rfl,by simp only [Gs,List.length_cons,List.length_nil]; omega⟩)
  ·intro s hs
   unfold gA
   dsimp only
   rw [ao,cond_false]
   exact aa ⟨s,rfl,trivial⟩
theorem zI : ∀ (l : List Queue),l ≠ [] → ∃ q ∈ l,∀ x ∈ l,x.Path.length ≤ q.Path.length
 | [],h => absurd rfl h
 | [q],_ => ⟨q,by simp,by simp⟩
 | q :: r :: l,_ => by
  obtain ⟨m,hm,h⟩:=zI (r :: l) (by simp)
  by_cases hq : q.Path.length ≤ m.Path.length
  ·refine ⟨m,by simp [hm],fun x hx => ?_⟩
   rcases List.mem_cons.1 hx with rfl | hx
   ·exact hq
   ·exact h x hx
  ·refine ⟨q,by simp,fun x hx => ?_⟩
   rcases List.mem_cons.1 hx with rfl | hx
   ·exact Nat.le_refl _
   ·have:=h x hx; omega
theorem yj {c : Conf} (h : ConfOk c) : ∃ q ∈ c.Queues,pLeaf c q.Path = true:=by
 have hq:=h.qs
 obtain ⟨q,hq,hmax⟩:=zI c.Queues (by intro e; rw [e] at hq; simp at hq)
 refine ⟨q,hq,?_⟩
 obtain ⟨q',e,_⟩:=o_ hq
 have hk : pKids c q.Path = []:=by
  cases hk : pKids c q.Path with
  | nil => rfl
  | cons x l =>
   have hx : x ∈ pKids c q.Path:=by rw [hk]; simp
   obtain ⟨hp,y,hy,rfl,ha⟩:=fh hx
   have hne : y.Path ≠ []:=fun e => by rw [e] at ha; exact hp ha.symm
   have:=eS hne
   have:=hmax y hy
   rw [ha] at *
   omega
 unfold pLeaf
 rw [e,hk]
 rfl
def oM (c : Conf) : List Str:=(c.Queues.filter fun q => pLeaf c q.Path).map (·.Path)
theorem AE {c : Conf} (h : ConfOk c) : iw c = some (oM c):=by
 have hq:=h.qs
 unfold iw
 have e:=bb (fun (l : List Str) i => (l,i)) c.Queues (fun q => pLeaf c q.Path) (·.Path) (step:=eV c) (by omega) ?_ ?_
 ·rw [e]; rfl
 ·intro k hk l hl
  unfold eV
  dsimp only
  rw [ah hk,cond_true]
  simp only [ai hk,Gp]
  rw [pP h.small,Gp]
  cases hp : pLeaf c c.Queues[k].Path
  ·rfl
  ·rw [cond_true,am (by simp; omega) (by omega)]
   rfl
 ·intro l
  unfold eV
  rw [ao]
  rfl
theorem yn {c : Conf} (h : ConfOk c) : 0 < (oM c).length ∧ (oM c).length ≤ 16:=by
 obtain ⟨q,hq,hl⟩:=yj h
 have hqs:=h.qs
 constructor
 ·exact List.length_pos_of_mem (a:=q.Path) (List.mem_map.2 ⟨q,List.mem_filter.2 ⟨hq,hl⟩,rfl⟩)
 ·unfold oM
  rw [List.length_map]
  exact Nat.le_trans (List.length_filter_le _ _) hqs.2
theorem ta (n : Int) : Gv (dz n) fun _ => True:=by
 unfold dz
 refine ad (bk n (n:=5) (by omega) (by omega)) fun x hx => ?_
 refine ad (la hx.1 (by simp; omega)) ?_
 rintro i rfl
 exact ad (cF (k7 (by simp; omega))) fun _ _ => aa trivial
theorem Ao {N : Nat} {s : State} (h : Inv N s) (a : Act) : Gv (d6 a s) InOk:=by
 have hal:=h.al
 have hcl:=h.cl
 have hlb:=h.cf.lab
 unfold d6
 refine ae (fun _ => aa ⟨by simp,by simp,by simp⟩) fun hz => ?_
 have hz : (s.Apps.length : Int) ≠ 0:=by simpa using hz
 refine ad (bk a.A (n:=s.Apps.length) (by omega) (by omega)) fun x hx => ?_
 refine ad (cF (fc hx.1 hx.2)) fun x1 _ => ?_
 refine ad (bk a.B (n:=8) (by omega) (by omega)) fun x2 _ => ?_
 refine ad (P:=fun i => i.Ids.length ≤ 0 ∧ i.Asks.length ≤ 1000 ∧ 0 ≤ i.App.User ∧ i.App.User ≤ 2) ?_ ?_
 ·refine ae (fun _ => ?_) fun _ => aa ⟨by simp,by simp,by simp⟩
  refine ad (cF (bk a.B (n:=5) (by omega) (by omega))) fun x3 _ => ad (cF (bk a.C (n:=s.Conf.Labels.length) (by omega) (by omega))) fun x4 _ =>
   ad (ta a.D) fun x5 _ => ad (cF (bk a.D (n:=7) (by omega) (by omega))) fun x6 _ => ?_
  refine ad (P:=fun _ => True) ?_ fun k _ => ?_
  ·refine ae (fun _ => ad (cF (bk a.C (n:=3) (by omega) (by omega))) fun _ _ => aa trivial) fun _ => aa trivial
  refine ad (P:=fun _ => True) ?_ fun k1 _ => aa ⟨by simp,by simp,by simp⟩
  refine ae (fun _ => ad (cF (bk a.C (n:=3) (by omega) (by omega))) fun _ _ => ad (cF (bk a.B (n:=6) (by omega) (by omega))) fun _ _ => aa trivial) fun _ => aa trivial
 ·intro i0 hi0
  refine ad (P:=InOk) ?_ fun i hi => aa hi
  refine av (fun (i : Input) k => (i,k)) s.Conts.length (fun k i => i.Ids.length ≤ k ∧ i.Asks.length ≤ 1000 ∧ 0 ≤ i.App.User ∧ i.App.User ≤ 2) (step:=cw a s x1) (by omega) ?_ ?_ (s:=i0) hi0
  ·rintro k hk i ⟨q1,q2,q3⟩
   unfold cw
   dsimp only
   rw [ah hk,cond_true]
   refine ad (P:=fun i => i.Ids.length ≤ k + 1 ∧ i.Asks.length ≤ 1000 ∧ 0 ≤ i.App.User ∧ i.App.User ≤ 2) ?_ fun i hi => aa (.inl ⟨i,rfl,hi⟩)
   simp only [ai hk,Gp]
   refine ad (P:=fun _ => True) ?_ fun q _ => ?_
   ·exact ae (fun _ => ad (cF (bk _ (n:=11) (by omega) (by omega))) fun _ _ => aa trivial) fun _ => aa trivial
   ·refine ae (fun _ => ?_) fun _ => aa ⟨by omega,q2,q3⟩
    rw [am (by simp; omega) (by omega),Gp]
    exact aa ⟨by simp; omega,q2,q3⟩
  ·rintro i ⟨q1,q2,q3⟩
   unfold cw
   rw [ao]
   exact aa ⟨i,rfl,⟨by omega,q2,q3⟩⟩
theorem DI {N : Nat} {s : State} (h : Inv N s) (a : Act) : Gv (eK a s) InOk:=by
 have hnl:=h.nl
 have hcl:=h.cl
 have hlb:=h.cf.lab
 have hlv:=yn h.cf
 have w : ∀ (x : Int) {n : Int},0 < n → n ≤ 1000000 → Gv (ar x n) fun _ => True:=fun x n h0 h1 => cF (bk x h0 (by omega))
 have ok : ∀ {i : Input},i.Ids = [] → i.Asks = [] → i.App.User = 0 → InOk i:=fun e1 e2 e3 => ⟨by rw [e1]; simp,by rw [e2]; simp,by omega⟩
 unfold eK
 refine ad (w a.A (n:=6) (by omega) (by omega)) fun id_ _ => ?_
 rw [AE h.cf,Gp]
 refine ad (w a.B (n:=4) (by omega) (by omega)) fun x _ => ?_
 refine ad (P:=InOk) ?_ fun i hi => aa hi
 refine ad (w a.Kind (n:=16) (by omega) (by omega)) fun x1 _ => ?_
 have tst : ∀ (c : Bool) (b d : Bool),Gv (bif c then some b else some d) fun _ => True:=fun c b d => by cases c <;> exact aa trivial
 refine ad (tst _ _ _) fun q _ => ae (fun _ => ?_) fun _ => ?_
 ·refine ad (w a.B (n:=s.Conf.Labels.length) (by omega) (by omega)) fun x2 _ => ad (w a.C (n:=3) (by omega) (by omega)) fun x3 _ => ad (w a.D (n:=12) (by omega) (by omega)) fun x4 _ =>
   ad (w a.D (n:=8) (by omega) (by omega)) fun x5 _ => aa (ok rfl rfl rfl)
 refine ad (P:=fun _ => True) ?_ fun q1 _ => ae (fun _ => ?_) fun _ => ?_
 ·repeat' (first | exact ⟨_,rfl,trivial⟩ | refine ae (fun _ => ?_) (fun _ => ?_))
 ·refine ad (P:=fun i => i.Ids.length ≤ 0 ∧ i.Asks.length ≤ 1000 ∧ 0 ≤ i.App.User ∧ i.App.User ≤ 2) ?_ fun i0 hi0 => ?_
  ·refine av (fun (i : Input) k => (i,k)) s.Nodes.length (fun k i => i.Ids.length ≤ 0 ∧ i.Asks.length ≤ 1000 ∧ 0 ≤ i.App.User ∧ i.App.User ≤ 2) (step:=cX a s id_) (by omega) ?_ ?_ (s:=_) ⟨by simp,by simp,by simp⟩
   ·rintro k hk i hi
    unfold cX
    dsimp only
    rw [ah hk,cond_true]
    refine ad (P:=fun i => i.Ids.length ≤ 0 ∧ i.Asks.length ≤ 1000 ∧ 0 ≤ i.App.User ∧ i.App.User ≤ 2) ?_ fun i hi => aa (.inl ⟨i,rfl,hi⟩)
    simp only [ai hk,Gp]
    exact ae (fun _ => ad (w a.B (n:=8) (by omega) (by omega)) fun _ _ => aa hi) fun _ => aa hi
   ·rintro i hi
    unfold cX
    rw [ao]
    exact aa ⟨i,rfl,hi⟩
  ·refine ad (P:=InOk) ?_ fun i hi => aa hi
   refine av (fun (i : Input) k => (i,k)) s.Conts.length (fun k i => i.Ids.length ≤ k ∧ i.Asks.length ≤ 1000 ∧ 0 ≤ i.App.User ∧ i.App.User ≤ 2) (step:=cV a s id_) (by omega) ?_ ?_ (s:=i0) hi0
   ·rintro k hk i ⟨q1,q2,q3⟩
    unfold cV
    dsimp only
    rw [ah hk,cond_true]
    refine ad (P:=fun i => i.Ids.length ≤ k + 1 ∧ i.Asks.length ≤ 1000 ∧ 0 ≤ i.App.User ∧ i.App.User ≤ 2) ?_ fun i hi => aa (.inl ⟨i,rfl,hi⟩)
    simp only [ai hk,Gp]
    refine ad (P:=fun _ => True) ?_ fun q _ => ?_
    ·exact ae (fun _ => ad (w _ (n:=9) (by omega) (by omega)) fun _ _ => aa trivial) fun _ => aa trivial
    ·refine ae (fun _ => ?_) fun _ => aa ⟨by omega,q2,q3⟩
     rw [am (by simp; omega) (by omega),Gp]
     exact aa ⟨by simp; omega,q2,q3⟩
   ·rintro i ⟨q1,q2,q3⟩
    unfold cV
    rw [ao]
    exact aa ⟨i,rfl,⟨by omega,q2,q3⟩⟩
 refine ad (tst _ _ _) fun q3 _ => ae (fun _ => ?_) fun _ => ?_
 ·refine ad (w a.A (n:=20) (by omega) (by omega)) fun x16 _ => ad (bk a.B (n:=(oM s.Conf).length) (by omega) (by omega)) fun x17 hx17 => ?_
  refine ad (la hx17.1 hx17.2) ?_
  rintro i rfl
  refine ad (cF (k7 (by omega))) fun x18 _ => ad (bk a.C (n:=3) (by omega) (by omega)) fun x19 hx19 => ad (w a.D (n:=3) (by omega) (by omega)) fun x20 _ => ad (ta _) fun x21 _ => aa ⟨by simp,by simp,by dsimp only; omega⟩
 refine ad (P:=fun _ => True) ?_ fun q4 _ => ae (fun _ => ?_) fun _ => ?_
 ·repeat' (first | exact ⟨_,rfl,trivial⟩ | refine ae (fun _ => ?_) (fun _ => ?_))
 ·exact ad (Ao h a) fun i hi => aa hi
 refine ae (fun _ => ?_) fun _ => ?_
 ·refine ad (bk a.B (n:=2) (by omega) (by omega)) fun x23 hx => ?_
  refine ad (la hx.1 (by simp; omega)) ?_
  rintro i rfl
  exact ad (cF (k7 (by simp; omega))) fun x24 _ => ad (w a.A (n:=20) (by omega) (by omega)) fun x25 _ => aa (ok rfl rfl rfl)
 refine ad (tst _ _ _) fun q5 _ => ae (fun _ => ?_) fun _ => ?_
 ·exact ad (w a.A (n:=5) (by omega) (by omega)) fun x26 _ => aa (ok rfl rfl rfl)
 refine ae (fun _ => ?_) fun _ => ?_
 ·refine ad (bk a.D (n:=3) (by omega) (by omega)) fun x27 hx => ?_
  refine ad (la hx.1 (by simp; omega)) ?_
  rintro i rfl
  exact ad (cF (k7 (by simp; omega))) fun x28 _ => ad (w a.B (n:=s.Conf.Labels.length) (by omega) (by omega)) fun x29 _ => ad (w a.C (n:=5) (by omega) (by omega)) fun x30 _ => ad (ta _) fun x31 _ =>
   ad (w a.C (n:=12) (by omega) (by omega)) fun x32 _ => aa (ok rfl rfl rfl)
 refine ae (fun _ => ?_) fun _ => aa (ok rfl rfl rfl)
 refine ad (bk a.A (n:=3) (by omega) (by omega)) fun x33 hx => ?_
 refine ad (la hx.1 (by simp; omega)) ?_
 rintro i rfl
 refine ad (cF (k7 (by simp; omega))) fun x34 _ => ad (y_ a.B (ns:=[a.C,a.D]) (by simp)) ?_
 rintro c ⟨L,Q,hL,hQ,hc⟩
 exact ad (zk hL hQ hc) fun x36 _ => aa (ok rfl rfl rfl)
def newS : State:=⟨⟨[([] : List UInt8)],[⟨root,[⟨10000,10000⟩],10000⟩]⟩,[],[],[],[],[],0,0,0⟩
theorem nxt {τ σ : Type} {step : τ → Option (τ ⊕ σ)} {t t' : τ} (h : step t = some (.inl t')) : loop step t = loop step t':=by
 rw [aS,h]
theorem fin {τ σ : Type} {step : τ → Option (τ ⊕ σ)} {t : τ} {r : σ} (h : step t = some (.inr r)) : loop step t = some r:=by
 rw [aS,h]
theorem DQ (hs : CSmall newS.Conf) : aZ newS.Conf = some 0:=by
 have nm : b8 root = some true:=by
  unfold b8
  show (loop (gI root) 0).bind _ = _
  rw [nxt (t':=1) rfl,nxt (t':=2) rfl,nxt (t':=3) rfl,nxt (t':=4) rfl,fin (r:=.inr ()) rfl]
  rfl
 have s4 : bz root (0,0,4) = some (.inl (5,1,5)):=by
  unfold bz
  dsimp only
  rw [show decide ((4 : Int) ≤ (root.length : Int)) = true from rfl,cond_true,show decide ((4 : Int) < (root.length : Int)) = false from rfl,cond_false,Gp,cond_false,show slc root 0 4 = some root from rfl,Gp,nm,Gp]
  rfl
 have ip : cg root = some true:=by
  unfold cg
  rw [nxt (t':=(0,0,1)) rfl,nxt (t':=(0,0,2)) rfl,nxt (t':=(0,0,3)) rfl,nxt (t':=(0,0,4)) rfl,nxt s4,fin (r:=.inr 1) rfl]
  rfl
 have qu : bO newS.Conf 0 = some 0:=by
  unfold bO
  rw [show idx newS.Conf.Queues 0 = some ⟨root,[⟨10000,10000⟩],10000⟩ from rfl,Gp]
  dsimp only
  rw [ip,Gp,Bool.not_true,cond_false,show decide ((0 : Int) > 0) = false from rfl,cond_false,Gp,cond_false,qI (by decide),Gp,nf hs,Gp,cond_false,Gp,cond_false]
  rw [nxt (t':=1) rfl,fin (r:=.inr ()) rfl]
  rfl
 have lb : bF newS.Conf = some 0:=by
  unfold bF
  rw [fin (step:=jm newS.Conf) (r:=.inr ()) rfl,fin (step:=jp newS.Conf) (r:=.inr ()) rfl]
  rfl
 have sm : dw newS.Conf = some true:=by
  unfold dw
  have k0 : dq newS.Conf 0 = some (.inl 1):=by
   unfold dq
   rw [show decide ((0 : Int) < (newS.Conf.Queues.length : Int)) = true from rfl,cond_true,show idx newS.Conf.Queues 0 = some ⟨root,[⟨10000,10000⟩],10000⟩ from rfl,Gp,m_ hs,Gp,show pKids newS.Conf root = [] from by decide]
   rw [fin (r:=.inr ()) rfl]
   rfl
  rw [nxt k0,fin (r:=.inr ()) rfl]
  rfl
 unfold aZ
 rw [lb,Gp,show ((0 : Int) != 0) = false from rfl,cond_false,show ((newS.Conf.Queues.length : Int) == 0) = false from rfl,cond_false,show idx newS.Conf.Queues 0 = some ⟨root,[⟨10000,10000⟩],10000⟩ from rfl,Gp,Gp,
  show (!((⟨root,[⟨10000,10000⟩],10000⟩ : Queue).Path == ([114,111,111,116] : List UInt8))) = false from rfl,cond_false]
 have c0 : cA newS.Conf 0 = some (.inl 1):=by
  unfold cA
  rw [qu]
  rfl
 rw [nxt c0,fin (r:=.inr ()) rfl,Gp]
 dsimp only
 rw [nxt (step:=cN newS.Conf) (t':=1) rfl,fin (step:=cN newS.Conf) (r:=.inr ()) rfl,Gp]
 dsimp only
 rw [sm]
 rfl
theorem oD : Inv 0 newS:=by
 have hq : QOk newS.Conf 0 ⟨root,[⟨10000,10000⟩],10000⟩:=by
  refine ⟨⟨by decide,by decide,.inl rfl⟩,fun p h => absurd h (by omega),fun h => absurd h (by omega),by dsimp only; omega,rfl,fun x hx => ?_⟩
  have : x = ⟨10000,10000⟩:=by simpa using hx
  subst this
  exact ⟨by dsimp only; omega,by dsimp only; omega,by dsimp only; omega⟩
 have cf : ConfOk newS.Conf:=by
  refine ⟨by decide,rfl,by decide,by decide,⟨_,rfl,rfl,fun x hx => by simpa using hx⟩,fun i hi => ?_,fun q hq' => ?_⟩
  ·have hi : i = 0:=by have : i < 1:=hi; omega
   subst hi
   exact hq
  ·have hq' : q = ⟨root,[⟨10000,10000⟩],10000⟩:=by simpa [newS] using hq'
   subst hq'
   intro hk
   exact absurd (by decide) hk
 have no : ∀ {α : Type} {P : α → Prop},∀ x ∈ ([] : List α),P x:=fun x hx => (List.not_mem_nil hx).elim
 exact ⟨cf,(by decide),List.Pairwise.nil,no,(by decide),List.Pairwise.nil,no,(by decide),List.Pairwise.nil,no,List.Pairwise.nil,no,(by decide),List.Pairwise.nil,no,(by decide),(by decide),(by decide),(by decide),DQ cf.small,no,no,no,no,no⟩
theorem Bh : jA = some newS:=rfl
theorem EB (x : Script) (h1 : x.Ns.length ≤ 30) (h2 : x.Acts.length ≤ 80) : Gv (bI x) (Inv 400000):=by
 unfold bI
 rw [Bh,Gp]
 refine ad (y_ x.Shape (ns:=x.Ns) (by omega)) ?_
 rintro c ⟨L,Q,hL,hQ,hc⟩
 refine ad (zk hL hQ hc) fun x3 _ => ?_
 refine ad (yI (by omega) oD ⟨by simp,by simp,by simp⟩) fun x4 hx4 => ?_
 refine ad (P:=Inv 4000) ?_ fun s hs => ?_
 ·exact ae (fun _ => aa (hx4.mono (by omega))) fun _ => aa (oD.mono (by omega))
 ·refine ad (P:=Inv 400000) ?_ fun t ht => aa ht
  refine av (fun (s : State) k => (s,k)) x.Acts.length (fun k s => Inv (4000 + 4000 * k) s) (step:=bT x) (by omega) ?_ ?_ (s:=s) hs
  ·intro k hk t ht
   unfold bT
   dsimp only
   rw [ah hk,cond_true,ai hk,Gp]
   refine ad (DI ht _) fun i hi => ad (yI (by omega) ht hi) fun r hr => aa (.inl ⟨r.1,rfl,hr.mono (by omega)⟩)
  ·intro t ht
   unfold bT
   rw [ao]
   exact aa ⟨t,rfl,ht.mono (by omega)⟩
end Go.Fx.D
