/-
  The reference manager: what holds of its state after every script. Conditions: none.
-/
import Derived.Test.YtbhbgldkokjndaaGreatS17
namespace Go.Fx.D
open Go Go.Fx
set_option linter.unusedVariables false
set_option linter.unusedSimpArgs false
theorem iJ {s t : List UInt8} (hs : ∀ b ∈ s,b ≠ 45) (ht : ∀ b ∈ t,b ≠ 45) : ∀ b ∈ s ++ t,b ≠ 45:=fun b hb => (List.mem_append.1 hb).elim (hs b) (ht b)
theorem rW {n : Int} {k : Nat} (h0 : 0 ≤ n) (h1 : n < 10) (hk : 1 ≤ k) : Gv (some (List.map toB [IntKind.u8.wrap (w64 (48 + n))])) fun s => s.length ≤ k ∧ ∀ b ∈ s,b ≠ 45:=by
 refine aa ⟨by simpa using hk,?_⟩
 have : n = 0 ∨ n = 1 ∨ n = 2 ∨ n = 3 ∨ n = 4 ∨ n = 5 ∨ n = 6 ∨ n = 7 ∨ n = 8 ∨ n = 9:=by omega
 rcases this with rfl | rfl | rfl | rfl | rfl | rfl | rfl | rfl | rfl | rfl <;> decide +kernel
theorem u7 : ∀ (d m : Nat) (n : Int),d ≤ m → 0 ≤ n → n < 10 ^ (d + 1) → d ≤ 15 → Gv (bh (m + 1) n) fun s => s.length ≤ 2 ^ d ∧ ∀ b ∈ s,b ≠ 45:=by
 intro d
 induction d with
 | zero =>
  intro m n _ h0 h1 _
  show Gv (bN (bh m) n) _
  unfold bN
  have h1 : n < 10:=by simpa using h1
  rw [decide_eq_false (by omega),cond_false,decide_eq_false (by omega),cond_false]
  exact rW h0 h1 (by decide)
 | succ d ih =>
  intro m n hm h0 h1 hd
  obtain ⟨m,rfl⟩ : ∃ k,m = k + 1:=⟨m - 1,by omega⟩
  show Gv (bN (bh (m + 1)) n) _
  unfold bN
  rw [decide_eq_false (by omega : ¬ n < 0),cond_false]
  refine ae (fun h10 => ?_) fun h10 => rW h0 (by simp only [decide_eq_false_iff_not] at h10; omega) (Nat.one_le_pow _ _ (by omega))
  simp only [decide_eq_true_eq] at h10
  have e1 : Int.tdiv n 10 = n / 10:=Int.tdiv_eq_ediv_of_nonneg h0
  have e2 : Int.tmod n 10 = n % 10:=Int.tmod_eq_emod_of_nonneg h0
  have hp : (10 : Int) ^ (d + 1 + 1) = 10 ^ (d + 1) * 10:=by rw [Int.pow_succ]
  have hb : (10 : Int) ^ (d + 1) ≤ 10 ^ 15:=by
   have : (10 : Nat) ^ (d + 1) ≤ 10 ^ 15:=Nat.pow_le_pow_right (by omega) (by omega)
   exact_mod_cast this
  have h10p : (10 : Int) ≤ 10 ^ (d + 1):=by
   have : (10 : Nat) ^ 1 ≤ 10 ^ (d + 1):=Nat.pow_le_pow_right (by omega) (by omega)
   exact_mod_cast this
  have hb15 : (10 : Int) ^ 15 = 1000000000000000:=by decide
  rw [e1,e2,ao (by omega) (by omega)]
  refine ad (ih m (n / 10) (by omega) (by omega) (by omega) (by omega)) fun x1 hx1 => ?_
  refine ad (ih m (n % 10) (by omega) (by omega) (by omega) (by omega)) fun x2 hx2 => ?_
  have hpow : 2 ^ d ≤ 2 ^ 15:=Nat.pow_le_pow_right (by omega) (by omega)
  rw [cH (by have:=hx1.1; have:=hx2.1; omega),At]
  refine aa ⟨?_,fun b hb => ?_⟩
  ·rw [Aw,Nat.pow_succ]
   have:=hx1.1
   have:=hx2.1
   omega
  ·rcases List.mem_append.1 hb with hb | hb
   ·exact hx1.2 b hb
   ·exact hx2.2 b hb
theorem rU {n : Int} (h0 : 0 ≤ n) (h1 : n ≤ 1000000) : Gv (bz n) fun s => s.length ≤ 64 ∧ ∀ b ∈ s,b ≠ 45:=by
 unfold bz
 exact u7 6 63 n (by omega) h0 (by omega) (by omega)
theorem tE {L Q : Nat} (hL : L ≤ 10) (hQ : Q ≤ 10) {c : Conf} (hc : CB L Q c) : Gv (eT c) fun s => ∀ b ∈ s,b ≠ 45:=by
 unfold eT
 refine ad (P:=fun s => s.length ≤ 1000 ∧ ∀ b ∈ s,b ≠ 45) ?_ fun s hs => ?_
 ·refine gh (fun t : List UInt8 × Int => 1 ≤ t.2 ∧ t.2 ≤ 11 ∧ (t.1.length : Int) ≤ 6 + 30 * t.2 ∧ ∀ b ∈ t.1,b ≠ 45) (fun t => (11 - t.2).toNat) ?_ ⟨by dsimp only; omega,by dsimp only; omega,by dsimp only; simp,by decide⟩
  rintro ⟨s,i⟩ ⟨h1,h2,h3,h4⟩
  dsimp only at h1 h2 h3 h4
  unfold kq
  dsimp only
  refine ae (fun hlt => ?_) fun _ => aa (.inr ⟨s,rfl,by omega,h4⟩)
  simp only [decide_eq_true_eq] at hlt
  have hl:=hc.lab
  rw [cH (by simp; omega),At]
  refine ad (dF (by omega) hlt) fun x hx => ?_
  have hxl:=hc.labs x hx.1
  rw [cH (by simp; omega),At]
  refine aa (.inl ⟨_,rfl,?_,?_⟩)
  ·rw [ao (x:=i + 1) (by omega) (by omega)]
   dsimp only
   simp only [Aw,List.length_cons,List.length_nil]
   exact ⟨by omega,by omega,by omega,iJ (iJ h4 (by decide)) (hc.nl x hx.1)⟩
  ·rw [ao (x:=i + 1) (by omega) (by omega)]
   dsimp only
   omega
 ·obtain ⟨hs,hsn⟩:=hs
  rw [cH (by simp; omega),At]
  refine ad (P:=fun s => ∀ b ∈ s,b ≠ 45) ?_ fun _ h => aa h
  refine aw (fun (s : List UInt8) i => (s,i)) c.Queues.length (fun k s => s.length ≤ 1001 + k * 3000 ∧ ∀ b ∈ s,b ≠ 45) (step:=fk c) (by have:=hc.qs; omega) ?_ ?_ (s:=_) ⟨by simp; omega,iJ hsn (by decide)⟩
  ·rintro k hk s ⟨hs,hsn⟩
   have hq:=hc.q _ (List.getElem_mem hk)
   have hp:=hq.path
   have hqs:=hc.qs
   unfold fk
   dsimp only
   rw [aj hk,cond_true,ai hk,At,cH (by simp; omega),At,cH (by simp; omega),At,cH (by simp; omega),At]
   refine ad (rU hq.user.1 hq.user.2) fun x2 hx2 => ?_
   obtain ⟨hx2,hn2⟩:=hx2
   rw [cH (by simp; omega),At]
   refine ad (P:=fun m => m.length ≤ 1001 + k * 3000 + 200 + 10 * 200 ∧ ∀ b ∈ m,b ≠ 45) ?_ fun m hm => ?_
   ·refine aw (fun (s : List UInt8) i => (s,i)) c.Queues[k].Caps.length (fun j m => m.length ≤ 1001 + k * 3000 + 200 + j * 200 ∧ ∀ b ∈ m,b ≠ 45) (step:=fm c.Queues[k]) (by have:=hq.caps; omega) ?_ ?_ (s:=_) ⟨by simp; omega,iJ (iJ (iJ (iJ hsn (by decide)) hq.nd) (by decide)) hn2⟩
    ·rintro j hj m ⟨hm,hmn⟩
     have hcap:=hq.cap _ (List.getElem_mem hj)
     have hcl:=hq.caps
     unfold fm
     dsimp only
     rw [aj hj,cond_true,cH (by simp; omega),At]
     simp only [ai hj,At]
     refine ad (rU hcap.1.1 hcap.1.2) fun x4 hx4 => ?_
     obtain ⟨hx4,hn4⟩:=hx4
     rw [cH (by simp; omega),At,cH (by simp; omega),At]
     refine ad (rU hcap.2.1 hcap.2.2) fun x6 hx6 => ?_
     obtain ⟨hx6,hn6⟩:=hx6
     rw [cH (by simp; omega),At]
     exact aa (.inl ⟨_,rfl,by simp only [Aw,List.length_cons,List.length_nil]; omega,iJ (iJ (iJ (iJ hmn (by decide)) hn4) (by decide)) hn6⟩)
    ·rintro m ⟨hm,hmn⟩
     have hcl:=hq.caps
     unfold fm
     dsimp only
     rw [ar,cond_false]
     exact aa ⟨m,rfl,by omega,hmn⟩
   ·obtain ⟨hm,hmn⟩:=hm
    rw [cH (by simp; omega),At]
    exact aa (.inl ⟨_,rfl,by simp only [Aw,List.length_cons,List.length_nil]; omega,iJ hmn (by decide)⟩)
  ·rintro s ⟨hs,hsn⟩
   unfold fk
   dsimp only
   rw [ar,cond_false]
   exact aa ⟨s,rfl,hsn⟩
theorem tB : ∀ (l : List Queue),l ≠ [] → ∃ q ∈ l,∀ x ∈ l,x.Path.length ≤ q.Path.length
 | [],h => absurd rfl h
 | [q],_ => ⟨q,by simp,by simp⟩
 | q :: r :: l,_ => by
  obtain ⟨m,hm,h⟩:=tB (r :: l) (by simp)
  by_cases hq : q.Path.length ≤ m.Path.length
  ·refine ⟨m,by simp [hm],fun x hx => ?_⟩
   rcases List.mem_cons.1 hx with rfl | hx
   ·exact hq
   ·exact h x hx
  ·refine ⟨q,by simp,fun x hx => ?_⟩
   rcases List.mem_cons.1 hx with rfl | hx
   ·exact Nat.le_refl _
   ·have:=h x hx; omega
theorem tj {c : Conf} (h : ConfOk c) : ∃ q ∈ c.Queues,pLeaf c q.Path = true:=by
 have hq:=h.qs
 obtain ⟨q,hq,hmax⟩:=tB c.Queues (by intro e; rw [e] at hq; simp at hq)
 refine ⟨q,hq,?_⟩
 obtain ⟨q',e,_⟩:=kN hq
 have hk : pKids c q.Path = []:=by
  cases hk : pKids c q.Path with
  | nil => rfl
  | cons x l =>
   have hx : x ∈ pKids c q.Path:=by rw [hk]; simp
   obtain ⟨hp,y,hy,rfl,ha⟩:=cN hx
   have hne : y.Path ≠ []:=fun e => by rw [e] at ha; exact hp ha.symm
   have:=dl hne
   have:=hmax y hy
   rw [ha] at *
   omega
 unfold pLeaf
 rw [e,hk]
 rfl
def lH (c : Conf) : List Str:=(c.Queues.filter fun q => pLeaf c q.Path).map (·.Path)
theorem u5 {c : Conf} (h : ConfOk c) : fT c = some (lH c):=by
 have hq:=h.qs
 unfold fT
 have e:=bi (fun (l : List Str) i => (l,i)) c.Queues (fun q => pLeaf c q.Path) (·.Path) (step:=dw c) (by omega) ?_ ?_
 ·rw [e]; rfl
 ·intro k hk l hl
  unfold dw
  dsimp only
  rw [aj hk,cond_true]
  simp only [ai hk,At]
  rw [pO h.small,At]
  cases hp : pLeaf c c.Queues[k].Path
  ·rfl
  ·rw [cond_true,ah (by simp; omega) (by omega)]
   rfl
 ·intro l
  unfold dw
  rw [ar]
  rfl
theorem tf {c : Conf} (h : ConfOk c) : 0 < (lH c).length ∧ (lH c).length ≤ 16:=by
 obtain ⟨q,hq,hl⟩:=tj h
 have hqs:=h.qs
 constructor
 ·exact List.length_pos_of_mem (a:=q.Path) (List.mem_map.2 ⟨q,List.mem_filter.2 ⟨hq,hl⟩,rfl⟩)
 ·unfold lH
  rw [List.length_map]
  exact Nat.le_trans (List.length_filter_le _ _) hqs.2
theorem oK (n : Int) : Gv (cJ n) fun _ => True:=by
 unfold cJ
 refine ad (bc n (n:=5) (by omega) (by omega)) fun x hx => ?_
 refine ad (jh hx.1 (by simp; omega)) ?_
 rintro i rfl
 exact ad (b_ (jl (by simp; omega))) fun _ _ => aa trivial
theorem vc {N : Nat} {s : State} (h : Inv N s) (a : Act) : Gv (cY a s) InOk:=by
 have hal:=h.al
 have hcl:=h.cl
 have hlb:=h.cf.lab
 unfold cY
 refine ae (fun _ => aa ⟨by simp,by simp,by simp,by simp⟩) fun hz => ?_
 have hz : (s.Apps.length : Int) ≠ 0:=by simpa using hz
 refine ad (bc a.A (n:=s.Apps.length) (by omega) (by omega)) fun x hx => ?_
 refine ad (b_ (dF hx.1 hx.2)) fun x1 _ => ?_
 refine ad (bc a.B (n:=8) (by omega) (by omega)) fun x2 _ => ?_
 refine ad (P:=fun i => i.Ids.length ≤ 0 ∧ i.Asks.length ≤ 1000 ∧ 0 ≤ i.App.User ∧ i.App.User ≤ 2 ∧ ∀ b ∈ i.Text,b ≠ 45) ?_ ?_
 ·refine ae (fun _ => ?_) fun _ => aa ⟨by simp,by simp,by simp⟩
  refine ad (b_ (bc a.B (n:=5) (by omega) (by omega))) fun x3 _ => ad (b_ (bc a.C (n:=s.Conf.Labels.length) (by omega) (by omega))) fun x4 _ =>
   ad (oK a.D) fun x5 _ => ad (b_ (bc a.D (n:=7) (by omega) (by omega))) fun x6 _ => ?_
  refine ad (P:=fun _ => True) ?_ fun k _ => ?_
  ·refine ae (fun _ => ad (b_ (bc a.C (n:=3) (by omega) (by omega))) fun _ _ => aa trivial) fun _ => aa trivial
  refine ad (P:=fun _ => True) ?_ fun k1 _ => aa ⟨by simp,by simp,by simp⟩
  refine ae (fun _ => ad (b_ (bc a.C (n:=3) (by omega) (by omega))) fun _ _ => ad (b_ (bc a.B (n:=6) (by omega) (by omega))) fun _ _ => aa trivial) fun _ => aa trivial
 ·intro i0 hi0
  refine ad (P:=InOk) ?_ fun i hi => aa hi
  refine aw (fun (i : Input) k => (i,k)) s.Conts.length (fun k i => i.Ids.length ≤ k ∧ i.Asks.length ≤ 1000 ∧ 0 ≤ i.App.User ∧ i.App.User ≤ 2 ∧ ∀ b ∈ i.Text,b ≠ 45) (step:=bU a s x1) (by omega) ?_ ?_ (s:=i0) hi0
  ·rintro k hk i ⟨q1,q2,q3⟩
   unfold bU
   dsimp only
   rw [aj hk,cond_true]
   refine ad (P:=fun i => i.Ids.length ≤ k + 1 ∧ i.Asks.length ≤ 1000 ∧ 0 ≤ i.App.User ∧ i.App.User ≤ 2 ∧ ∀ b ∈ i.Text,b ≠ 45) ?_ fun i hi => aa (.inl ⟨i,rfl,hi⟩)
   simp only [ai hk,At]
   refine ad (P:=fun _ => True) ?_ fun q _ => ?_
   ·exact ae (fun _ => ad (b_ (bc _ (n:=11) (by omega) (by omega))) fun _ _ => aa trivial) fun _ => aa trivial
   ·refine ae (fun _ => ?_) fun _ => aa ⟨by omega,q2,q3⟩
    rw [ah (by simp; omega) (by omega),At]
    exact aa ⟨by simp; omega,q2,q3⟩
  ·rintro i ⟨q1,q2,q3⟩
   unfold bU
   rw [ar]
   exact aa ⟨i,rfl,⟨by omega,q2,⟨q3.1,q3.2.1⟩,q3.2.2⟩⟩
theorem yp {N : Nat} {s : State} (h : Inv N s) (a : Act) : Gv (dA a s) InOk:=by
 have hnl:=h.nl
 have hcl:=h.cl
 have hlb:=h.cf.lab
 have hlv:=tf h.cf
 have w : ∀ (x : Int) {n : Int},0 < n → n ≤ 1000000 → Gv (am x n) fun _ => True:=fun x n h0 h1 => b_ (bc x h0 (by omega))
 have ok : ∀ {i : Input},i.Ids = [] → i.Asks = [] → i.App.User = 0 → i.Text = [] → InOk i:=fun e1 e2 e3 e4 => ⟨by rw [e1]; simp,by rw [e2]; simp,by omega,by rw [e4]; simp⟩
 unfold dA
 refine ad (w a.A (n:=6) (by omega) (by omega)) fun id_ _ => ?_
 rw [u5 h.cf,At]
 refine ad (w a.B (n:=4) (by omega) (by omega)) fun x _ => ?_
 refine ad (P:=InOk) ?_ fun i hi => aa hi
 refine ad (w a.Kind (n:=16) (by omega) (by omega)) fun x1 _ => ?_
 have tst : ∀ (c : Bool) (b d : Bool),Gv (bif c then some b else some d) fun _ => True:=fun c b d => by cases c <;> exact aa trivial
 refine ad (tst _ _ _) fun q _ => ae (fun _ => ?_) fun _ => ?_
 ·refine ad (w a.B (n:=s.Conf.Labels.length) (by omega) (by omega)) fun x2 _ => ad (w a.C (n:=3) (by omega) (by omega)) fun x3 _ => ad (w a.D (n:=12) (by omega) (by omega)) fun x4 _ =>
   ad (w a.D (n:=8) (by omega) (by omega)) fun x5 _ => aa (ok rfl rfl rfl rfl)
 refine ad (P:=fun _ => True) ?_ fun q1 _ => ae (fun _ => ?_) fun _ => ?_
 ·repeat' (first | exact ⟨_,rfl,trivial⟩ | refine ae (fun _ => ?_) (fun _ => ?_))
 ·refine ad (P:=fun i => i.Ids.length ≤ 0 ∧ i.Asks.length ≤ 1000 ∧ 0 ≤ i.App.User ∧ i.App.User ≤ 2 ∧ ∀ b ∈ i.Text,b ≠ 45) ?_ fun i0 hi0 => ?_
  ·refine aw (fun (i : Input) k => (i,k)) s.Nodes.length (fun k i => i.Ids.length ≤ 0 ∧ i.Asks.length ≤ 1000 ∧ 0 ≤ i.App.User ∧ i.App.User ≤ 2 ∧ ∀ b ∈ i.Text,b ≠ 45) (step:=cj a s id_) (by omega) ?_ ?_ (s:=_) ⟨by simp,by simp,by simp,by simp,by simp⟩
   ·rintro k hk i hi
    unfold cj
    dsimp only
    rw [aj hk,cond_true]
    refine ad (P:=fun i => i.Ids.length ≤ 0 ∧ i.Asks.length ≤ 1000 ∧ 0 ≤ i.App.User ∧ i.App.User ≤ 2 ∧ ∀ b ∈ i.Text,b ≠ 45) ?_ fun i hi => aa (.inl ⟨i,rfl,hi⟩)
    simp only [ai hk,At]
    exact ae (fun _ => ad (w a.B (n:=8) (by omega) (by omega)) fun _ _ => aa hi) fun _ => aa hi
   ·rintro i hi
    unfold cj
    rw [ar]
    exact aa ⟨i,rfl,hi⟩
  ·refine ad (P:=InOk) ?_ fun i hi => aa hi
   refine aw (fun (i : Input) k => (i,k)) s.Conts.length (fun k i => i.Ids.length ≤ k ∧ i.Asks.length ≤ 1000 ∧ 0 ≤ i.App.User ∧ i.App.User ≤ 2 ∧ ∀ b ∈ i.Text,b ≠ 45) (step:=ci a s id_) (by omega) ?_ ?_ (s:=i0) hi0
   ·rintro k hk i ⟨q1,q2,q3⟩
    unfold ci
    dsimp only
    rw [aj hk,cond_true]
    refine ad (P:=fun i => i.Ids.length ≤ k + 1 ∧ i.Asks.length ≤ 1000 ∧ 0 ≤ i.App.User ∧ i.App.User ≤ 2 ∧ ∀ b ∈ i.Text,b ≠ 45) ?_ fun i hi => aa (.inl ⟨i,rfl,hi⟩)
    simp only [ai hk,At]
    refine ad (P:=fun _ => True) ?_ fun q _ => ?_
    ·exact ae (fun _ => ad (w _ (n:=9) (by omega) (by omega)) fun _ _ => aa trivial) fun _ => aa trivial
    ·refine ae (fun _ => ?_) fun _ => aa ⟨by omega,q2,q3⟩
     rw [ah (by simp; omega) (by omega),At]
     exact aa ⟨by simp; omega,q2,q3⟩
   ·rintro i ⟨q1,q2,q3⟩
    unfold ci
    rw [ar]
    exact aa ⟨i,rfl,⟨by omega,q2,⟨q3.1,q3.2.1⟩,q3.2.2⟩⟩
 refine ad (tst _ _ _) fun q3 _ => ae (fun _ => ?_) fun _ => ?_
 ·refine ad (w a.A (n:=20) (by omega) (by omega)) fun x16 _ => ad (bc a.B (n:=(lH s.Conf).length) (by omega) (by omega)) fun x17 hx17 => ?_
  refine ad (jh hx17.1 hx17.2) ?_
  rintro i rfl
  refine ad (b_ (jl (by omega))) fun x18 _ => ad (bc a.C (n:=3) (by omega) (by omega)) fun x19 hx19 => ad (w a.D (n:=3) (by omega) (by omega)) fun x20 _ => ad (oK _) fun x21 _ => aa ⟨by simp,by simp,by dsimp only; omega,by simp⟩
 refine ad (P:=fun _ => True) ?_ fun q4 _ => ae (fun _ => ?_) fun _ => ?_
 ·repeat' (first | exact ⟨_,rfl,trivial⟩ | refine ae (fun _ => ?_) (fun _ => ?_))
 ·exact ad (vc h a) fun i hi => aa hi
 refine ae (fun _ => ?_) fun _ => ?_
 ·refine ad (bc a.B (n:=2) (by omega) (by omega)) fun x23 hx => ?_
  refine ad (jh hx.1 (by simp; omega)) ?_
  rintro i rfl
  exact ad (b_ (jl (by simp; omega))) fun x24 _ => ad (w a.A (n:=20) (by omega) (by omega)) fun x25 _ => aa (ok rfl rfl rfl rfl)
 refine ad (tst _ _ _) fun q5 _ => ae (fun _ => ?_) fun _ => ?_
 ·exact ad (w a.A (n:=5) (by omega) (by omega)) fun x26 _ => aa (ok rfl rfl rfl rfl)
 refine ae (fun _ => ?_) fun _ => ?_
 ·refine ad (bc a.D (n:=3) (by omega) (by omega)) fun x27 hx => ?_
  refine ad (jh hx.1 (by simp; omega)) ?_
  rintro i rfl
  exact ad (b_ (jl (by simp; omega))) fun x28 _ => ad (w a.B (n:=s.Conf.Labels.length) (by omega) (by omega)) fun x29 _ => ad (w a.C (n:=5) (by omega) (by omega)) fun x30 _ => ad (oK _) fun x31 _ =>
   ad (w a.C (n:=12) (by omega) (by omega)) fun x32 _ => aa (ok rfl rfl rfl rfl)
 refine ae (fun _ => ?_) fun _ => aa (ok rfl rfl rfl rfl)
 refine ad (bc a.A (n:=3) (by omega) (by omega)) fun x33 hx => ?_
 refine ad (jh hx.1 (by simp; omega)) ?_
 rintro i rfl
 refine ad (b_ (jl (by simp; omega))) fun x34 _ => ad (tK a.B (ns:=[a.C,a.D]) (by simp)) ?_
 rintro c ⟨L,Q,hL,hQ,hc⟩
 exact ad (tE hL hQ hc) fun x36 h36 => aa ⟨by simp,by simp,by dsimp only; omega,h36⟩
def newS : State:=⟨⟨[([] : List UInt8)],[⟨root,[⟨10000,10000⟩],10000⟩]⟩,[],[],[],[],[],0,0,0⟩
theorem rl : Inv 0 newS:=by
 have hq : QOk newS.Conf 0 ⟨root,[⟨10000,10000⟩],10000⟩:=by
  refine ⟨⟨by decide,by decide,.inl rfl,by decide⟩,fun p h => absurd h (by omega),fun h => absurd h (by omega),by dsimp only; omega,rfl,fun x hx => ?_⟩
  have : x = ⟨10000,10000⟩:=by simpa using hx
  subst this
  exact ⟨by dsimp only; omega,by dsimp only; omega,by dsimp only; omega⟩
 have cf : ConfOk newS.Conf:=by
  refine ⟨by decide,rfl,by decide,by decide,⟨_,rfl,rfl,fun x hx => by simpa using hx⟩,fun i hi => ?_,fun q hq' => ?_,fun q hq' => ?_⟩
  ·have hi : i = 0:=by have : i < 1:=hi; omega
   subst hi
   exact hq
  ·have hq' : q = ⟨root,[⟨10000,10000⟩],10000⟩:=by simpa [newS] using hq'
   subst hq'
   intro hk
   exact absurd (by decide) hk
  ·have hq' : q = ⟨root,[⟨10000,10000⟩],10000⟩:=by simpa [newS] using hq'
   subst hq'
   decide
 have no : ∀ {α : Type} {P : α → Prop},∀ x ∈ ([] : List α),P x:=fun x hx => (List.not_mem_nil hx).elim
 exact ⟨cf,(by decide),List.Pairwise.nil,no,(by decide),List.Pairwise.nil,no,(by decide),List.Pairwise.nil,no,List.Pairwise.nil,no,(by decide),List.Pairwise.nil,no,(by decide),(by decide),(by decide)⟩
theorem z5 : jx = some newS:=rfl
theorem xP (x : Script) (h1 : x.Ns.length ≤ 30) (h2 : x.Acts.length ≤ 80) : Gv (bn x) (Inv 400000):=by
 unfold bn
 rw [z5,At]
 refine ad (tK x.Shape (ns:=x.Ns) (by omega)) ?_
 rintro c ⟨L,Q,hL,hQ,hc⟩
 refine ad (tE hL hQ hc) fun x3 hx3 => ?_
 refine ad (tZ (by omega) rl ⟨by simp,by simp,by simp,hx3⟩) fun x4 hx4 => ?_
 refine ad (P:=Inv 4000) ?_ fun s hs => ?_
 ·exact ae (fun _ => aa (hx4.mono (by omega))) fun _ => aa (rl.mono (by omega))
 ·refine ad (P:=Inv 400000) ?_ fun t ht => aa ht
  refine aw (fun (s : State) k => (s,k)) x.Acts.length (fun k s => Inv (4000 + 4000 * k) s) (step:=bC x) (by omega) ?_ ?_ (s:=s) hs
  ·intro k hk t ht
   unfold bC
   dsimp only
   rw [aj hk,cond_true,ai hk,At]
   refine ad (yp ht _) fun i hi => ad (tZ (by omega) ht hi) fun r hr => aa (.inl ⟨r.1,rfl,hr.mono (by omega)⟩)
  ·intro t ht
   unfold bC
   rw [ar]
   exact aa ⟨t,rfl,ht.mono (by omega)⟩
end Go.Fx.D
