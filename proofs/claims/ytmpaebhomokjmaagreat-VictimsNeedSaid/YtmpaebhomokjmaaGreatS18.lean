/-
  The reference manager: what holds of its state after every script. Conditions: none.
-/
import Derived.Test.YtmpaebhomokjmaaGreatS17
namespace Go.Fx.D
open Go Go.Fx
set_option linter.unusedVariables false
set_option linter.unusedSimpArgs false
theorem lF {s t : List UInt8} (hs : ∀ b ∈ s,b ≠ 45) (ht : ∀ b ∈ t,b ≠ 45) : ∀ b ∈ s ++ t,b ≠ 45:=fun b hb => (List.mem_append.1 hb).elim (hs b) (ht b)
theorem AM {n : Int} {k : Nat} (h0 : 0 ≤ n) (h1 : n < 10) (hk : 1 ≤ k) : Gv (some (List.map toB [IntKind.u8.wrap (w64 (48 + n))])) fun s => s.length ≤ k ∧ ∀ b ∈ s,b ≠ 45:=by
 refine aa ⟨by simpa using hk,?_⟩
 have : n = 0 ∨ n = 1 ∨ n = 2 ∨ n = 3 ∨ n = 4 ∨ n = 5 ∨ n = 6 ∨ n = 7 ∨ n = 8 ∨ n = 9:=by omega
 rcases this with rfl | rfl | rfl | rfl | rfl | rfl | rfl | rfl | rfl | rfl <;> decide +kernel
theorem Du : ∀ (d m : Nat) (n : Int),d ≤ m → 0 ≤ n → n < 10 ^ (d + 1) → d ≤ 15 → Gv (bU (m + 1) n) fun s => s.length ≤ 2 ^ d ∧ ∀ b ∈ s,b ≠ 45:=by
 intro d
 induction d with
 | zero =>
  intro m n _ h0 h1 _
  show Gv (cN (bU m) n) _
  unfold cN
  have h1 : n < 10:=by simpa using h1
  rw [decide_eq_false (by omega),cond_false,decide_eq_false (by omega),cond_false]
  exact AM h0 h1 (by decide)
 | succ d ih =>
  intro m n hm h0 h1 hd
  obtain ⟨m,rfl⟩ : ∃ k,m = k + 1:=⟨m - 1,by omega⟩
  show Gv (cN (bU (m + 1)) n) _
  unfold cN
  rw [decide_eq_false (by omega : ¬ n < 0),cond_false]
  refine ae (fun h10 => ?_) fun h10 => AM h0 (by simp only [decide_eq_false_iff_not] at h10; omega) (Nat.one_le_pow _ _ (by omega))
  simp only [decide_eq_true_eq] at h10
  have e1 : Int.tdiv n 10 = n / 10:=Int.tdiv_eq_ediv_of_nonneg h0
  have e2 : Int.tmod n 10 = n % 10:=Int.tmod_eq_emod_of_nonneg h0
  have hp : (10 : Int) ^ (d + 1 + 1) = 10 ^ (d + 1) * 10:=by rw [Int.pow_succ]
  have hb : (10 : Int) ^ (d + 1) ≤ 10 ^ 15:=by
   have : (10 : Nat) ^ (d + 1) ≤ 10 ^ 15:=Nat.pow_le_pow_right (by omega) (by omega)
   exact_mod_cast this
  have h10p : (10 : Int) ≤ 10 ^ (d + 1):=by
   have : (10 : Nat) ^ 1 ≤ 10 ^ (d + 1):=Nat.pow_le_pow_right (by omega) (by omega)
   exact_mod_cast this
  have hb15 : (10 : Int) ^ 15 = 1000000000000000:=by decide
  rw [e1,e2,ao (by omega) (by omega)]
  refine ad (ih m (n / 10) (by omega) (by omega) (by omega) (by omega)) fun x1 hx1 => ?_
  refine ad (ih m (n % 10) (by omega) (by omega) (by omega) (by omega)) fun x2 hx2 => ?_
  have hpow : 2 ^ d ≤ 2 ^ 15:=Nat.pow_le_pow_right (by omega) (by omega)
  rw [dR (by have:=hx1.1; have:=hx2.1; omega),Jw]
  refine aa ⟨?_,fun b hb => ?_⟩
  ·rw [Jz,Nat.pow_succ]
   have:=hx1.1
   have:=hx2.1
   omega
  ·rcases List.mem_append.1 hb with hb | hb
   ·exact hx1.2 b hb
   ·exact hx2.2 b hb
theorem Aa {n : Int} (h0 : 0 ≤ n) (h1 : n ≤ 1000000) : Gv (cj n) fun s => s.length ≤ 64 ∧ ∀ b ∈ s,b ≠ 45:=by
 unfold cj
 exact Du 6 63 n (by omega) h0 (by omega) (by omega)
theorem BR {L Q : Nat} (hL : L ≤ 10) (hQ : Q ≤ 10) {c : Conf} (hc : CB L Q c) : Gv (gY c) fun s => ∀ b ∈ s,b ≠ 45:=by
 unfold gY
 refine ad (P:=fun s => s.length ≤ 1000 ∧ ∀ b ∈ s,b ≠ 45) ?_ fun s hs => ?_
 ·refine gj (fun t : List UInt8 × Int => 1 ≤ t.2 ∧ t.2 ≤ 11 ∧ (t.1.length : Int) ≤ 6 + 30 * t.2 ∧ ∀ b ∈ t.1,b ≠ 45) (fun t => (11 - t.2).toNat) ?_ ⟨by dsimp only; omega,by dsimp only; omega,by dsimp only; simp,by decide⟩
  rintro ⟨s,i⟩ ⟨h1,h2,h3,h4⟩
  dsimp only at h1 h2 h3 h4
  unfold o6
  dsimp only
  refine ae (fun hlt => ?_) fun _ => aa (.inr ⟨s,rfl,by omega,h4⟩)
  simp only [decide_eq_true_eq] at hlt
  have hl:=hc.lab
  rw [dR (by simp; omega),Jw]
  refine ad (fA (by omega) hlt) fun x hx => ?_
  have hxl:=hc.labs x hx.1
  rw [dR (by simp; omega),Jw]
  refine aa (.inl ⟨_,rfl,?_,?_⟩)
  ·rw [ao (x:=i + 1) (by omega) (by omega)]
   dsimp only
   simp only [Jz,List.length_cons,List.length_nil]
   exact ⟨by omega,by omega,by omega,lF (lF h4 (by decide)) (hc.nl x hx.1)⟩
  ·rw [ao (x:=i + 1) (by omega) (by omega)]
   dsimp only
   omega
 ·obtain ⟨hs,hsn⟩:=hs
  rw [dR (by simp; omega),Jw]
  refine ad (P:=fun s => ∀ b ∈ s,b ≠ 45) ?_ fun _ h => aa h
  refine aG (fun (s : List UInt8) i => (s,i)) c.Queues.length (fun k s => s.length ≤ 1001 + k * 3000 ∧ ∀ b ∈ s,b ≠ 45) (step:=iu c) (by have:=hc.qs; omega) ?_ ?_ (s:=_) ⟨by simp; omega,lF hsn (by decide)⟩
  ·rintro k hk s ⟨hs,hsn⟩
   have hq:=hc.q _ (List.getElem_mem hk)
   have hp:=hq.path
   have hqs:=hc.qs
   unfold iu
   dsimp only
   rw [aj hk,cond_true,ai hk,Jw,dR (by simp; omega),Jw,dR (by simp; omega),Jw,dR (by simp; omega),Jw]
   refine ad (Aa hq.user.1 hq.user.2) fun x2 hx2 => ?_
   obtain ⟨hx2,hn2⟩:=hx2
   rw [dR (by simp; omega),Jw]
   refine ad (P:=fun m => m.length ≤ 1001 + k * 3000 + 200 + 10 * 200 ∧ ∀ b ∈ m,b ≠ 45) ?_ fun m hm => ?_
   ·refine aG (fun (s : List UInt8) i => (s,i)) c.Queues[k].Caps.length (fun j m => m.length ≤ 1001 + k * 3000 + 200 + j * 200 ∧ ∀ b ∈ m,b ≠ 45) (step:=ie c.Queues[k]) (by have:=hq.caps; omega) ?_ ?_ (s:=_) ⟨by simp; omega,lF (lF (lF (lF hsn (by decide)) hq.nd) (by decide)) hn2⟩
    ·rintro j hj m ⟨hm,hmn⟩
     have hcap:=hq.cap _ (List.getElem_mem hj)
     have hcl:=hq.caps
     unfold ie
     dsimp only
     rw [aj hj,cond_true,dR (by simp; omega),Jw]
     simp only [ai hj,Jw]
     refine ad (Aa hcap.1.1 hcap.1.2) fun x4 hx4 => ?_
     obtain ⟨hx4,hn4⟩:=hx4
     rw [dR (by simp; omega),Jw,dR (by simp; omega),Jw]
     refine ad (Aa hcap.2.1 hcap.2.2) fun x6 hx6 => ?_
     obtain ⟨hx6,hn6⟩:=hx6
     rw [dR (by simp; omega),Jw]
     exact aa (.inl ⟨_,rfl,by simp only [Jz,List.length_cons,List.length_nil]; omega,lF (lF (lF (lF hmn (by decide)) hn4) (by decide)) hn6⟩)
    ·rintro m ⟨hm,hmn⟩
     have hcl:=hq.caps
     unfold ie
     dsimp only
     rw [ar,cond_false]
     exact aa ⟨m,rfl,by omega,hmn⟩
   ·obtain ⟨hm,hmn⟩:=hm
    rw [dR (by simp; omega),Jw]
    exact aa (.inl ⟨_,rfl,by simp only [Jz,List.length_cons,List.length_nil]; omega,lF hmn (by decide)⟩)
  ·rintro s ⟨hs,hsn⟩
   unfold iu
   dsimp only
   rw [ar,cond_false]
   exact aa ⟨s,rfl,hsn⟩
theorem CK : ∀ (l : List Queue),l ≠ [] → ∃ q ∈ l,∀ x ∈ l,x.Path.length ≤ q.Path.length
 | [],h => absurd rfl h
 | [q],_ => ⟨q,by simp,by simp⟩
 | q :: r :: l,_ => by
  obtain ⟨m,hm,h⟩:=CK (r :: l) (by simp)
  by_cases hq : q.Path.length ≤ m.Path.length
  ·refine ⟨m,by simp [hm],fun x hx => ?_⟩
   rcases List.mem_cons.1 hx with rfl | hx
   ·exact hq
   ·exact h x hx
  ·refine ⟨q,by simp,fun x hx => ?_⟩
   rcases List.mem_cons.1 hx with rfl | hx
   ·exact Nat.le_refl _
   ·have:=h x hx; omega
theorem BN {c : Conf} (h : ConfOk c) : ∃ q ∈ c.Queues,pLeaf c q.Path = true:=by
 have hq:=h.qs
 obtain ⟨q,hq,hmax⟩:=CK c.Queues (by intro e; rw [e] at hq; simp at hq)
 refine ⟨q,hq,?_⟩
 obtain ⟨q',e,_⟩:=pz hq
 have hk : pKids c q.Path = []:=by
  cases hk : pKids c q.Path with
  | nil => rfl
  | cons x l =>
   have hx : x ∈ pKids c q.Path:=by rw [hk]; simp
   obtain ⟨hp,y,hy,rfl,ha⟩:=d5 hx
   have hne : y.Path ≠ []:=fun e => by rw [e] at ha; exact hp ha.symm
   have:=fh hne
   have:=hmax y hy
   rw [ha] at *
   omega
 unfold pLeaf
 rw [e,hk]
 rfl
def rB (c : Conf) : List Str:=(c.Queues.filter fun q => pLeaf c q.Path).map (·.Path)
theorem C6 {c : Conf} (h : ConfOk c) : i_ c = some (rB c):=by
 have hq:=h.qs
 unfold i_
 have e:=bS (fun (l : List Str) i => (l,i)) c.Queues (fun q => pLeaf c q.Path) (·.Path) (step:=fk c) (by omega) ?_ ?_
 ·rw [e]; rfl
 ·intro k hk l hl
  unfold fk
  dsimp only
  rw [aj hk,cond_true]
  simp only [ai hk,Jw]
  rw [xS h.small,Jw]
  cases hp : pLeaf c c.Queues[k].Path
  ·rfl
  ·rw [cond_true,am (by simp; omega) (by omega)]
   rfl
 ·intro l
  unfold fk
  rw [ar]
  rfl
theorem BL {c : Conf} (h : ConfOk c) : 0 < (rB c).length ∧ (rB c).length ≤ 16:=by
 obtain ⟨q,hq,hl⟩:=BN h
 have hqs:=h.qs
 constructor
 ·exact List.length_pos_of_mem (a:=q.Path) (List.mem_map.2 ⟨q,List.mem_filter.2 ⟨hq,hl⟩,rfl⟩)
 ·unfold rB
  rw [List.length_map]
  exact Nat.le_trans (List.length_filter_le _ _) hqs.2
theorem wJ (n : Int) : Gv (dX n) fun _ => True:=by
 unfold dX
 refine ad (bA n (n:=5) (by omega) (by omega)) fun x hx => ?_
 refine ad (mD hx.1 (by simp; omega)) ?_
 rintro i rfl
 exact ad (dj (my (by simp; omega))) fun _ _ => aa trivial
theorem De {N : Nat} {s : State} (h : Inv N s) (a : Act) : Gv (d9 a s) InOk:=by
 have hal:=h.al
 have hcl:=h.cl
 have hlb:=h.cf.lab
 unfold d9
 refine ae (fun _ => aa ⟨by simp,by simp,by simp,by simp⟩) fun hz => ?_
 have hz : (s.Apps.length : Int) ≠ 0:=by simpa using hz
 refine ad (bA a.A (n:=s.Apps.length) (by omega) (by omega)) fun x hx => ?_
 refine ad (dj (fA hx.1 hx.2)) fun x1 _ => ?_
 refine ad (bA a.B (n:=8) (by omega) (by omega)) fun x2 _ => ?_
 refine ad (P:=fun i => i.Ids.length ≤ 0 ∧ i.Asks.length ≤ 1000 ∧ 0 ≤ i.App.User ∧ i.App.User ≤ 2 ∧ ∀ b ∈ i.Text,b ≠ 45) ?_ ?_
 ·refine ae (fun _ => ?_) fun _ => aa ⟨by simp,by simp,by simp⟩
  refine ad (dj (bA a.B (n:=5) (by omega) (by omega))) fun x3 _ => ad (dj (bA a.C (n:=s.Conf.Labels.length) (by omega) (by omega))) fun x4 _ =>
   ad (wJ a.D) fun x5 _ => ad (dj (bA a.D (n:=7) (by omega) (by omega))) fun x6 _ => ?_
  refine ad (P:=fun _ => True) ?_ fun k _ => ?_
  ·refine ae (fun _ => ad (dj (bA a.C (n:=3) (by omega) (by omega))) fun _ _ => aa trivial) fun _ => aa trivial
  refine ad (P:=fun _ => True) ?_ fun k1 _ => aa ⟨by simp,by simp,by simp⟩
  refine ae (fun _ => ad (dj (bA a.C (n:=3) (by omega) (by omega))) fun _ _ => ad (dj (bA a.B (n:=6) (by omega) (by omega))) fun _ _ => aa trivial) fun _ => aa trivial
 ·intro i0 hi0
  refine ad (P:=InOk) ?_ fun i hi => aa hi
  refine aG (fun (i : Input) k => (i,k)) s.Conts.length (fun k i => i.Ids.length ≤ k ∧ i.Asks.length ≤ 1000 ∧ 0 ≤ i.App.User ∧ i.App.User ≤ 2 ∧ ∀ b ∈ i.Text,b ≠ 45) (step:=cZ a s x1) (by omega) ?_ ?_ (s:=i0) hi0
  ·rintro k hk i ⟨q1,q2,q3⟩
   unfold cZ
   dsimp only
   rw [aj hk,cond_true]
   refine ad (P:=fun i => i.Ids.length ≤ k + 1 ∧ i.Asks.length ≤ 1000 ∧ 0 ≤ i.App.User ∧ i.App.User ≤ 2 ∧ ∀ b ∈ i.Text,b ≠ 45) ?_ fun i hi => aa (.inl ⟨i,rfl,hi⟩)
   simp only [ai hk,Jw]
   refine ad (P:=fun _ => True) ?_ fun q _ => ?_
   ·exact ae (fun _ => ad (dj (bA _ (n:=11) (by omega) (by omega))) fun _ _ => aa trivial) fun _ => aa trivial
   ·refine ae (fun _ => ?_) fun _ => aa ⟨by omega,q2,q3⟩
    rw [am (by simp; omega) (by omega),Jw]
    exact aa ⟨by simp; omega,q2,q3⟩
  ·rintro i ⟨q1,q2,q3⟩
   unfold cZ
   rw [ar]
   exact aa ⟨i,rfl,⟨by omega,q2,⟨q3.1,q3.2.1⟩,q3.2.2⟩⟩
theorem Hm {N : Nat} {s : State} (h : Inv N s) (a : Act) : Gv (fp a s) InOk:=by
 have hnl:=h.nl
 have hcl:=h.cl
 have hlb:=h.cf.lab
 have hlv:=BL h.cf
 have w : ∀ (x : Int) {n : Int},0 < n → n ≤ 1000000 → Gv (au x n) fun _ => True:=fun x n h0 h1 => dj (bA x h0 (by omega))
 have ok : ∀ {i : Input},i.Ids = [] → i.Asks = [] → i.App.User = 0 → i.Text = [] → InOk i:=fun e1 e2 e3 e4 => ⟨by rw [e1]; simp,by rw [e2]; simp,by omega,by rw [e4]; simp⟩
 unfold fp
 refine ad (w a.A (n:=6) (by omega) (by omega)) fun id_ _ => ?_
 rw [C6 h.cf,Jw]
 refine ad (w a.B (n:=4) (by omega) (by omega)) fun x _ => ?_
 refine ad (P:=InOk) ?_ fun i hi => aa hi
 refine ad (w a.Kind (n:=16) (by omega) (by omega)) fun x1 _ => ?_
 have tst : ∀ (c : Bool) (b d : Bool),Gv (bif c then some b else some d) fun _ => True:=fun c b d => by cases c <;> exact aa trivial
 refine ad (tst _ _ _) fun q _ => ae (fun _ => ?_) fun _ => ?_
 ·refine ad (w a.B (n:=s.Conf.Labels.length) (by omega) (by omega)) fun x2 _ => ad (w a.C (n:=3) (by omega) (by omega)) fun x3 _ => ad (w a.D (n:=12) (by omega) (by omega)) fun x4 _ =>
   ad (w a.D (n:=8) (by omega) (by omega)) fun x5 _ => aa (ok rfl rfl rfl rfl)
 refine ad (P:=fun _ => True) ?_ fun q1 _ => ae (fun _ => ?_) fun _ => ?_
 ·repeat' (first | exact ⟨_,rfl,trivial⟩ | refine ae (fun _ => ?_) (fun _ => ?_))
 ·refine ad (P:=fun i => i.Ids.length ≤ 0 ∧ i.Asks.length ≤ 1000 ∧ 0 ≤ i.App.User ∧ i.App.User ≤ 2 ∧ ∀ b ∈ i.Text,b ≠ 45) ?_ fun i0 hi0 => ?_
  ·refine aG (fun (i : Input) k => (i,k)) s.Nodes.length (fun k i => i.Ids.length ≤ 0 ∧ i.Asks.length ≤ 1000 ∧ 0 ≤ i.App.User ∧ i.App.User ≤ 2 ∧ ∀ b ∈ i.Text,b ≠ 45) (step:=dz a s id_) (by omega) ?_ ?_ (s:=_) ⟨by simp,by simp,by simp,by simp,by simp⟩
   ·rintro k hk i hi
    unfold dz
    dsimp only
    rw [aj hk,cond_true]
    refine ad (P:=fun i => i.Ids.length ≤ 0 ∧ i.Asks.length ≤ 1000 ∧ 0 ≤ i.App.User ∧ i.App.User ≤ 2 ∧ ∀ b ∈ i.Text,b ≠ 45) ?_ fun i hi => aa (.inl ⟨i,rfl,hi⟩)
    simp only [ai hk,Jw]
    exact ae (fun _ => ad (w a.B (n:=8) (by omega) (by omega)) fun _ _ => aa hi) fun _ => aa hi
   ·rintro i hi
    unfold dz
    rw [ar]
    exact aa ⟨i,rfl,hi⟩
  ·refine ad (P:=InOk) ?_ fun i hi => aa hi
   refine aG (fun (i : Input) k => (i,k)) s.Conts.length (fun k i => i.Ids.length ≤ k ∧ i.Asks.length ≤ 1000 ∧ 0 ≤ i.App.User ∧ i.App.User ≤ 2 ∧ ∀ b ∈ i.Text,b ≠ 45) (step:=du a s id_) (by omega) ?_ ?_ (s:=i0) hi0
   ·rintro k hk i ⟨q1,q2,q3⟩
    unfold du
    dsimp only
    rw [aj hk,cond_true]
    refine ad (P:=fun i => i.Ids.length ≤ k + 1 ∧ i.Asks.length ≤ 1000 ∧ 0 ≤ i.App.User ∧ i.App.User ≤ 2 ∧ ∀ b ∈ i.Text,b ≠ 45) ?_ fun i hi => aa (.inl ⟨i,rfl,hi⟩)
    simp only [ai hk,Jw]
    refine ad (P:=fun _ => True) ?_ fun q _ => ?_
    ·exact ae (fun _ => ad (w _ (n:=9) (by omega) (by omega)) fun _ _ => aa trivial) fun _ => aa trivial
    ·refine ae (fun _ => ?_) fun _ => aa ⟨by omega,q2,q3⟩
     rw [am (by simp; omega) (by omega),Jw]
     exact aa ⟨by simp; omega,q2,q3⟩
   ·rintro i ⟨q1,q2,q3⟩
    unfold du
    rw [ar]
    exact aa ⟨i,rfl,⟨by omega,q2,⟨q3.1,q3.2.1⟩,q3.2.2⟩⟩
 refine ad (tst _ _ _) fun q3 _ => ae (fun _ => ?_) fun _ => ?_
 ·refine ad (w a.A (n:=20) (by omega) (by omega)) fun x16 _ => ad (bA a.B (n:=(rB s.Conf).length) (by omega) (by omega)) fun x17 hx17 => ?_
  refine ad (mD hx17.1 hx17.2) ?_
  rintro i rfl
  refine ad (dj (my (by omega))) fun x18 _ => ad (bA a.C (n:=3) (by omega) (by omega)) fun x19 hx19 => ad (w a.D (n:=3) (by omega) (by omega)) fun x20 _ => ad (wJ _) fun x21 _ => aa ⟨by simp,by simp,by dsimp only; omega,by simp⟩
 refine ad (P:=fun _ => True) ?_ fun q4 _ => ae (fun _ => ?_) fun _ => ?_
 ·repeat' (first | exact ⟨_,rfl,trivial⟩ | refine ae (fun _ => ?_) (fun _ => ?_))
 ·exact ad (De h a) fun i hi => aa hi
 refine ae (fun _ => ?_) fun _ => ?_
 ·refine ad (bA a.B (n:=2) (by omega) (by omega)) fun x23 hx => ?_
  refine ad (mD hx.1 (by simp; omega)) ?_
  rintro i rfl
  exact ad (dj (my (by simp; omega))) fun x24 _ => ad (w a.A (n:=20) (by omega) (by omega)) fun x25 _ => aa (ok rfl rfl rfl rfl)
 refine ad (tst _ _ _) fun q5 _ => ae (fun _ => ?_) fun _ => ?_
 ·exact ad (w a.A (n:=5) (by omega) (by omega)) fun x26 _ => aa (ok rfl rfl rfl rfl)
 refine ae (fun _ => ?_) fun _ => ?_
 ·refine ad (bA a.D (n:=3) (by omega) (by omega)) fun x27 hx => ?_
  refine ad (mD hx.1 (by simp; omega)) ?_
  rintro i rfl
  exact ad (dj (my (by simp; omega))) fun x28 _ => ad (w a.B (n:=s.Conf.Labels.length) (by omega) (by omega)) fun x29 _ => ad (w a.C (n:=5) (by omega) (by omega)) fun x30 _ => ad (wJ _) fun x31 _ =>
   ad (w a.C (n:=12) (by omega) (by omega)) fun x32 _ => aa (ok rfl rfl rfl rfl)
 refine ae (fun _ => ?_) fun _ => aa (ok rfl rfl rfl rfl)
 refine ad (bA a.A (n:=3) (by omega) (by omega)) fun x33 hx => ?_
 refine ad (mD hx.1 (by simp; omega)) ?_
 rintro i rfl
 refine ad (dj (my (by simp; omega))) fun x34 _ => ad (Cn a.B (ns:=[a.C,a.D]) (by simp)) ?_
 rintro c ⟨L,Q,hL,hQ,hc⟩
 exact ad (BR hL hQ hc) fun x36 h36 => aa ⟨by simp,by simp,by dsimp only; omega,h36⟩
def newS : State:=⟨⟨[([] : List UInt8)],[⟨root,[⟨10000,10000⟩],10000⟩]⟩,[],[],[],[],[],0,0,0⟩
theorem A1 : Inv 0 newS:=by
 have hq : QOk newS.Conf 0 ⟨root,[⟨10000,10000⟩],10000⟩:=by
  refine ⟨⟨by decide,by decide,.inl rfl,by decide⟩,fun p h => absurd h (by omega),fun h => absurd h (by omega),by dsimp only; omega,rfl,fun x hx => ?_⟩
  have : x = ⟨10000,10000⟩:=by simpa using hx
  subst this
  exact ⟨by dsimp only; omega,by dsimp only; omega,by dsimp only; omega⟩
 have cf : ConfOk newS.Conf:=by
  refine ⟨by decide,rfl,by decide,by decide,⟨_,rfl,rfl,fun x hx => by simpa using hx⟩,fun i hi => ?_,fun q hq' => ?_,fun q hq' => ?_⟩
  ·have hi : i = 0:=by have : i < 1:=hi; omega
   subst hi
   exact hq
  ·have hq' : q = ⟨root,[⟨10000,10000⟩],10000⟩:=by simpa [newS] using hq'
   subst hq'
   intro hk
   exact absurd (by decide) hk
  ·have hq' : q = ⟨root,[⟨10000,10000⟩],10000⟩:=by simpa [newS] using hq'
   subst hq'
   decide
 have no : ∀ {α : Type} {P : α → Prop},∀ x ∈ ([] : List α),P x:=fun x hx => (List.not_mem_nil hx).elim
 exact ⟨cf,(by decide),List.Pairwise.nil,no,(by decide),List.Pairwise.nil,no,(by decide),List.Pairwise.nil,no,List.Pairwise.nil,no,(by decide),List.Pairwise.nil,no,(by decide),(by decide),(by decide)⟩
theorem Ja : d4 = some newS:=rfl
theorem FS (x : Script) (h1 : x.Ns.length ≤ 30) (h2 : x.Acts.length ≤ 80) : Gv (b7 x) (Inv 400000):=by
 unfold b7
 rw [Ja,Jw]
 refine ad (Cn x.Shape (ns:=x.Ns) (by omega)) ?_
 rintro c ⟨L,Q,hL,hQ,hc⟩
 refine ad (BR hL hQ hc) fun x3 hx3 => ?_
 refine ad (Ct (by omega) A1 ⟨by simp,by simp,by simp,hx3⟩) fun x4 hx4 => ?_
 refine ad (P:=Inv 4000) ?_ fun s hs => ?_
 ·exact ae (fun _ => aa (hx4.mono (by omega))) fun _ => aa (A1.mono (by omega))
 ·refine ad (P:=Inv 400000) ?_ fun t ht => aa ht
  refine aG (fun (s : State) k => (s,k)) x.Acts.length (fun k s => Inv (4000 + 4000 * k) s) (step:=cp x) (by omega) ?_ ?_ (s:=s) hs
  ·intro k hk t ht
   unfold cp
   dsimp only
   rw [aj hk,cond_true,ai hk,Jw]
   refine ad (Hm ht _) fun i hi => ad (Ct (by omega) ht hi) fun r hr => aa (.inl ⟨r.1,rfl,hr.mono (by omega)⟩)
  ·intro t ht
   unfold cp
   rw [ar]
   exact aa ⟨t,rfl,ht.mono (by omega)⟩
end Go.Fx.D
