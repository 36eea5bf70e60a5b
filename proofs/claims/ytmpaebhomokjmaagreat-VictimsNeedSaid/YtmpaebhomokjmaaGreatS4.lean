/-
  The reference manager: what holds of its state after every script. Conditions: none.
-/
import Derived.Test.YtmpaebhomokjmaaGreatS3
namespace Go.Fx.D
open Go Go.Fx
set_option linter.unusedVariables false
set_option linter.unusedSimpArgs false
theorem DH {s : Str} (c : Int) (h : s.length ≤ 1000000) : Gv (iU s c) fun l => l.length ≤ s.length + 1 ∧ ∀ x ∈ l,x.length ≤ s.length ∧ ∀ b ∈ x,b ∈ s:=by
 unfold iU
 refine ad (P:=fun r => r.1.length ≤ s.length ∧ (∀ x ∈ r.1,x.length ≤ s.length ∧ ∀ b ∈ x,b ∈ s) ∧ 0 ≤ r.2) ?_ ?_
 ·refine aG (σ:=List Str × Int) (fun t i => (t.1,t.2,i)) s.length (fun k t => t.1.length ≤ k ∧ (∀ x ∈ t.1,x.length ≤ s.length ∧ ∀ b ∈ x,b ∈ s) ∧ 0 ≤ t.2 ∧ t.2 ≤ (k : Int)) (by omega) ?_ ?_ (s:=([],0)) (by simp)
  ·rintro k hk ⟨l,a⟩ ⟨h1,h2,h3,h4⟩
   dsimp only at h1 h2 h3 h4
   unfold lZ
   dsimp only
   rw [aj hk,ai hk]
   simp only [cond_true,Jw]
   refine ad (P:=fun (t : List Str × Int) => t.1.length ≤ k + 1 ∧ (∀ x ∈ t.1,x.length ≤ s.length ∧ ∀ b ∈ x,b ∈ s) ∧ 0 ≤ t.2 ∧ t.2 ≤ ((k + 1 : Nat) : Int)) ?_ (fun t ht => aa (.inl ⟨t,rfl,ht⟩))
   refine ae (fun _ => ?_) (fun _ => aa ⟨by dsimp only; omega,h2,h3,by dsimp only; omega⟩)
   refine ad (vC h3 h4 (by omega)) ?_
   rintro m ⟨hm,hmm⟩
   rw [am (by simp; omega) (by omega)]
   refine aa ⟨by simp; omega,?_,by rw [ao (by omega) (by omega)]; omega,by rw [ao (by omega) (by omega)]; omega⟩
   intro x hx
   rcases List.mem_append.1 hx with hx | hx
   ·exact h2 x hx
   ·rw [JA] at hx; subst hx; exact ⟨by omega,hmm⟩
  ·rintro ⟨l,a⟩ ⟨h1,h2,h3,h4⟩
   unfold lZ
   dsimp only
   rw [ar]
   exact aa ⟨_,rfl,h1,h2,h3⟩
 ·rintro ⟨l,a⟩ ⟨h1,h2,h3⟩
  dsimp only at h1 h2 h3 ⊢
  refine ad (P:=fun l => l.length ≤ s.length + 1 ∧ ∀ x ∈ l,x.length ≤ s.length ∧ ∀ b ∈ x,b ∈ s) ?_ (fun l hl => aa hl)
  refine ae (fun e => ?_) (fun _ => aa ⟨by omega,h2⟩)
  have e:=of_decide_eq_true e
  refine ad (vC h3 (by omega) (by omega)) ?_
  rintro m ⟨hm,hmm⟩
  rw [am (by simp; omega) (by omega)]
  refine aa ⟨by simp; omega,?_⟩
  intro x hx
  rcases List.mem_append.1 hx with hx | hx
  ·exact h2 x hx
  ·rw [JA] at hx; subst hx; exact ⟨by omega,hmm⟩
theorem Gr {s : Str} (h : s.length ≤ 100000) : Gv (jK s) fun l => l.length ≤ s.length + 1 ∧ ∀ x ∈ l,x.length ≤ s.length ∧ ∀ b ∈ x,b ∈ s:=by
 unfold jK
 refine ad (DH 32 (by omega)) ?_
 rintro l ⟨h1,h2⟩
 have e:=bS (fun (s : List Str) i => (s,i)) l (fun x => !(x == ([] : Str))) id (step:=f_ l) (by omega) ?_ ?_
 ·rw [e]
  refine aa ⟨?_,?_⟩
  ·rw [List.map_id]; exact Nat.le_trans (List.length_filter_le _ _) h1
  ·intro x hx
   rw [List.map_id] at hx
   exact h2 x (List.mem_filter.1 hx).1
 ·intro k hk s' hs
  unfold f_
  rw [aj hk,aM hk]
  simp only [cond_true,Jw,Jx hk,id]
  cases (l[k] == ([] : Str))
  ·simp only [Bool.not_false,cond_true,if_true]
   rw [am (by simp; omega) (by omega)]
   rfl
  ·rfl
 ·intro s'
  unfold f_
  rw [ar]
  rfl
theorem ur {s : Str} (h : s.length ≤ 1000000) : Gv (cF s) fun _ => True:=by
 unfold cF
 refine ad (P:=fun q => True) ?_ ?_
 ·refine ae (fun _ => aa trivial) (fun h1 => ae (fun _ => aa trivial) (fun h2 => ?_))
  have h1:=of_decide_eq_false h1
  refine ad (fA (by omega) (by omega)) ?_
  intro x _
  exact ae (fun _ => aa trivial) (fun _ => aa trivial)
 ·intro q _
  refine ae (fun _ => aa trivial) (fun _ => ?_)
  refine ad (P:=fun _ => True) ?_ ?_
  ·refine aG (σ:=Int) (fun t i => (t,i)) s.length (fun _ _ => True) (by omega) ?_ ?_ (s:=0) trivial
   ·intro k hk n _
    unfold ka
    dsimp only
    rw [aj hk,ai hk]
    simp only [cond_true,Jw]
    refine ad (P:=fun _ => True) (ae (fun _ => aa trivial) (fun _ => aa trivial)) ?_
    intro b _
    exact ae (fun _ => aa (.inr ⟨_,rfl,trivial⟩)) (fun _ => aa (.inl ⟨_,rfl,trivial⟩))
   ·intro n _
    unfold ka
    dsimp only
    rw [ar]
    exact aa ⟨_,rfl,trivial⟩
  ·rintro (x | x) _ <;> exact aa trivial
theorem Hi {s : Str} (h : s.length ≤ 1000000) : Gv (jI s) fun _ => True:=by
 unfold jI
 refine ad (P:=fun (k : Int) => 0 ≤ k ∧ k ≤ (s.length : Int)) ?_ ?_
 ·refine gj (fun (k : Int) => 0 ≤ k ∧ k ≤ (s.length : Int)) (fun k => s.length - k.toNat) ?_ ⟨by omega,by omega⟩
  rintro k ⟨h0,h1⟩
  unfold n6
  refine ad (P:=fun q => q = true → k < (s.length : Int)) ?_ ?_
  ·refine ae (fun e => ?_) (fun _ => aa (by simp))
   have e:=of_decide_eq_true e
   refine ad (fA h0 e) ?_
   intro x _
   exact aa fun _ => e
  ·intro q hq
   refine ae (fun e => aa (.inl ⟨_,rfl,?_,?_⟩)) (fun _ => aa (.inr ⟨_,rfl,h0,h1⟩))
   ·have:=hq e
    rw [ao (by omega) (by omega)]; omega
   ·have:=hq e
    rw [ao (by omega) (by omega)]; omega
 ·rintro k ⟨h0,h1⟩
  refine ae (fun _ => aa trivial) (fun e => ?_)
  have e : k ≠ s.length:=by simpa using e
  refine ad (vC (by omega) h0 h1) ?_
  rintro m ⟨hm,_⟩
  refine ad (ur (by omega)) ?_
  intro x _
  rw [ao (by omega) (by omega)]
  refine ad (vC (by omega) (by omega) (by omega)) ?_
  rintro m2 ⟨hm2,_⟩
  refine ad (ur (by omega)) ?_
  intro x1 _
  exact ae (fun _ => aa trivial) (fun _ => aa trivial)
theorem D4 {w : List Str} {n : Int} (hw : w.length ≤ 10000) (hs : ∀ x ∈ w,x.length ≤ 10000) (h0 : 1 ≤ n) (h1 : n ≤ 10000) :
  Gv (jN w n) fun r => r.1.Path.length ≤ 10000 ∧ (r.1.Caps.length : Int) ≤ n ∧ ∀ b ∈ r.1.Path,∃ x ∈ w,b ∈ x:=by
 unfold jN
 rw [ao (by omega) (by omega)]
 refine ad (P:=fun q => q = false → (w.length : Int) = 3 + n) ?_ ?_
 ·refine ae (fun _ => aa (by simp)) (fun e => ?_)
  have e : (w.length : Int) = 3 + n:=by simpa using e
  refine ad (fA (by omega) (by omega)) ?_
  intro x _
  exact aa fun _ => e
 ·intro q hq
  refine ae (fun _ => aa ⟨by simp,by simp; omega,by simp⟩) (fun e => ?_)
  have hl:=hq e
  refine ad (fA (by omega) (by omega)) ?_
  rintro x1 ⟨hx1,_⟩
  refine ad (ur (by have:=hs _ hx1; omega)) ?_
  intro x2 _
  refine ad (fA (by omega) (by omega)) ?_
  rintro x3 ⟨hx3,_⟩
  refine ad (P:=fun (r : Bool × Queue) => r.2.Path.length ≤ 10000 ∧ (r.2.Caps.length : Int) ≤ n ∧ ∀ b ∈ r.2.Path,∃ x ∈ w,b ∈ x) ?_ (fun r hr => aa hr)
  refine gj (fun (t : Bool × Queue × Int) => t.2.1.Path.length ≤ 10000 ∧ 3 ≤ t.2.2 ∧ t.2.2 ≤ (w.length : Int) ∧ (t.2.1.Caps.length : Int) ≤ t.2.2 - 3 ∧ ∀ b ∈ t.2.1.Path,∃ x ∈ w,b ∈ x) (fun t => w.length - t.2.2.toNat) ?_ ?_
  ·rintro ⟨ok,q,i⟩ ⟨g1,g2,g3,g4,g5⟩
   dsimp only at g1 g2 g3 g4 g5
   unfold n7
   dsimp only
   refine ad (P:=fun q => q = true → i < (w.length : Int)) ?_ ?_
   ·refine ae (fun e => aa fun _ => of_decide_eq_true e) (fun _ => aa (by simp))
   ·intro b hb
    refine ae (fun e => ?_) (fun _ => aa (.inr ⟨_,rfl,g1,by dsimp only; omega,g5⟩))
    have hi:=hb e
    refine ad (fA (by omega) hi) ?_
    rintro x4 ⟨hx4,_⟩
    refine ad (Hi (by have:=hs _ hx4; omega)) ?_
    intro x5 _
    rw [am (by simp; omega) (by omega)]
    rw [Jw,ao (by omega) (by omega)]
    exact aa (.inl ⟨_,rfl,⟨g1,by dsimp only; omega,by dsimp only; omega,by simp; omega,g5⟩,by dsimp only; omega⟩)
  ·exact ⟨hs _ hx3,by simp,by dsimp only; omega,by simp,fun b hb => ⟨_,hx3,hb⟩⟩
theorem qO {α : Type} {l : List α} {a b : Int} (h0 : 0 ≤ a) (h1 : a ≤ b) (h2 : b ≤ l.length) : Gv (inS a b l.length) fun p => (sub l p.1 p.2).length = (b - a).toNat ∧ ∀ x ∈ sub l p.1 p.2,x ∈ l:=by
 refine sW (I8 h0 h1 h2) ?_
 rintro _ rfl
 refine ⟨?_,fun x hx => List.mem_of_mem_drop (List.mem_of_mem_take hx)⟩
 unfold sub
 rw [List.length_take,List.length_drop]
 omega
def PC (s : Str) (c : Conf) : Prop:=CSmall c ∧ (∀ x ∈ c.Labels,x.length < 1000000) ∧ ∀ q ∈ c.Queues,∀ b ∈ q.Path,b ∈ s
theorem FY (s : Str) : Gv (jV s) fun r => PC s r.1:=by
 have hz : PC s ⟨[],[]⟩:=⟨⟨by simp,by simp,by simp,by simp⟩,by simp,by simp⟩
 unfold jV
 refine ae (fun _ => aa hz) (fun e => ?_)
 have e:=of_decide_eq_false e
 refine ad (DH 10 (by omega)) ?_
 rintro l ⟨hl,hx⟩
 refine ad (P:=fun r => match r with
  | .inl t => PC s t.1
  | .inr t => PC s t.2.1) ?_ ?_
 ·let K:=fun (k : Nat) (c : Conf) => c.Labels.length ≤ 3 ∧ (∀ x ∈ c.Labels,x.length ≤ 2000) ∧ c.Queues.length ≤ k ∧ ∀ q ∈ c.Queues,q.Path.length ≤ 10000 ∧ q.Caps.length ≤ 3 ∧ ∀ b ∈ q.Path,b ∈ s
  have hK : ∀ k c,k ≤ 2001 → K k c → PC s c:=by
   rintro k c hk ⟨k1,k2,k3,k4⟩
   exact ⟨⟨by omega,by omega,fun x hx => by have:=(k4 x hx).1; omega,fun x hx => by have:=(k4 x hx).2.1; omega⟩,fun x hx => by have:=k2 x hx; omega,fun q hq => (k4 q hq).2.2⟩
  have key:=aG (σ:=Conf × Conf × Bool) (fun t i => (t.1,t.2.1,t.2.2,i)) l.length (fun k t => K k t.2.1) (step:=fR l) (Q:=fun r => match r with
   | .inl t => PC s t.1
   | .inr t => PC s t.2.1) (by omega) ?_ ?_ (s:=(⟨[],[]⟩,⟨[],[]⟩,false)) ⟨by simp,by simp,by simp,by simp⟩
  ·exact key
  ·rintro k hk ⟨c0,c,tw⟩ ⟨k1,k2,k3,k4⟩
   dsimp only at k1 k2 k3 k4
   unfold fR
   dsimp only
   rw [aj hk,aM hk]
   simp only [cond_true,Jw,Jx hk]
   refine ad (P:=fun r => match r with
    | .inl t => K (k + 1) t.2.1
    | .inr t => PC s t.1) ?_ ?_
   ·have hlk:=(hx _ (List.getElem_mem hk)).1
    have hlb:=(hx _ (List.getElem_mem hk)).2
    refine ad (Gr (by omega)) ?_
    rintro w ⟨hw,hwx⟩
    refine ae (fun _ => aa ⟨k1,k2,by dsimp only; omega,k4⟩) (fun ew => ?_)
    have ew : ¬ w.length = 0:=by have:=beq_eq_false_iff_ne.1 ew; omega
    refine ae (fun _ => ?_) (fun el => ?_)
    ·refine ad (mD (by omega) (by omega)) ?_
     rintro _ rfl
     refine ad (my (by omega)) ?_
     intro x1 _
     refine ae (fun _ => aa hz) (fun _ => ae (fun _ => aa hz) (fun e3 => ?_))
     have e3:=of_decide_eq_false e3
     have hs:=qO (l:=w) (a:=1) (b:=(w.length : Int)) (by omega) (by omega) (by omega)
     refine ad hs ?_
     rintro p ⟨hp1,hp2⟩
     rw [am (by rw [hp1]; simp; omega) (by omega)]
     refine aa ⟨?_,?_,by dsimp only; omega,k4⟩
     ·rw [Jz,hp1]; simp; omega
     ·intro x hx
      rcases List.mem_append.1 hx with hx | hx
      ·rw [JA] at hx; subst hx; simp
      ·have:=(hwx x (hp2 x hx)).1; omega
    ·have el : ¬ c.Labels.length = 0:=by have:=beq_eq_false_iff_ne.1 el; omega
     refine ad (P:=fun _ => True) ?_ ?_
     ·refine ae (fun _ => ?_) (fun _ => aa trivial)
      refine ad (mD (by omega) (by omega)) ?_
      rintro _ rfl
      refine ad (my (by omega)) ?_
      intro x1 _
      exact aa trivial
     ·intro q _
      refine ae (fun _ => aa hz) (fun _ => ?_)
      refine ad (D4 (by omega) (fun x hx => by have:=(hwx x hx).1; omega) (by omega) (by omega)) ?_
      rintro x3 ⟨g1,g2,g3⟩
      refine ae (fun _ => aa hz) (fun _ => ?_)
      refine ad (P:=fun (k : Int) => 0 ≤ k ∧ k ≤ (c.Queues.length : Int)) ?_ ?_
      ·refine gj (fun (k : Int) => 0 ≤ k ∧ k ≤ (c.Queues.length : Int)) (fun k => c.Queues.length - k.toNat) ?_ ⟨by omega,by omega⟩
       rintro i ⟨i0,i1⟩
       unfold n9
       dsimp only
       refine ad (P:=fun q => q = true → i < (c.Queues.length : Int)) ?_ ?_
       ·refine ae (fun e => ?_) (fun _ => aa (by simp))
        have e:=of_decide_eq_true e
        refine ad (mD i0 e) ?_
        rintro _ rfl
        refine ad (my (by omega)) ?_
        intro x _
        exact aa fun _ => e
       ·intro q hq
        refine ae (fun e => aa (.inl ⟨_,rfl,?_,?_⟩)) (fun _ => aa (.inr ⟨_,rfl,i0,i1⟩))
        ·have:=hq e
         rw [ao (by omega) (by omega)]; omega
        ·have:=hq e
         rw [ao (by omega) (by omega)]; omega
      ·rintro i ⟨i0,i1⟩
       refine ad (P:=fun _ => True) ?_ ?_
       ·refine ae (fun _ => aa trivial) (fun _ => ae (fun e => ?_) (fun _ => aa trivial))
        have e:=of_decide_eq_true e
        refine ad (mD i0 e) ?_
        rintro _ rfl
        refine ad (my (by omega)) ?_
        intro x _
        exact aa trivial
       ·intro tw' _
        refine ad (qO (by omega) i0 i1) ?_
        rintro p1 ⟨a1,a2⟩
        rw [am (by rw [a1]; simp; omega) (by omega)]
        simp only [Jw,List.nil_append]
        rw [am (by rw [a1]; simp; omega) (by omega)]
        simp only [Jw]
        refine ad (qO i0 i1 (by omega)) ?_
        rintro p2 ⟨b1,b2⟩
        rw [am (by rw [Jz,a1,b1]; simp; omega) (by omega)]
        refine aa ⟨k1,k2,?_,?_⟩
        ·dsimp only
         rw [Jz,Jz,a1,b1]; simp; omega
        ·intro q hq
         rcases List.mem_append.1 hq with hq | hq
         ·rcases List.mem_append.1 hq with hq | hq
          ·exact k4 q (a2 q hq)
          ·rw [JA] at hq; subst hq; exact ⟨g1,by omega,fun b hb => by obtain ⟨x,hx,hbx⟩:=g3 b hb; exact hlb b ((hwx x hx).2 b hbx)⟩
         ·exact k4 q (b2 q hq)
   ·rintro (t | t) hr
    ·exact aa (.inl ⟨t,rfl,hr⟩)
    ·exact aa (.inr ⟨_,rfl,hr⟩)
  ·rintro ⟨c0,c,tw⟩ hk
   unfold fR
   dsimp only
   rw [ar]
   exact aa ⟨_,rfl,hK _ c (by omega) hk⟩
 ·rintro (t | t) hr
  ·exact aa hr
  ·exact ae (fun _ => aa hz) (fun _ => ae (fun _ => aa hz) (fun _ => aa hr))
end Go.Fx.D
