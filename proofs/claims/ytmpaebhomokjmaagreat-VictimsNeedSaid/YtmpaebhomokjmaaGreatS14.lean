/-
  The reference manager: what holds of its state after every script. Conditions: none.
-/
import Derived.Test.YtmpaebhomokjmaaGreatS13
namespace Go.Fx.D
open Go Go.Fx
set_option linter.unusedVariables false
set_option linter.unusedSimpArgs false
def pAt (l : List Plan) (label t : Int) : Vec:=vsum ((l.filter fun p => p.Label == label && decide (p.From ≤ t) && decide (t < p.Until)).map (·.Need))
theorem Hs {l : List Plan} (hl : l.length ≤ 100000) (hb : ∀ p ∈ l,VB 1073741824 p.Need) (label t : Int) : iR l label t = some (pAt l label t):=by
 unfold iR
 rw [iG (fun v i => (v,i)) l (fun p => p.Label == label && decide (p.From ≤ t) && decide (t < p.Until)) (·.Need) (step:=ja l label t) hl (fun c hc _ => (hb c hc).mono (by omega)) ?_ ?_]
 ·rfl
 ·intro k hk v hv
  unfold ja
  rw [aj hk,ai hk]
  have hp : aJ v l[k].Need = some (vplus v l[k].Need) :=
   lS (hv.mono (m:=200000000000000000) (by omega)) ((hb _ (List.getElem_mem hk)).mono (by omega)) (by omega)
  simp only [cond_true,Jw,hp]
  cases l[k].Label == label <;> cases decide (l[k].From ≤ t) <;> cases decide (t < l[k].Until) <;> rfl
 ·intro v
  unfold ja
  rw [ar]
  rfl
theorem I4 {l : List Plan} (hb : ∀ p ∈ l,VB 1073741824 p.Need) (label t : Int) : VB (l.length * 1073741824) (pAt l label t):=by
 have:=pw (n:=1073741824) (by omega) (l:=(l.filter fun p => p.Label == label && decide (p.From ≤ t) && decide (t < p.Until)).map (·.Need)) (fun v hv => by
  obtain ⟨c,hc,rfl⟩:=List.mem_map.1 hv
  exact hb c (List.mem_filter.1 hc).1)
 refine this.mono ?_
 rw [List.length_map]
 have:=List.length_filter_le (fun p : Plan => p.Label == label && decide (p.From ≤ t) && decide (t < p.Until)) l
 omega
theorem y8 {l : List Plan} (hl : l.length ≤ 100000) (hb : ∀ p ∈ l,VB 1073741824 p.Need) (total : Vec) {p : Plan} (hp : VB 1073741824 p.Need) (t long : Int) : Gv (fP l total p t long) fun _ => True:=by
 have one : ∀ t,aJ (pAt l p.Label t) p.Need = some (vplus (pAt l p.Label t) p.Need):=by
  intro t
  have:=I4 hb p.Label t
  exact lS (this.mono (m:=200000000000000000) (by omega)) (hp.mono (by omega)) (by omega)
 unfold fP
 rw [Hs hl hb,Jw,one,Jw,lV,Jw]
 refine ae (fun _ => aa trivial) fun _ => ?_
 refine ad (P:=fun _ => True) ?_ ?_
 ·refine aG (fun (_ : Unit) i => i) l.length (fun _ _ => True) (step:=fZ l total p t long) (by omega) ?_ ?_ (s:=()) trivial
  ·intro k hk _ _
   unfold fZ
   rw [aj hk,cond_true,ai hk,Jw]
   refine ad (P:=fun _ => True) ?_ fun q _ => ?_
   ·rw [Hs hl hb,Jw,one,Jw,lV,Jw]
    repeat' (first | exact ⟨_,rfl,trivial⟩ | refine ae (fun _ => ?_) (fun _ => ?_))
   ·exact ae (fun _ => aa (.inr ⟨_,rfl,trivial⟩)) fun _ => aa (.inl ⟨(),rfl,trivial⟩)
  ·intro _ _
   unfold fZ
   rw [ar]
   exact aa ⟨_,rfl,trivial⟩
 ·rintro (q | q) _
  ·exact aa trivial
  ·exact aa trivial
theorem Hf {l : List Plan} (hl : l.length ≤ 100000) (hb : ∀ p ∈ l,VB 1073741824 p.Need) (total : Vec) (p : Plan) (long : Int) :
  Gv (jg l total p long) fun r => r.2 = 0 → VB 1073741824 p.Need ∧ (1 ≤ long ∧ long ≤ 1000) ∧ 0 ≤ r.1 ∧ r.1 + long ≤ 1000000:=by
 have p15 : ∀ n : Int,j6 n = some (decide (0 ≤ n) && decide (n ≤ 1073741824)):=fun n => wc n
 unfold jg
 refine ad (P:=fun b => b = false → VB 1073741824 p.Need ∧ (1 ≤ long ∧ long ≤ 1000) ∧ (0 ≤ p.From ∧ p.From ≤ 1000000) ∧ p.Until ≤ 1000000) ?_ ?_
 ·refine ae (fun _ => aa (by simp)) fun g1 => ae (fun _ => aa (by simp)) fun g2 => ae (fun _ => aa (by simp)) fun g3 => ae (fun _ => aa (by simp)) fun g4 => ae (fun _ => aa (by simp)) fun g5 => ae (fun _ => aa (by simp)) fun g6 => ?_
  rw [p15,Jw]
  refine ae (fun _ => aa (by simp)) fun h3 => ?_
  rw [p15,Jw]
  refine aa fun h4 => ?_
  simp only [Bool.not_eq_false',Bool.and_eq_true,decide_eq_true_eq,decide_eq_false_iff_not] at h3 h4 g1 g2 g3 g4 g5 g6
  exact ⟨⟨h3,h4⟩,⟨by omega,by omega⟩,⟨by omega,by omega⟩,by omega⟩
 ·intro b hb'
  refine ae (fun _ => aa (by simp)) fun hbf => ?_
  obtain ⟨hp,hlong,hfrom,huntil⟩:=hb' hbf
  refine ad (P:=fun best => 0 ≤ best → best + long ≤ p.Until) ?_ fun best hbest => ae (fun _ => aa (by simp)) fun hn => aa fun _ => ?_
  rotate_left
  ·simp only [decide_eq_false_iff_not] at hn
   have:=hbest (by omega)
   exact ⟨hp,hlong,by dsimp only; omega,by dsimp only; omega⟩
  refine gj (fun t : Int × Int => (-1 ≤ t.2 ∧ t.2 ≤ l.length) ∧ (0 ≤ t.1 → t.1 + long ≤ p.Until)) (fun t => (l.length - t.2).toNat) ?_ (by dsimp only; omega)
  rintro ⟨best,i⟩ ⟨⟨h1,h2⟩,h3⟩
  dsimp only at h1 h2 h3 ⊢
  unfold nr
  dsimp only
  refine ae (fun hlt => ?_) fun _ => aa (.inr ⟨_,rfl,h3⟩)
  simp only [decide_eq_true_eq] at hlt
  refine ad (P:=fun best => 0 ≤ best → best + long ≤ p.Until) ?_ fun best hbest => ?_
  ·refine ad (P:=fun _ => True) ?_ fun t1 _ => ?_
   ·refine ae (fun hge => ?_) fun _ => aa trivial
    simp only [decide_eq_true_eq] at hge
    exact ad (dj (fA hge hlt)) fun _ _ => aa trivial
   ·refine ad (P:=fun b => b = true → 0 ≤ t1 → t1 + long ≤ p.Until) ?_ fun q hq => ?_
    ·refine ae (fun g1 => ?_) fun _ => aa (by simp)
     refine ae (fun g2 => ?_) fun _ => aa (by simp)
     refine ae (fun g3 => ?_) fun _ => aa (by simp)
     simp only [decide_eq_true_eq] at g1 g2 g3
     rw [ao (by omega) (by omega)] at g3
     refine ae (fun _ => ?_) fun _ => ae (fun _ => ?_) fun _ => aa (by simp)
     ·exact ad (y8 hl hb total hp t1 long) fun _ _ => aa fun _ _ => g3
     ·exact ad (y8 hl hb total hp t1 long) fun _ _ => aa fun _ _ => g3
    ·exact ae (fun e => aa (hq e)) fun _ => aa h3
  ·refine aa (.inl ⟨(best,w64 (i + 1)),rfl,?_,?_⟩)
   ·rw [ao (x:=i + 1) (by omega) (by omega)]; dsimp only; exact ⟨by omega,hbest⟩
   ·rw [ao (x:=i + 1) (by omega) (by omega)]; dsimp only; omega
theorem GG {N : Nat} {s : State} (h : Inv N s) (p : Plan) (long : Int) : Gv (ku s p long) fun r => Inv N r.1:=by
 have hpl:=h.pl
 unfold ku
 refine ad (P:=fun _ => True) ?_ fun b _ => ?_
 ·repeat' (first | exact ⟨_,rfl,trivial⟩ | refine ae (fun _ => ?_) (fun _ => ?_))
 refine ae (fun _ => aa h) fun _ => ?_
 refine ad (P:=fun r => match r with
  | .inl q => Inv N q.1
  | .inr q => ∃ k : Nat,q.2 = (k : Int) ∧ k ≤ s.Plans.length ∧ (∀ x ∈ s.Plans.take k,x.Id < p.Id) ∧ ∀ x ∈ s.Plans.drop k,p.Id < x.Id) ?_ ?_
 ·refine aG (fun (t : State × Int) i => (t.1,t.2,i)) s.Plans.length (fun j t => ∃ k : Nat,t.2 = (k : Int) ∧ k ≤ j ∧ (∀ x ∈ s.Plans.take k,x.Id < p.Id) ∧ ∀ x ∈ (s.Plans.take j).drop k,p.Id < x.Id) (step:=hJ s p) (by omega) ?_ ?_
   (s:=((⟨⟨[],[]⟩,[],[],[],[],[],0,0,0⟩ : State),(0 : Int))) ⟨0,rfl,Nat.le_refl _,by simp,by simp⟩
  ·rintro j hj ⟨t,k0⟩ ⟨k,rfl,hk,h1,h2⟩
   unfold hJ
   dsimp only
   rw [aj hj,cond_true,ai hj,Jw,Jw]
   refine ad (P:=fun r => match r with
    | .inl q => ∃ k : Nat,q.2 = (k : Int) ∧ k ≤ j + 1 ∧ (∀ x ∈ s.Plans.take k,x.Id < p.Id) ∧ ∀ x ∈ (s.Plans.take (j + 1)).drop k,p.Id < x.Id
    | .inr q => Inv N q.1) ?_ ?_
   ·refine ae (fun _ => aa h) fun hne => ae (fun hlt => aa ?_) fun hge => aa ?_
    ·simp only [decide_eq_true_eq] at hlt
     refine ⟨j + 1,by dsimp only; rw [ao (by omega) (by omega)]; omega,Nat.le_refl _,fun x hx => ?_,by simp⟩
     obtain ⟨i,hi,rfl⟩:=List.getElem_of_mem hx
     rw [List.length_take] at hi
     rw [List.getElem_take]
     by_cases e : i = j
     ·subst e; exact hlt
     ·have:=List.pairwise_iff_getElem.1 h.ps i j (by omega) hj (by omega)
      omega
    ·simp only [decide_eq_false_iff_not] at hge
     have hne : s.Plans[j].Id ≠ p.Id:=by simpa using hne
     refine ⟨k,rfl,by omega,h1,fun x hx => ?_⟩
     rw [List.take_succ_eq_append_getElem hj,List.drop_append_of_le_length (by rw [List.length_take]; omega)] at hx
     rcases List.mem_append.1 hx with hx | hx
     ·exact h2 x hx
     ·rw [JA] at hx
      subst hx
      omega
   ·rintro (q | q) hq
    ·exact aa (.inl ⟨q,rfl,hq⟩)
    ·exact aa (.inr ⟨_,rfl,hq⟩)
  ·rintro ⟨t,k0⟩ ⟨k,rfl,hk,h1,h2⟩
   unfold hJ
   dsimp only
   rw [ar,cond_false]
   rw [List.take_length] at h2
   exact aa ⟨_,rfl,k,rfl,hk,h1,h2⟩
 ·rintro (q | ⟨t,k0⟩) hq
  ·exact aa hq
  ·obtain ⟨k,e,hk,h1,h2⟩:=hq
   dsimp only at e ⊢
   subst e
   refine ae (fun _ => aa h) fun hlt => ae (fun _ => aa h) fun _ => ?_
   simp only [decide_eq_false_iff_not] at hlt
   rw [pL h.sb,Jw]
   refine ad (Hf (by omega) (fun p hp => (h.pk p hp).1) _ p long) fun r hr => ?_
   refine ae (fun _ => aa h) fun hr0 => ?_
   have hp:=hr (by simpa using hr0)
   refine ad (xx (by omega) (by omega) (by omega)) ?_
   rintro l1 rfl
   rw [am (by simp; omega) (by omega),Jw,am (by simp; omega) (by omega),Jw]
   refine ad (xx (by omega) (by omega) (by omega)) ?_
   rintro l2 rfl
   rw [am (by simp; omega) (by omega),Jw]
   refine aa ?_
   have e1 : (k : Int).toNat = k:=by omega
   have e2 : (s.Plans.length : Int).toNat = s.Plans.length:=by omega
   simp only [e1,e2,Int.toNat_zero,List.drop_zero,List.nil_append,List.take_length]
   refine ⟨h.cf,h.nl,h.ns,h.nk,h.al,h.asr,h.ak,h.cl,h.cs,fun c hc => ?_,h.ss,h.sk,?_,?_,?_,h.now,h.ep,h.sq⟩
   ·have:=h.ck c hc
    exact ⟨this.size,this.app,this.label,this.id⟩
   ·simp only [Jz,List.length_take,List.length_drop,List.length_cons,List.length_nil]
    omega
   ·refine List.pairwise_append.2 ⟨List.pairwise_append.2 ⟨h.ps.sublist (List.take_sublist _ _),by simp,?_⟩,h.ps.sublist (List.drop_sublist _ _),?_⟩
    ·intro x hx y hy
     rw [JA] at hy
     subst hy
     exact h1 x hx
    ·intro x hx y hy
     rcases List.mem_append.1 hx with hx | hx
     ·have:=h1 x hx
      have:=h2 y hy
      omega
     ·rw [JA] at hx
      subst hx
      exact h2 y hy
   ·intro x hx
    rcases List.mem_append.1 hx with hx | hx
    ·rcases List.mem_append.1 hx with hx | hx
     ·exact h.pk x (List.mem_of_mem_take hx)
     ·rw [JA] at hx
      subst hx
      obtain ⟨k1,k2,k3,k4⟩:=hp
      refine ⟨k1,?_,?_⟩
      ·dsimp only; omega
      ·dsimp only; rw [ao (by omega) (by omega)]; omega
    ·exact h.pk x (List.mem_of_mem_drop hx)
theorem Inv.plans {N : Nat} {s : State} (h : Inv N s) {ps : List Plan} (hs : ps.Sublist s.Plans) : Inv N ⟨s.Conf,s.Nodes,s.Apps,s.Conts,s.Slots,ps,s.Now,s.Epoch,s.Seq⟩ :=
 ⟨h.cf,h.nl,h.ns,h.nk,h.al,h.asr,h.ak,h.cl,h.cs,fun c hc => ⟨(h.ck c hc).size,(h.ck c hc).app,(h.ck c hc).label,(h.ck c hc).id⟩,h.ss,h.sk,Nat.le_trans hs.length_le h.pl,h.ps.sublist hs,fun p hp => h.pk p (hs.subset hp),h.now,h.ep,h.sq⟩
theorem HF {N : Nat} {s : State} (h : Inv N s) (i : Int) : Gv (jY s i) fun r => Inv N r.1:=by
 have hpl:=h.pl
 unfold jY
 have e:=bS (fun (l : List Plan) i => (l,i)) s.Plans (fun p => p.Id != i) id (step:=fX s i) (by omega) ?_ ?_
 ·rw [e,Jw,List.map_id]
  exact ae (fun _ => aa h) fun _ => aa (h.plans List.filter_sublist)
 ·intro k hk l hl
  unfold fX
  dsimp only
  rw [aj hk,cond_true,ai hk,Jw,Jw]
  cases hp : (s.Plans[k].Id != i)
  ·rfl
  ·rw [cond_true,am (by simp; omega) (by omega)]
   rfl
 ·intro l
  unfold fX
  rw [ar]
  rfl
end Go.Fx.D
