/-
  The reference manager: what holds of its state after every script. Conditions: none.
-/
import Derived.Test.YtmpaebhomokjmaaGreatS2
namespace Go.Fx.D
open Go Go.Fx
set_option linter.unusedVariables false
set_option linter.unusedSimpArgs false
theorem Ex {c : Conf} (hl : ∀ x ∈ c.Labels,x.length < 1000000) (hn : c.Labels.length < 1000000) :
  Gv (eC c) fun e => e = 0 → 1 ≤ c.Labels.length ∧ c.Labels.length ≤ 3 ∧ c.Queues.length ≤ 16 ∧ c.Labels[0]? = some [] ∧ ∀ x ∈ c.Labels,x.length ≤ 12:=by
 unfold eC
 refine ad (P:=fun q => q = false → 1 ≤ c.Labels.length ∧ c.Labels.length ≤ 3 ∧ c.Queues.length ≤ 16) ?_ ?_
 ·refine ae (fun _ => aa (by simp)) (fun h1 => ae (fun _ => aa (by simp)) (fun h2 => aa fun h3 => ?_))
  have h1:=of_decide_eq_false h1
  have h2:=of_decide_eq_false h2
  have h3:=of_decide_eq_false h3
  omega
 ·intro q hq
  refine ae (fun _ => aa (by omega)) (fun e => ?_)
  obtain ⟨b1,b2,b3⟩:=hq e
  refine ad (fA (by omega) (by omega)) ?_
  rintro x ⟨hx,hx0⟩
  refine ae (fun _ => aa (by omega)) (fun e0 => ?_)
  have hx1 : x = []:=by simpa using e0
  subst hx1
  refine ad (P:=fun r => match r with | .inl q => q ≠ 0 | .inr _ => ∀ x ∈ c.Labels,x.length ≤ 12) ?_ ?_
  ·refine gj (fun i => 1 ≤ i ∧ ∀ k : Nat,(k : Int) < i → ∀ x,c.Labels[k]? = some x → x.length ≤ 12) (fun i => (c.Labels.length - i.toNat)) ?_ ⟨by omega,?_⟩
   ·rintro i ⟨hi,hv⟩
    unfold nM
    refine ae (fun h1 => ?_) (fun h1 => ?_)
    ·have h1:=of_decide_eq_true h1
     refine ad (fA (by omega) (by omega)) ?_
     rintro x ⟨hx,hxi⟩
     refine ad (B8 (by have:=hl _ hx; omega)) ?_
     intro b hb
     refine ae (fun _ => aa (.inr ⟨_,rfl,by simp⟩)) (fun eb => aa (.inl ⟨_,rfl,⟨?_,?_⟩,?_⟩))
     ·rw [ao (by omega) (by omega)]; omega
     ·intro k hk y hy
      rw [ao (by omega) (by omega)] at hk
      by_cases hki : (k : Int) < i
      ·exact hv k hki y hy
      ·have : k = i.toNat:=by omega
       subst this
       rw [hxi] at hy; cases hy
       exact (hb (by simpa using eb)).2.1
     ·rw [ao (by omega) (by omega)]; omega
    ·have h1:=of_decide_eq_false h1
     refine aa (.inr ⟨_,rfl,?_⟩)
     intro x hx
     obtain ⟨k,hk,rfl⟩:=List.getElem_of_mem hx
     exact hv k (by omega) _ (Jx hk)
   ·intro k hk x hx
    have : k = 0:=by omega
    subst this
    simp only [Int.toNat_zero] at hx0
    rw [hx0] at hx; cases hx
    simp
  ·rintro (q1 | u) hr
   ·exact aa (fun e => absurd e hr)
   ·refine ad (P:=fun r => match r with | .inl q => q ≠ 0 | .inr _ => True) ?_ ?_
    ·refine gj (fun i => 1 ≤ i) (fun i => (c.Labels.length - i.toNat)) ?_ (by omega)
     intro i hi
     unfold nH
     refine ae (fun h1 => ?_) (fun h1 => aa (.inr ⟨_,rfl,trivial⟩))
     have h1:=of_decide_eq_true h1
     refine ad (P:=fun r => match r with | .inl q => q ≠ 0 | .inr _ => True) ?_ ?_
     ·refine gj (fun k => 1 ≤ k) (fun k => (i - k).toNat) ?_ (by omega)
      intro k hk
      unfold nt
      refine ae (fun h2 => ?_) (fun h2 => aa (.inr ⟨_,rfl,trivial⟩))
      have h2:=of_decide_eq_true h2
      refine ad (fA (by omega) (by omega)) ?_
      rintro x3 -
      refine ad (fA (by omega) (by omega)) ?_
      rintro x4 -
      refine ae (fun _ => aa (.inr ⟨_,rfl,by simp⟩)) (fun _ => aa (.inl ⟨_,rfl,?_,?_⟩))
      ·rw [ao (by omega) (by omega)]; omega
      ·rw [ao (by omega) (by omega)]; omega
     ·rintro (q | u) hr
      ·exact aa (.inr ⟨_,rfl,hr⟩)
      ·refine aa (.inl ⟨_,rfl,?_,?_⟩)
       ·rw [ao (by omega) (by omega)]; omega
       ·rw [ao (by omega) (by omega)]; omega
    ·rintro (q | u) hr2
     ·exact aa (fun e => absurd e hr2)
     ·exact aa fun _ => ⟨b1,b2,b3,hx0,hr⟩
def CapOk (x : Cap) : Prop:=0 ≤ x.Least ∧ x.Least ≤ x.Most ∧ x.Most ≤ 10000
structure QOk (c : Conf) (i : Nat) (q : Queue) : Prop where
 path : PathOk q.Path
 less : ∀ p,0 < i → c.Queues[i - 1]? = some p → strLe q.Path p.Path = false
 up : 0 < i → (pFind c (aV q.Path)).isSome = true
 user : 1 ≤ q.User ∧ q.User ≤ 1000000
 caps : q.Caps.length = c.Labels.length
 cap : ∀ x ∈ q.Caps,CapOk x
theorem Gk {c : Conf} (h : CSmall c) {i : Nat} (hi : i < c.Queues.length) : Gv (fK c (i : Int)) fun e => e = 0 → QOk c i c.Queues[i]:=by
 have hq:=h.q
 unfold fK
 rw [ai hi]
 simp only [Jw]
 have hp:=h.p _ (List.getElem_mem hi)
 refine ad (D2 (by omega)) ?_
 intro b hb
 refine ae (fun _ => aa (by omega)) (fun eb => ?_)
 have hpath:=hb (by simpa using eb)
 refine ad (P:=fun q => q = false → ∀ p,0 < i → c.Queues[i - 1]? = some p → strLe c.Queues[i].Path p.Path = false) ?_ ?_
 ·refine ae (fun h0 => ?_) (fun h0 => aa fun _ p hi0 => ?_)
  ·have h0:=of_decide_eq_true h0
   rw [ao (by omega) (by omega)]
   refine ad (fA (by omega) (by omega)) ?_
   rintro x ⟨_,hx⟩
   refine aa fun e p _ hp => ?_
   rw [show ((i : Int) - 1).toNat = i - 1 by omega,hp] at hx
   cases hx
   exact e
  ·have h0:=of_decide_eq_false h0
   omega
 ·intro q hlt
  refine ae (fun _ => aa (by omega)) (fun eq => ?_)
  have hlt:=hlt eq
  rw [wa (by omega),Jw,qR h,Jw]
  refine ad (P:=fun q => q = false → 0 < i → (pFind c (aV c.Queues[i].Path)).isSome = true) ?_ ?_
  ·refine ae (fun h0 => aa fun e hi0 => ?_) (fun h0 => aa fun _ hi0 => ?_)
   ·cases hf : pFind c (aV c.Queues[i].Path) with
    | none => rw [hf] at e; simp at e
    | some q => rfl
   ·have h0:=of_decide_eq_false h0
    omega
  ·intro q1 hup
   refine ae (fun _ => aa (by omega)) (fun eq1 => ?_)
   have hup:=hup eq1
   refine ad (P:=fun q => q = false → (1 ≤ c.Queues[i].User ∧ c.Queues[i].User ≤ 1000000) ∧ c.Queues[i].Caps.length = c.Labels.length) ?_ ?_
   ·refine ae (fun _ => aa (by simp)) (fun h1 => ae (fun _ => aa (by simp)) (fun h2 => aa fun h3 => ?_))
    have h1:=of_decide_eq_false h1
    have h2:=of_decide_eq_false h2
    simp only [bne_eq_false_iff_eq] at h3
    omega
   ·intro q2 hq2
    refine ae (fun _ => aa (by omega)) (fun eq2 => ?_)
    obtain ⟨hu,hc⟩:=hq2 eq2
    have hcl:=h.c _ (List.getElem_mem hi)
    refine ad (P:=fun r => match r with | .inl q => q ≠ 0 | .inr _ => ∀ x ∈ c.Queues[i].Caps,CapOk x) ?_ ?_
    ·refine aG (σ:=Unit) (fun _ i => i) c.Queues[i].Caps.length (fun k _ => ∀ x ∈ c.Queues[i].Caps.take k,CapOk x) (by omega) ?_ ?_ (s:=()) (by simp)
     ·intro k hk _ hv
      unfold kL
      rw [aj hk,ai hk]
      simp only [cond_true,Jw]
      refine ad (P:=fun q => q = false → CapOk c.Queues[i].Caps[k]) ?_ ?_
      ·refine ae (fun _ => aa (by simp)) (fun h1 => ae (fun _ => aa (by simp)) (fun h2 => ae (fun _ => aa (by simp)) (fun h3 => ae (fun _ => aa (by simp)) (fun h4 => aa fun h5 => ?_))))
       have h1:=of_decide_eq_false h1
       have h2:=of_decide_eq_false h2
       have h3:=of_decide_eq_false h3
       have h4:=of_decide_eq_false h4
       have h5:=of_decide_eq_false h5
       unfold CapOk
       omega
      ·intro q hq
       refine ae (fun _ => aa (.inr ⟨_,rfl,by simp⟩)) (fun e => aa (.inl ⟨(),rfl,?_⟩))
       rw [List.take_succ_eq_append_getElem hk]
       intro x hx
       rcases List.mem_append.1 hx with hx | hx
       ·exact hv x hx
       ·rw [JA] at hx; subst hx; exact hq e
     ·intro _ hv
      unfold kL
      rw [ar]
      rw [List.take_length] at hv
      exact aa ⟨_,rfl,hv⟩
    ·rintro (q | u) hr
     ·exact aa (fun e => absurd e hr)
     ·exact aa fun _ => ⟨hpath,hlt,hup,hu,hc,hr⟩
def lh (c : Conf) (k : Nat) (p : Str) : Int:=((pFind c p).bind fun q => q.Caps[k]?).elim 0 (·.Least)
structure ConfOk (c : Conf) : Prop where
 lab : 1 ≤ c.Labels.length ∧ c.Labels.length ≤ 3
 lab0 : c.Labels[0]? = some []
 labs : ∀ x ∈ c.Labels,x.length ≤ 12
 qs : 1 ≤ c.Queues.length ∧ c.Queues.length ≤ 16
 root : ∃ q,c.Queues[0]? = some q ∧ q.Path = root ∧ ∀ x ∈ q.Caps,x = ⟨10000,10000⟩
 q : ∀ i (hi : i < c.Queues.length),QOk c i c.Queues[i]
 sums : ∀ q ∈ c.Queues,pKids c q.Path ≠ [] → ∀ k,k < c.Labels.length → ((pKids c q.Path).map (lh c k)).sum = 10000
 nd : ∀ q ∈ c.Queues,∀ b ∈ q.Path,b ≠ 45
theorem ConfOk.small {c : Conf} (h : ConfOk c) : CSmall c:=by
 have h1:=h.qs
 have h2:=h.lab
 refine ⟨by omega,by omega,fun x hx => ?_,fun x hx => ?_⟩
 ·obtain ⟨i,hi,rfl⟩:=List.getElem_of_mem hx
  have:=(h.q i hi).path.len
  omega
 ·obtain ⟨i,hi,rfl⟩:=List.getElem_of_mem hx
  have:=(h.q i hi).caps
  omega
theorem mv {c : Conf} {p : Str} {q : Queue} (h : pFind c p = some q) : q ∈ c.Queues ∧ q.Path = p:=by
 unfold pFind at h
 exact ⟨List.mem_of_find?_eq_some h,by have:=List.find?_some h; simpa using this⟩
theorem pz {c : Conf} {q : Queue} (h : q ∈ c.Queues) : ∃ q',pFind c q.Path = some q' ∧ q' ∈ c.Queues ∧ q'.Path = q.Path:=by
 cases hf : pFind c q.Path with
 | none =>
  unfold pFind at hf
  have:=List.find?_eq_none.1 hf q h
  simp at this
 | some q' => exact ⟨q',rfl,mv hf⟩
theorem d5 {c : Conf} {p x : Str} (h : x ∈ pKids c p) : p ≠ [] ∧ ∃ q ∈ c.Queues,q.Path = x ∧ aV x = p:=by
 unfold pKids at h
 split at h
 ·cases h
 ·rename_i hp
  refine ⟨hp,?_⟩
  obtain ⟨q,hq,rfl⟩:=List.mem_map.1 h
  have:=List.mem_filter.1 hq
  exact ⟨q,this.1,rfl,by simpa using this.2⟩
theorem oz (c : Conf) (p : Str) : (pKids c p).length ≤ c.Queues.length:=by
 unfold pKids
 split
 ·simp
 ·rw [List.length_map]; exact List.length_filter_le _ _
theorem Ik {c : Conf} (h : CSmall c) (hq : ∀ i (hi : i < c.Queues.length),QOk c i c.Queues[i]) (hl : c.Queues.length ≤ 16) : Gv (kE c) fun b => b = true →
  ∀ q ∈ c.Queues,pKids c q.Path ≠ [] → ∀ k,k < c.Labels.length → ((pKids c q.Path).map (lh c k)).sum = 10000:=by
 have hll:=h.l
 unfold kE
 have hcap : ∀ q ∈ c.Queues,q.Caps.length = c.Labels.length ∧ ∀ x ∈ q.Caps,CapOk x:=by
  intro q hq'
  obtain ⟨i,hi,rfl⟩:=List.getElem_of_mem hq'
  exact ⟨(hq i hi).caps,(hq i hi).cap⟩
 refine ad (P:=fun r => match r with | .inl b => b = false | .inr _ => ∀ q ∈ c.Queues,pKids c q.Path ≠ [] → ∀ k,k < c.Labels.length → ((pKids c q.Path).map (lh c k)).sum = 10000) ?_ ?_
 ·refine aG (σ:=Unit) (fun _ i => i) c.Queues.length (fun k _ => ∀ q ∈ c.Queues.take k,pKids c q.Path ≠ [] → ∀ k,k < c.Labels.length → ((pKids c q.Path).map (lh c k)).sum = 10000) (by omega) ?_ ?_ (s:=()) (by simp)
  ·intro i hi _ hv
   unfold lz
   rw [aj hi,ai hi]
   simp only [cond_true,Jw]
   rw [ot h,Jw]
   have hkl:=oz c c.Queues[i].Path
   refine ad (P:=fun r => match r with | .inl b => b = false | .inr _ => pKids c c.Queues[i].Path ≠ [] → ∀ k,k < c.Labels.length → ((pKids c c.Queues[i].Path).map (lh c k)).sum = 10000) ?_ ?_
   ·refine gj (fun k => 0 ≤ k ∧ ∀ j : Nat,(j : Int) < k → j < c.Labels.length ∧ ((pKids c c.Queues[i].Path).map (lh c j)).sum = 10000) (fun k => (c.Labels.length - k.toNat)) ?_ ⟨by omega,fun j hj => by omega⟩
    rintro k ⟨hk0,hk⟩
    unfold oP
    refine ad (P:=fun q => if q = true then k < c.Labels.length else k < c.Labels.length → pKids c c.Queues[i].Path = []) ?_ ?_
    ·refine ae (fun h1 => aa ?_) (fun h1 => aa ?_)
     ·have h1:=of_decide_eq_true h1
      split
      ·exact h1
      ·rename_i hh
       intro _
       simp only [decide_eq_true_eq] at hh
       exact List.length_eq_zero_iff.1 (by omega)
     ·have h1:=of_decide_eq_false h1
      simp
      omega
    ·intro q hq1
     refine ae (fun e => ?_) (fun e => ?_)
     ·subst e
      simp only [if_true] at hq1
      have hkl : k.toNat < c.Labels.length:=by omega
      have hkk : k = (k.toNat : Int):=by omega
      have key:=(fE (fun s i => (s,i)) (pKids c c.Queues[i].Path) (fun s p => s + lh c k.toNat p) (fun j s => 0 ≤ s ∧ s ≤ 10000 * j) (fun s => s) (step:=g_ c (pKids c c.Queues[i].Path) k) (by omega) ?_ ?_ (s:=(0 : Int)) (by simp)).1
      ·rw [key,Jw]
       have hsum : ∀ (l : List Str) (z : Int),l.foldl (fun s p => s + lh c k.toNat p) z = z + (l.map (lh c k.toNat)).sum:=by
        intro l
        induction l with
        | nil => simp
        | cons x l ih => intro z; rw [List.foldl_cons,ih,List.map_cons,List.sum_cons]; omega
       rw [hsum,Int.zero_add]
       refine ae (fun _ => aa (.inr ⟨_,rfl,rfl⟩)) (fun e => aa (.inl ⟨_,rfl,⟨?_,?_⟩,?_⟩))
       ·rw [ao (by omega) (by omega)]; omega
       ·intro j hj
        rw [ao (by omega) (by omega)] at hj
        by_cases hjk : (j : Int) < k
        ·exact hk j hjk
        ·have : j = k.toNat:=by omega
         subst this
         exact ⟨hkl,by simpa using e⟩
       ·rw [ao (by omega) (by omega)]; omega
      ·intro j hj s hs
       unfold g_
       dsimp only
       rw [aj hj,aM hj]
       simp only [cond_true,Jw,Jx hj]
       rw [qR h]
       simp only [Jw]
       obtain ⟨_,q0,hq0,hp0,_⟩:=d5 (List.getElem_mem hj)
       obtain ⟨q',hf,hm,hp'⟩:=pz hq0
       rw [hp0] at hf
       have hb : Gv ((inb k q'.Caps.length).bind fun i2 => q'.Caps[i2]?) fun x => x ∈ q'.Caps ∧ lh c k.toNat (pKids c c.Queues[i].Path)[j] = x.Least:=by
        refine ad (mD hk0 (by rw [(hcap q' hm).1]; omega)) ?_
        rintro _ rfl
        refine sW (my (by rw [(hcap q' hm).1]; omega)) ?_
        rintro x ⟨hx,hx2⟩
        refine ⟨hx,?_⟩
        unfold lh
        rw [hf,Jw,hx2]
        rfl
       obtain ⟨x,ex,hx,hle⟩:=hb
       have hco:=(hcap q' hm).2 x hx
       unfold CapOk at hco
       rw [hf]
       simp only [Option.elim_some]
       rw [← Option.bind_assoc,ex,Jw,hle,ao (x:=s + x.Least) (by omega) (by omega)]
       exact ⟨rfl,by omega,by omega⟩
      ·intro s hs
       unfold g_
       dsimp only
       rw [ar]
       rfl
     ·subst e
      simp only [Bool.false_eq_true,if_false] at hq1
      refine aa (.inr ⟨_,rfl,fun hne j hj => ?_⟩)
      by_cases hkl : k < c.Labels.length
      ·exact absurd (hq1 hkl) hne
      ·exact (hk j (by omega)).2
   ·rintro (b | u) hr
    ·exact aa (.inr ⟨_,rfl,hr⟩)
    ·refine aa (.inl ⟨(),rfl,?_⟩)
     rw [List.take_succ_eq_append_getElem hi]
     intro q hq'
     rcases List.mem_append.1 hq' with hq' | hq'
     ·exact hv q hq'
     ·rw [JA] at hq'; subst hq'; exact hr
  ·intro _ hv
   unfold lz
   rw [ar]
   rw [List.take_length] at hv
   exact aa ⟨_,rfl,hv⟩
 ·rintro (b | u) hr
  ·exact aa fun e => by simp only at hr; rw [hr] at e; cases e
  ·exact aa fun _ => hr
theorem Ga {c : Conf} (h : CSmall c) (hlab : ∀ x ∈ c.Labels,x.length < 1000000) (hnd : ∀ q ∈ c.Queues,∀ b ∈ q.Path,b ≠ 45) : Gv (jJ c) fun e => e = 0 → ConfOk c:=by
 have hql:=h.q
 have hll:=h.l
 unfold jJ
 obtain ⟨x,ex,hx⟩:=Ex hlab (by omega)
 rw [ex]
 simp only [Jw]
 refine ae (fun e => aa fun e0 => by subst e0; simp at e) (fun e => ?_)
 obtain ⟨b1,b2,b3,b4,b5⟩:=hx (by simpa using e)
 refine ad (P:=fun q => q = false → ∃ q0,c.Queues[0]? = some q0 ∧ q0.Path = root) ?_ ?_
 ·refine ae (fun _ => aa (by simp)) (fun h1 => ?_)
  have h1 : ¬ c.Queues.length = 0:=by have:=beq_eq_false_iff_ne.1 h1; omega
  refine ad (fA (by omega) (by omega)) ?_
  rintro q ⟨hq,hq0⟩
  refine aa fun e2 => ⟨q,hq0,by simpa using e2⟩
 ·intro q hq
  refine ae (fun _ => aa (by omega)) (fun e1 => ?_)
  obtain ⟨q0,hq0,hp0⟩:=hq e1
  have hpos : 0 < c.Queues.length:=(Jy.1 hq0).1
  refine ad (P:=fun r => match r with | .inl q => q ≠ 0 | .inr _ => ∀ i (hi : i < c.Queues.length),QOk c i c.Queues[i]) ?_ ?_
  ·refine aG (σ:=Unit) (fun _ i => i) c.Queues.length (fun k _ => ∀ i (hi : i < c.Queues.length),i < k → QOk c i c.Queues[i]) (by omega) ?_ ?_ (s:=()) (fun i hi h0 => by omega)
   ·intro i hi _ hv
    unfold lb
    rw [aj hi]
    obtain ⟨y,ey,hy⟩:=Gk h hi
    rw [ey]
    simp only [cond_true,Jw]
    refine ae (fun e2 => aa (.inr ⟨_,rfl,by simpa using e2⟩)) (fun e2 => aa (.inl ⟨(),rfl,?_⟩))
    intro j hj hjk
    by_cases hji : j = i
    ·subst hji; exact hy (by simpa using e2)
    ·exact hv j hj (by omega)
   ·intro _ hv
    unfold lb
    rw [ar]
    exact aa ⟨_,rfl,fun i hi => hv i hi hi⟩
  ·rintro (y | u) hr
   ·exact aa fun e2 => absurd e2 hr
   ·have hq00 : c.Queues[0] = q0:=by rw [Jx hpos] at hq0; exact Option.some.inj hq0
    have hc0:=(hr 0 hpos).caps
    rw [hq00] at hc0
    refine ad (P:=fun r => match r with | .inl q => q ≠ 0 | .inr _ => ∀ x ∈ q0.Caps,x = ⟨10000,10000⟩) ?_ ?_
    ·refine aG (σ:=Unit) (fun _ i => i) c.Labels.length (fun k _ => ∀ x ∈ q0.Caps.take k,x = ⟨10000,10000⟩) (by omega) ?_ ?_ (s:=()) (by simp)
     ·intro k hk _ hv
      unfold kX
      have hk2 : k < q0.Caps.length:=by omega
      have hi0 : idx c.Queues 0 = some q0:=by rw [← hq00]; exact ai hpos
      rw [aj hk,hi0]
      simp only [cond_true,Jw]
      rw [ai hk2]
      simp only [Jw]
      refine ae (fun _ => aa (.inr ⟨_,rfl,by simp⟩)) (fun e2 => aa (.inl ⟨(),rfl,?_⟩))
      rw [List.take_succ_eq_append_getElem hk2]
      intro x hx
      rcases List.mem_append.1 hx with hx | hx
      ·exact hv x hx
      ·rw [JA] at hx
       subst hx
       simp at e2
       rcases hcc : q0.Caps[k] with ⟨a,b⟩
       rw [hcc] at e2
       simp at e2
       rw [e2.1,e2.2]
     ·intro _ hv
      unfold kX
      rw [ar]
      rw [← hc0,List.take_length] at hv
      exact aa ⟨_,rfl,hv⟩
    ·rintro (y | u) hr2
     ·exact aa fun e2 => absurd e2 hr2
     ·refine ad (Ik h hr b3) ?_
      intro b hb
      refine ae (fun _ => aa (by omega)) (fun e3 => aa fun _ => ?_)
      exact ⟨⟨b1,b2⟩,b4,b5,⟨by omega,b3⟩,⟨q0,hq0,hp0,hr2⟩,hr,hb (by simpa using e3),hnd⟩
end Go.Fx.D
