/-
  The reference manager: what holds of its state after every script. Conditions: none.
-/
import Derived.Test.YtmpaebhomokjmaaGreatS14
namespace Go.Fx.D
open Go Go.Fx
set_option linter.unusedVariables false
set_option linter.unusedSimpArgs false
def oS (x : Ask) : Vec:=⟨x.Size.Mem * x.Count,x.Size.Cores * x.Count⟩
def oO (l : List Ask) (label : Int) : Vec:=vsum ((l.filter fun x => x.Label == label).map oS)
theorem qf {c : Conf} {x : Ask} (h : AskOk c x) : VB 53687091200 (oS x) ∧ w64 (x.Size.Mem * x.Count) = x.Size.Mem * x.Count ∧ w64 (x.Size.Cores * x.Count) = x.Size.Cores * x.Count:=by
 have h1:=h.size
 have h2:=h.count
 unfold SzOk at h1
 obtain ⟨⟨a1,a2⟩,a3,a4⟩:=h1
 have m1:=oK (n:=x.Size.Mem) (bp:=x.Count) (N:=1073741824) (B:=50) (by omega) a2 (by omega) (by omega)
 have m2:=oK (n:=x.Size.Cores) (bp:=x.Count) (N:=1073741824) (B:=50) (by omega) a4 (by omega) (by omega)
 refine ⟨?_,ao (by omega) (by omega),ao (by omega) (by omega)⟩
 unfold VB oS
 dsimp only
 omega
theorem G3 {c : Conf} {l : List Ask} (hl : l.length ≤ 100) (h : ∀ x ∈ l,AskOk c x) (label : Int) : hF l label = some (oO l label):=by
 unfold hF
 rw [iG (fun v i => (v,i)) l (fun x => x.Label == label) oS (step:=eo l label) (by omega) (fun x hx _ => (qf (h x hx)).1.mono (by omega)) ?_ ?_]
 ·rfl
 ·intro k hk v hv
  obtain ⟨t1,t2,t3⟩:=qf (h _ (List.getElem_mem hk))
  unfold eo
  dsimp only
  rw [aj hk,cond_true,ai hk]
  simp only [Jw,t2,t3]
  have hp : aJ v ⟨l[k].Size.Mem * l[k].Count,l[k].Size.Cores * l[k].Count⟩ = some (vplus v (oS l[k])):=lS (hv.mono (m:=200000000000000000) (by omega)) (t1.mono (by omega)) (by omega)
  rw [hp]
  cases l[k].Label == label <;> rfl
 ·intro v
  unfold eo
  rw [ar]
  rfl
theorem qW {c : Conf} {l : List Ask} (hl : l.length ≤ 8) (h : ∀ x ∈ l,AskOk c x) (label : Int) : VB 429496729600 (oO l label):=by
 have:=pw (n:=53687091200) (by omega) (l:=(l.filter fun x => x.Label == label).map oS) (fun v hv => by
  obtain ⟨x,hx,rfl⟩:=List.mem_map.1 hv
  exact (qf (h x (List.mem_filter.1 hx).1)).1)
 refine this.mono ?_
 rw [List.length_map]
 have:=List.length_filter_le (fun x : Ask => x.Label == label) l
 omega
def gG (s : State) (path : Str) (label : Int) : Vec:=vsum ((s.Apps.filter fun a => pLive a && iY a.Queue path).map fun a => oO a.Asks label)
theorem tY {N : Nat} {s : State} (h : Inv N s) (path : Str) (label : Int) : dc s path label = some (gG s path label):=by
 have hal:=h.al
 unfold dc
 rw [iG (fun v i => (v,i)) s.Apps (fun a => pLive a && iY a.Queue path) (fun a => oO a.Asks label) (step:=dN s path label) (by omega) (fun a ha _ => (qW (h.ak a ha).al (h.ak a ha).ask label).mono (by omega)) ?_ ?_]
 ·rfl
 ·intro k hk v hv
  have hak:=h.ak _ (List.getElem_mem hk)
  unfold dN
  dsimp only
  rw [aj hk,cond_true,ai hk]
  simp only [Jw]
  rw [lT,Bl (h.leafLen (List.getElem_mem hk)),G3 (by have:=hak.al; omega) hak.ask]
  simp only [Jw]
  have hp : aJ v (oO s.Apps[k].Asks label) = some (vplus v (oO s.Apps[k].Asks label)):=lS (hv.mono (m:=200000000000000000) (by omega)) ((qW hak.al hak.ask label).mono (by omega)) (by omega)
  rw [hp]
  cases pLive s.Apps[k] <;> cases iY s.Apps[k].Queue path <;> rfl
 ·intro v
  unfold dN
  rw [ar]
  rfl
theorem Ds {N : Nat} {s : State} (h : Inv N s) (path : Str) (label : Int) : VB 6871947673600 (gG s path label):=by
 have hal:=h.al
 have:=pw (n:=429496729600) (by omega) (l:=(s.Apps.filter fun a => pLive a && iY a.Queue path).map fun a => oO a.Asks label) (fun v hv => by
  obtain ⟨a,ha,rfl⟩:=List.mem_map.1 hv
  exact qW (h.ak a (List.mem_filter.1 ha).1).al (h.ak a (List.mem_filter.1 ha).1).ask label)
 refine this.mono ?_
 rw [List.length_map]
 have:=List.length_filter_le (fun a : App => pLive a && iY a.Queue path) s.Apps
 omega
def pGood (n : Int) : Int:=if n < 0 ∨ n > 1125899906842624 then 0 else n
theorem iM (n : Int) : bq n = some (pGood n):=by
 unfold bq pGood
 by_cases h1 : n < 0
 ·rw [decide_eq_true h1,if_pos (.inl h1)]; rfl
 ·rw [decide_eq_false h1]
  by_cases h2 : n > 1125899906842624
  ·rw [decide_eq_true h2,if_pos (.inr h2)]; rfl
  ·rw [decide_eq_false h2,if_neg (by omega)]; rfl
theorem F6 (total : Int) {least want most : List Int} {n : Nat} (h1 : least.length = n) (h2 : want.length = n) (h3 : most.length = n) (hn : n ≤ 100000) : Gv (cJ total least want most) fun l => l.length = n:=by
 unfold cJ
 have e : imin (imin (least.length : Int) (want.length : Int)) (most.length : Int) = (n : Int):=by
  rw [h1,h2,h3]
  unfold imin
  simp
 dsimp only
 rw [e,iM,Jw]
 refine ad (P:=fun q => q.2.length = n) ?_ ?_
 ·refine aG (fun (t : Int × List Int) i => (t.1,t.2,i)) n (fun k t => t.2.length = k) (step:=bu least want most (n : Int)) (by omega) ?_ ?_ (s:=(pGood total,[])) rfl
  ·rintro k hk ⟨a,l⟩ hl
   dsimp only at hl
   unfold bu
   dsimp only
   rw [aj hk,cond_true,ai (by omega),Jw,iM,Jw,ai (by omega),Jw,iM,Jw,ai (by omega),Jw,iM,Jw,
    am (by simp; omega) (by omega),Jw]
   exact aa (.inl ⟨(_,_),rfl,by simp [hl]⟩)
  ·rintro t ht
   unfold bu
   dsimp only
   rw [ar,cond_false]
   exact aa ⟨_,rfl,ht⟩
 ·rintro ⟨a,l⟩ hl
  dsimp only at hl ⊢
  refine ad (P:=fun l => l.length = n) ?_ fun l hl => aa hl
  refine aG (fun (t : Int × List Int) i => (t.1,t.2,i)) n (fun k t => t.2.length = n) (step:=bw want most (n : Int)) (by omega) ?_ ?_ (s:=(a,l)) hl
  ·rintro k hk ⟨a,l⟩ hl
   dsimp only at hl
   unfold bw
   dsimp only
   have hkl : k < l.length:=by omega
   rw [aj hk,cond_true,ai (by omega),Jw,iM,Jw,ai (by omega),Jw,iM,Jw]
   simp only [aM hkl,Jw,Jx hkl]
   exact aa (.inl ⟨(_,_),rfl,by simp [hl]⟩)
  ·rintro t ht
   unfold bw
   dsimp only
   rw [ar,cond_false]
   exact aa ⟨_,rfl,ht⟩
theorem DV {N : Nat} {s : State} (h : Inv N s) (label : Int) : ∀ (d n : Nat) (path : Str) (mem : Int),3 ≤ path.count 46 + d → d ≤ n → d ≤ 3 → (pFind s.Conf path).isSome = true →
  Gv (aU (n + 1) s path label mem) fun l => l.length ≤ 16 ^ d ∧ ∀ x ∈ l,pLeaf s.Conf x.Path = true:=by
 have hsc:=h.sc
 have hq:=h.cf.qs
 intro d
 induction d with
 | zero =>
  intro n path mem hc _ _ hf
  have hk : pKids s.Conf path = []:=by
   cases hk : pKids s.Conf path with
   | nil => rfl
   | cons x l =>
    have hx : x ∈ pKids s.Conf path:=by rw [hk]; simp
    obtain ⟨hp,q,hq,rfl,ha⟩:=d5 hx
    have h1:=kg hp ha
    have h2:=(lE h.cf hq).deep
    omega
  show Gv (be _ s path label mem) _
  unfold be
  rw [ot h.cf.small,Jw,hk]
  refine aa ⟨by simp,fun x hx => ?_⟩
  have : x = ⟨path,mem⟩:=by simpa using hx
  subst this
  show pLeaf s.Conf path = true
  unfold pLeaf
  rw [hf,hk]
  rfl
 | succ d ih =>
  intro n path mem hc hn hd3 hf
  obtain ⟨n,rfl⟩ : ∃ m,n = m + 1:=⟨n - 1,by omega⟩
  have hkl:=oz s.Conf path
  show Gv (be (aU (n + 1)) s path label mem) _
  unfold be
  rw [ot h.cf.small,Jw]
  generalize hK : pKids s.Conf path = kids at hkl
  have hkid : ∀ x ∈ kids,PathOk x ∧ x.count 46 = path.count 46 + 1 ∧ (pFind s.Conf x).isSome = true:=by
   intro x hx
   rw [← hK] at hx
   obtain ⟨hp,q,hq',rfl,ha⟩:=d5 hx
   obtain ⟨q',e,_⟩:=pz hq'
   exact ⟨lE h.cf hq',kg hp ha,by rw [e]; rfl⟩
  refine ae (fun hz => ?_) fun hz => ?_
  ·have hk0 : kids = []:=by
    have : (kids.length : Int) = 0:=by simpa using hz
    exact List.eq_nil_of_length_eq_zero (by omega)
   refine aa ⟨by simp; exact Nat.one_le_pow _ _ (by omega),fun x hx => ?_⟩
   have : x = ⟨path,mem⟩:=by simpa using hx
   subst this
   show pLeaf s.Conf path = true
   unfold pLeaf
   rw [hf,hK,hk0]
   rfl
  ·refine ad (P:=fun q => q.1.length = kids.length ∧ q.2.1.length = kids.length ∧ q.2.2.length = kids.length) ?_ ?_
   ·refine aG (fun (t : List Int × List Int × List Int) i => (t.1,t.2.1,t.2.2,i)) kids.length (fun k t => t.1.length = k ∧ t.2.1.length = k ∧ t.2.2.length = k) (step:=bh s label kids) (by omega) ?_ ?_ (s:=([],[],[])) ⟨rfl,rfl,rfl⟩
    ·rintro k hk ⟨a,b,c⟩ ⟨q1,q2,q3⟩
     dsimp only at q1 q2 q3
     have hlen : kids[k].length ≤ 1000000:=by have:=(hkid _ (List.getElem_mem hk)).1.len; omega
     unfold bh
     dsimp only
     rw [aj hk,cond_true]
     simp only [aM hk,Jw,Jx hk]
     rw [mI hsc hlen,Jw,am (by simp; omega) (by omega),Jw,yi hsc hlen,Jw,am (by simp; omega) (by omega),Jw,jw h.sb,Jw,
      tY h,Jw,am (by simp; omega) (by omega),Jw]
     exact aa (.inl ⟨(_,_,_),rfl,by simp [q1],by simp [q2],by simp [q3]⟩)
    ·rintro t ht
     unfold bh
     dsimp only
     rw [ar,cond_false]
     exact aa ⟨_,rfl,ht⟩
   ·rintro ⟨a,b,c⟩ ⟨q1,q2,q3⟩
    refine ad (F6 mem q1 q2 q3 (by omega)) fun x8 hx8 => ?_
    have hpow : 16 ^ d ≤ 16 ^ 3:=Nat.pow_le_pow_right (by omega) (by omega)
    refine ad (P:=fun l => l.length ≤ kids.length * 16 ^ d ∧ ∀ x ∈ l,pLeaf s.Conf x.Path = true) ?_ ?_
    ·refine aG (fun (t : List Share) i => (t,i)) kids.length (fun k l => l.length ≤ k * 16 ^ d ∧ ∀ x ∈ l,pLeaf s.Conf x.Path = true) (step:=a_ s label (aU (n + 1)) kids x8) (by omega) ?_ ?_ (s:=[]) ⟨by simp,by simp⟩
     ·rintro k hk l ⟨hl,hll⟩
      obtain ⟨k1,k2,k3⟩:=hkid _ (List.getElem_mem hk)
      have hmul : k * 16 ^ d ≤ 16 * 16 ^ 3:=Nat.mul_le_mul (by omega) hpow
      unfold a_
      dsimp only
      rw [aj hk,cond_true,aM hk,Jw,Jx hk,Jw,aM (by omega),Jw,Jx (by omega),Jw]
      refine ad (ih n kids[k] _ (by omega) (by omega) (by omega) k3) ?_
      rintro m ⟨hm,hml⟩
      rw [am (by omega) (by omega),Jw]
      refine aa (.inl ⟨l ++ m,rfl,by rw [Jz,Nat.succ_mul]; omega,fun x hx => ?_⟩)
      rcases List.mem_append.1 hx with hx | hx
      ·exact hll x hx
      ·exact hml x hx
     ·rintro l hl
      unfold a_
      dsimp only
      rw [ar,cond_false]
      exact aa ⟨l,rfl,hl⟩
    ·rintro l ⟨hl,hll⟩
     refine aa ⟨?_,hll⟩
     have h2 : kids.length * 16 ^ d ≤ 16 * 16 ^ d:=Nat.mul_le_mul_right _ (by omega)
     rw [Nat.pow_succ,Nat.mul_comm (16 ^ d)]
     omega
theorem sG {N : Nat} {s : State} (h : Inv N s) (label : Int) : Gv (bM s label) fun l => l.length ≤ 4096 ∧ ∀ x ∈ l,pLeaf s.Conf x.Path = true:=by
 unfold bM jM
 rw [pL h.sb,Jw]
 refine ad (DV h label 3 63 root _ (by decide) (by omega) (by omega) (xp h.cf)) ?_
 rintro l ⟨hl,hll⟩
 have hl : l.length ≤ 4096:=hl
 refine ad (P:=fun m => m.length = l.length ∧ ∀ x ∈ m,x ∈ l) ?_ fun m hm => aa ⟨by rw [hm.1]; exact hl,fun x hx => hll x (hm.2 x hx)⟩
 refine aG (fun (t : List Share) i => (t,i)) l.length (fun k m => m.length = k ∧ ∀ x ∈ m,x ∈ l) (step:=bc l) (by omega) ?_ ?_ (s:=[]) ⟨rfl,by simp⟩
 ·rintro k hk m ⟨hm,hml⟩
  unfold bc
  dsimp only
  rw [aj hk,cond_true]
  refine ad (P:=fun j => ∃ i : Nat,j = (i : Int) ∧ i ≤ m.length) ?_ ?_
  ·have ew:=jz m (fun y => Op.bytesLess y.Path l[k].Path) (step:=bi l (m,(k : Int))) (by omega) ?_ ?_
   ·rw [ew]
    exact aa ⟨_,rfl,mM _ _⟩
   ·intro j hj
    unfold bi
    dsimp only
    rw [aj hj,cond_true,aM hj,Jw,Jx hj,Jw,aM hk,Jw,Jx hk,Jw,Jw]
    cases Op.bytesLess m[j].Path l[k].Path <;> rfl
   ·unfold bi
    dsimp only
    rw [ar]
    rfl
  ·rintro j ⟨i,rfl,hi⟩
   refine ad (qO (l:=m) (by omega) (by omega) (by omega)) ?_
   rintro p ⟨p1,p2⟩
   rw [am (by simp; omega) (by omega),Jw,aM hk,Jw,Jx hk,Jw,am (by simp; omega) (by omega),Jw]
   refine ad (qO (l:=m) (by omega) (by omega) (by omega)) ?_
   rintro p' ⟨q1,q2⟩
   rw [am (by simp; omega) (by omega),Jw]
   refine aa (.inl ⟨_,rfl,by simp; omega,fun x hx => ?_⟩)
   simp only [List.nil_append,List.mem_append,JA] at hx
   rcases hx with (hx | rfl) | hx
   ·exact hml x (p2 x hx)
   ·exact List.getElem_mem hk
   ·exact hml x (q2 x hx)
 ·rintro m hm
  unfold bc
  rw [ar]
  exact aa ⟨m,rfl,hm⟩
theorem F1 {N : Nat} {s : State} (h : Inv N s) (label : Int) (path : Str) : Gv (cC s label path) fun _ => True:=by
 unfold cC
 refine ad (sG h label) ?_
 rintro l ⟨hl,_⟩
 refine ad (P:=fun _ => True) ?_ ?_
 ·refine aG (fun (_ : Unit) i => i) l.length (fun _ _ => True) (step:=bj path l) (by omega) ?_ ?_ (s:=()) trivial
  ·intro k hk _ _
   unfold bj
   rw [aj hk,cond_true]
   simp only [aM hk,Jw,Jx hk]
   exact ae (fun _ => aa (.inr ⟨_,rfl,trivial⟩)) fun _ => aa (.inl ⟨(),rfl,trivial⟩)
  ·intro _ _
   unfold bj
   rw [ar]
   exact aa ⟨_,rfl,trivial⟩
 ·rintro (q | q) _
  ·exact aa trivial
  ·exact aa trivial
end Go.Fx.D
