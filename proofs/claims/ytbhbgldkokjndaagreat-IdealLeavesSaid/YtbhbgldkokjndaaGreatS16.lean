/-
  The reference manager: what holds of its state after every script. Conditions: none.
-/
import Derived.Test.YtbhbgldkokjndaaGreatS15
namespace Go.Fx.D
open Go Go.Fx
set_option linter.unusedVariables false
set_option linter.unusedSimpArgs false
def strip (c : Cont) : Cont:=⟨c.Id,c.App,c.Node,c.Size,c.Prio,c.Label,c.Master,0⟩
theorem Inv.conts {N : Nat} {s : State} (h : Inv N s) {cs : List Cont} (e : cs.map strip = s.Conts.map strip) : Inv N ⟨s.Conf,s.Nodes,s.Apps,cs,s.Slots,s.Plans,s.Now,s.Epoch,s.Seq⟩:=by
 have hl : cs.length = s.Conts.length:=by simpa using congrArg List.length e
 refine ⟨h.cf,h.nl,h.ns,h.nk,h.al,h.asr,h.ak,by show cs.length ≤ 200; rw [hl]; exact h.cl,?_,fun c hc => ?_,h.ss,h.sk,h.pl,h.ps,h.pk,h.now,h.ep,h.sq⟩
 ·have h1 : (s.Conts.map strip).Pairwise fun x y => x.Id < y.Id:=List.pairwise_map.2 h.cs
  rw [← e] at h1
  exact (List.pairwise_map (f:=strip) (R:=fun x y : Cont => x.Id < y.Id)).1 h1
 ·have hm : strip c ∈ s.Conts.map strip:=by rw [← e]; exact List.mem_map_of_mem hc
  obtain ⟨c',hc',ec⟩:=List.mem_map.1 hm
  have:=h.ck c' hc'
  unfold strip at ec
  injection ec with e1 e2 e3 e4 e5 e6 e7
  refine ⟨by rw [← e4]; exact this.size,?_,by rw [← e6]; exact this.label,by rw [← e1]; exact this.id⟩
  rw [← e2]
  exact this.app
theorem tT {N : Nat} {s : State} (h : Inv N s) (i t : Int) : Gv (dC s i t) (Inv N):=by
 have hcl:=h.cl
 unfold dC
 rw [ah (by simp; omega) (by omega),At,List.nil_append]
 refine ad (P:=fun l => l.map strip = s.Conts.map strip) ?_ fun l hl => aa (h.conts hl)
 refine aw (fun (l : List Cont) i => (l,i)) s.Conts.length (fun _ l => l.map strip = s.Conts.map strip) (step:=ez i t) (by omega) ?_ ?_ (s:=s.Conts) rfl
 ·intro k hk l hl
  have hll : l.length = s.Conts.length:=by simpa using congrArg List.length hl
  have hkl : k < l.length:=by omega
  unfold ez
  dsimp only
  rw [hll,aj hk,cond_true]
  refine ad (P:=fun m => m.map strip = s.Conts.map strip) ?_ fun m hm => aa (.inl ⟨m,rfl,hm⟩)
  rw [← hll]
  simp only [aA hkl,At,Au hkl]
  refine ae (fun _ => aa ?_) fun _ => aa hl
  rw [← hl,List.map_set]
  have e : strip ⟨l[k].Id,l[k].App,l[k].Node,⟨l[k].Size.Mem,l[k].Size.Cores⟩,l[k].Prio,l[k].Label,l[k].Master,t⟩ = (l.map strip)[k]'(by simpa using hkl):=by simp [strip]
  rw [e,List.set_getElem_self]
 ·intro l hl
  have hll : l.length = s.Conts.length:=by simpa using congrArg List.length hl
  unfold ez
  dsimp only
  rw [hll,ar]
  exact aa ⟨l,rfl,hl⟩
def uh (s : State) (c : Cont) : Str:=(appAt s c.App).elim [] (·.Queue)
theorem n4 {s : State} (h : SSmall s) (c : Cont) : br s c = some (uh s c):=by
 unfold br uh
 rw [dt h,At]
 cases appAt s c.App <;> rfl
theorem wL {N : Nat} {s : State} (h : Inv N s) (c : Cont) : Gv (fy s c) fun _ => True:=by
 have hcl:=h.cl
 unfold fy
 refine ad (P:=fun _ => True) ?_ fun _ _ => aa trivial
 refine aw (fun (n : Int) i => (n,i)) s.Conts.length (fun _ _ => True) (step:=cU s c) (by omega) ?_ ?_ (s:=0) trivial
 ·intro k hk n _
  unfold cU
  dsimp only
  rw [aj hk,cond_true,At]
  refine ae (fun _ => ?_) fun _ => aa (.inr ⟨_,rfl,trivial⟩)
  refine ad (P:=fun _ => True) ?_ fun n _ => aa (.inl ⟨n,rfl,trivial⟩)
  simp only [ai hk,At]
  refine ad (P:=fun _ => True) ?_ fun q _ => ?_
  ·repeat' (first | exact ⟨_,rfl,trivial⟩ | refine ae (fun _ => ?_) (fun _ => ?_))
  ·repeat' (first | exact ⟨_,rfl,trivial⟩ | refine ae (fun _ => ?_) (fun _ => ?_))
 ·intro n _
  unfold cU
  dsimp only
  rw [ar]
  exact aa ⟨_,rfl,trivial⟩
def pIn (l : List Int) (n : Int) : Bool:=l.contains n
theorem uf {l : List Int} (hl : l.length ≤ 100000) (n : Int) : de l n = some (pIn l n):=by
 unfold de
 have e:=dI (fun i => i) l (fun x => x == n) (fun _ => (.inl true : Bool ⊕ Unit)) (.inr ()) (step:=c7 l n) (by omega) ?_ ?_ ?_
 ·rw [e]
  unfold pIn
  cases hf : l.find? fun x => x == n with
  | none =>
   have : l.contains n = false:=by
    rw [List.contains_eq_any_beq,List.any_eq_false]
    intro x hx
    have:=List.find?_eq_none.1 hf x hx
    simp only [beq_iff_eq] at this ⊢
    exact fun e => this e.symm
   rw [this]; rfl
  | some x =>
   have h1:=List.mem_of_find?_eq_some hf
   have h2:=List.find?_some hf
   have : l.contains n = true:=by
    rw [List.contains_eq_any_beq,List.any_eq_true]
    simp only [beq_iff_eq] at h2 ⊢
    exact ⟨x,h1,h2.symm⟩
   rw [this]; rfl
 ·intro k hk hp
  unfold c7
  rw [aj hk,cond_true,ai hk,At,hp]
  rfl
 ·intro k hk hp
  unfold c7
  rw [aj hk,cond_true,ai hk,At,hp]
  rfl
 ·unfold c7
  rw [ar]
  rfl
theorem qF {N : Nat} {s : State} (h : Inv N s) (path : Str) (label : Int) {l : List Int} (hl : l.length ≤ 100000) : Gv (cE s path label l) fun _ => True:=by
 have hcl:=h.cl
 unfold cE
 refine ad (P:=fun _ => True) ?_ fun _ _ => aa trivial
 refine aw (fun (n : Int) i => (n,i)) s.Conts.length (fun _ _ => True) (step:=cV s path label l) (by omega) ?_ ?_ (s:=0) trivial
 ·intro k hk n _
  unfold cV
  dsimp only
  rw [aj hk,cond_true]
  refine ad (P:=fun _ => True) ?_ fun n _ => aa (.inl ⟨n,rfl,trivial⟩)
  rw [ai hk,At,uf hl,n4 h.z]
  refine ad (P:=fun _ => True) ?_ fun q _ => ?_
  ·simp only [At]
   repeat' (first | exact ⟨_,rfl,trivial⟩ | refine ae (fun _ => ?_) (fun _ => ?_))
  ·repeat' (first | exact ⟨_,rfl,trivial⟩ | refine ae (fun _ => ?_) (fun _ => ?_))
 ·intro n _
  unfold cV
  dsimp only
  rw [ar]
  exact aa ⟨_,rfl,trivial⟩
theorem vR {N : Nat} {s : State} (h : Inv N s) (path : Str) (label : Int) {l : List Int} (hl : l.length ≤ 100000) : Gv (fc s path label l) fun r => r.2 = true → r.1 ∈ s.Conts ∧ r.1.Id ∉ l:=by
 have hcl:=h.cl
 unfold fc
 refine ad (P:=fun r => r.2 = true → r.1 ∈ s.Conts ∧ r.1.Id ∉ l) ?_ fun _ hr => aa hr
 refine aw (fun (t : Cont × Bool) i => (t.1,t.2,i)) s.Conts.length (fun _ r => r.2 = true → r.1 ∈ s.Conts ∧ r.1.Id ∉ l) (step:=cR s path label l) (by omega) ?_ ?_ (s:=((⟨0,0,0,⟨0,0⟩,0,0,false,0⟩ : Cont),false)) (by simp)
 ·intro k hk t ht
  unfold cR
  dsimp only
  rw [aj hk,cond_true]
  refine ad (P:=fun r => r.2 = true → r.1 ∈ s.Conts ∧ r.1.Id ∉ l) ?_ fun r hr => aa (.inl ⟨r,rfl,hr⟩)
  rw [ai hk,At,uf hl,n4 h.z]
  refine ad (P:=fun b => b = false → s.Conts[k].Id ∉ l) ?_ fun q hq => ?_
  ·simp only [At]
   refine ae (fun _ => aa (by simp)) fun _ => ae (fun _ => aa (by simp)) fun _ => ae (fun _ => aa (by simp)) fun _ => aa fun hb => ?_
   unfold pIn at hb
   intro hm
   rw [List.contains_iff_mem.2 hm] at hb
   cases hb
  ·refine ae (fun _ => aa ht) fun hqf => ?_
   refine ad (P:=fun _ => True) ?_ fun q1 _ => ?_
   ·repeat' (first | exact ⟨_,rfl,trivial⟩ | refine ae (fun _ => ?_) (fun _ => ?_))
   ·exact ae (fun _ => aa fun _ => ⟨List.getElem_mem hk,hq hqf⟩) fun _ => aa ht
 ·intro t ht
  unfold cR
  dsimp only
  rw [ar,cond_false]
  exact aa ⟨_,rfl,ht⟩
theorem xc {N : Nat} {s : State} (h : Inv N s) {path : Str} (hp : path.length ≤ 1000000) (label : Int) : Gv (gg s path label) fun _ => True:=by
 have hal:=h.al
 unfold gg
 rw [ie h.sb,At,jR h.sc hp,At]
 refine ad (P:=fun _ => True) ?_ ?_
 ·refine aw (fun (_ : Unit) i => i) s.Apps.length (fun _ _ => True) (step:=dn s path label _ _) (by omega) ?_ ?_ (s:=()) trivial
  ·intro k hk _ _
   have hak:=(h.ak _ (List.getElem_mem hk)).al
   unfold dn
   rw [aj hk,cond_true,ai hk,At]
   refine ad (P:=fun _ => True) ?_ ?_
   ·refine aw (fun (_ : Unit) i => i) s.Apps[k].Asks.length (fun _ _ => True) (step:=dj s path label _ _ s.Apps[k]) (by omega) ?_ ?_ (s:=()) trivial
    ·intro j hj _ _
     unfold dj
     rw [aj hj,cond_true,js,At]
     refine ad (P:=fun _ => True) ?_ fun q _ => ?_
     ·repeat' (first | exact ⟨_,rfl,trivial⟩ | refine ae (fun _ => ?_) (fun _ => ?_))
     refine ae (fun _ => ?_) fun _ => aa (.inr ⟨_,rfl,trivial⟩)
     simp only [ai hj,At]
     refine ad (P:=fun _ => True) ?_ fun q _ => ?_
     ·repeat' (first | exact ⟨_,rfl,trivial⟩ | refine ae (fun _ => ?_) (fun _ => ?_))
     refine ae (fun _ => ?_) fun _ => aa (.inl ⟨(),rfl,trivial⟩)
     rw [lh h,At]
     exact aa (.inr ⟨_,rfl,trivial⟩)
    ·intro _ _
     unfold dj
     rw [ar]
     exact aa ⟨_,rfl,trivial⟩
   ·rintro (q | q) _
    ·exact aa (.inr ⟨_,rfl,trivial⟩)
    ·exact aa (.inl ⟨(),rfl,trivial⟩)
  ·intro _ _
   unfold dn
   rw [ar]
   exact aa ⟨_,rfl,trivial⟩
 ·rintro (q | q) _
  ·exact aa trivial
  ·exact aa trivial
theorem qk : ∀ (l m : List Int),l.Nodup → (∀ x ∈ l,x ∈ m) → l.length ≤ m.length
 | [],m,_,_ => by simp
 | x :: l,m,hn,hm => by
  have hx:=hm x (by simp)
  have h1:=List.nodup_cons.1 hn
  have:=qk l (m.erase x) h1.2 fun y hy => (List.mem_erase_of_ne (by rintro rfl; exact h1.1 hy)).2 (hm y (by simp [hy]))
  rw [List.length_erase_of_mem hx] at this
  have hpos:=List.length_pos_of_mem hx
  simp only [List.length_cons]
  omega
theorem yA {N : Nat} {s : State} (h : Inv N s) (label : Int) : Gv (gA s label) fun l => l.length ≤ 200:=by
 have hcl:=h.cl
 unfold gA
 refine ad (mc h label) ?_
 rintro shares ⟨hsl,hsp⟩
 rw [jP h.sb,At,ie h.sb,At]
 dsimp only
 have hpath : ∀ x ∈ shares,x.Path.length ≤ 1000000:=fun x hx => by have:=(lU h.cf (hsp x hx)).len; omega
 refine ad (P:=fun _ => True) ?_ fun need _ => ?_
 ·refine aw (fun (n : Int) i => (n,i)) shares.length (fun _ _ => True) (step:=d5 s label shares) (by omega) ?_ ?_ (s:=_) trivial
  ·intro k hk n _
   unfold d5
   dsimp only
   rw [aj hk,cond_true,aA hk,At,Au hk,At]
   exact ad (xc h (hpath _ (List.getElem_mem hk)) label) fun x _ => aa (.inl ⟨_,rfl,trivial⟩)
  ·intro n _
   unfold d5
   dsimp only
   rw [ar]
   exact aa ⟨_,rfl,trivial⟩
 ·refine ad (P:=fun r => match r with | .inl l => l.length ≤ 200 | .inr l => l.length ≤ 200) ?_ ?_
  ·have hcount : ∀ l : List Int,l.Nodup → (∀ x ∈ l,∃ c ∈ s.Conts,c.Id = x) → l.length ≤ 200:=by
    intro l hn hm
    have : l.length ≤ (s.Conts.map (·.Id)).length:=by
     refine qk l _ hn fun x hx => ?_
     obtain ⟨c,hc,rfl⟩:=hm x hx
     exact List.mem_map_of_mem hc
    rw [List.length_map] at this
    omega
   refine gh (fun l : List Int => l.Nodup ∧ ∀ x ∈ l,∃ c ∈ s.Conts,c.Id = x) (fun l => 200 - l.length) ?_ (t:=[]) ⟨List.nodup_nil,by simp⟩
   rintro l ⟨hn,hm⟩
   have hll:=hcount l hn hm
   unfold j1
   refine ad (qF h [] label (by omega)) fun x4 _ => ?_
   refine ae (fun _ => ?_) fun _ => aa (.inr ⟨_,rfl,hll⟩)
   refine ad (P:=fun r => r.1 ≠ 0 → r.2 ∈ s.Conts ∧ r.2.Id ∉ l) ?_ ?_
   ·refine aw (fun (t : Int × Cont) i => (t.1,t.2,i)) shares.length (fun _ r => r.1 ≠ 0 → r.2 ∈ s.Conts ∧ r.2.Id ∉ l) (step:=eu s label shares l) (by omega) ?_ ?_ (s:=((0 : Int),(⟨0,0,0,⟨0,0⟩,0,0,false,0⟩ : Cont))) (by simp)
    ·intro k hk t ht
     unfold eu
     dsimp only
     rw [aj hk,cond_true]
     refine ad (P:=fun r => r.1 ≠ 0 → r.2 ∈ s.Conts ∧ r.2.Id ∉ l) ?_ fun r hr => aa (.inl ⟨r,rfl,hr⟩)
     simp only [aA hk,At,Au hk]
     rw [ie h.sb,At]
     refine ad (qF h _ label (by omega)) fun x8 _ => ad (vR h _ label (by omega)) fun x9 hx9 => ?_
     refine ad (P:=fun b => b = true → x9.2 = true) ?_ fun b hb => ?_
     ·exact ae (fun hx => aa fun _ => hx) fun _ => aa (by simp)
     ·exact ae (fun hbt => aa fun _ => hx9 (hb hbt)) fun _ => aa ht
    ·intro t ht
     unfold eu
     dsimp only
     rw [ar,cond_false]
     exact aa ⟨_,rfl,ht⟩
   ·rintro ⟨o,c⟩ hr
    dsimp only at hr ⊢
    refine ae (fun _ => aa (.inr ⟨_,rfl,hll⟩)) fun ho => ?_
    obtain ⟨c1,c2⟩:=hr (by simpa using ho)
    rw [ah (by simp; omega) (by omega),At]
    have hn' : (l ++ [c.Id]).Nodup:=List.nodup_append.2 ⟨hn,by simp,fun a ha b hb e => by rw [Ax] at hb; subst hb; subst e; exact c2 ha⟩
    have hm' : ∀ x ∈ l ++ [c.Id],∃ c ∈ s.Conts,c.Id = x:=by
     intro x hx
     rcases List.mem_append.1 hx with hx | hx
     ·exact hm x hx
     ·rw [Ax] at hx
      subst hx
      exact ⟨c,c1,rfl⟩
    have hlen:=hcount _ hn' hm'
    refine aa (.inl ⟨_,rfl,⟨hn',hm'⟩,?_⟩)
    rw [Aw] at hlen ⊢
    simp only [List.length_singleton] at hlen ⊢
    omega
  ·rintro (q | q) hq
   ·exact aa hq
   ·exact aa hq
theorem zJ {N : Nat} (hN : N ≤ 900000) {s : State} (h : Inv N s) (label : Int) : Gv (gC s label) (Inv (N + 200)):=by
 have hcl:=h.cl
 unfold gC
 dsimp only
 refine ad (P:=fun l => l.length ≤ s.Conts.length) ?_ fun l hl => ?_
 ·rw [ao (x:=(s.Conts.length : Int) - 1) (by omega) (by omega)]
  refine gh (fun t : List Cont × Int => -1 ≤ t.2 ∧ t.2 < s.Conts.length ∧ (t.1.length : Int) ≤ s.Conts.length - 1 - t.2) (fun t => (t.2 + 1).toNat) ?_ (by dsimp only; simp; omega)
  rintro ⟨l,i⟩ ⟨h1,h2,h3⟩
  dsimp only at h1 h2 h3
  unfold jU
  dsimp only
  refine ae (fun hge => ?_) fun _ => aa (.inr ⟨_,rfl,by omega⟩)
  simp only [decide_eq_true_eq] at hge
  refine ad (P:=fun m => m.length ≤ l.length + 1) ?_ fun m hm => aa (.inl ⟨(m,w64 (i - 1)),rfl,?_,?_⟩)
  ·refine ad (b_ (dF (by omega) h2)) fun x _ => ?_
   refine ad (P:=fun _ => True) ?_ fun q _ => ?_
   ·repeat' (first | exact ⟨_,rfl,trivial⟩ | refine ae (fun _ => ?_) (fun _ => ?_))
   refine ae (fun _ => ?_) fun _ => aa (by omega)
   rw [ah (by simp; omega) (by omega),At]
   exact aa (by simp)
  ·rw [ao (x:=i - 1) (by omega) (by omega)]; dsimp only; omega
  ·rw [ao (x:=i - 1) (by omega) (by omega)]; dsimp only; omega
 ·refine ad (P:=Inv (N + 200)) ?_ fun t ht => aa ht
  refine aw (fun (t : State) i => (t,i)) l.length (fun k t => Inv (N + k) t) (step:=dZ label l) (by omega) ?_ ?_ (s:=s) h
  ·intro k hk t ht
   unfold dZ
   dsimp only
   rw [aj hk,cond_true]
   refine ad (P:=Inv (N + (k + 1))) ?_ fun u hu => aa (.inl ⟨u,rfl,hu⟩)
   rw [aA hk,At,Au hk,At,iR ht.z,At]
   cases hc : na t l[k].Id with
   | none => exact aa (ht.mono (by omega))
   | some c =>
    simp only [Option.elim,Bool.not_true,cond_false]
    rw [n4 ht.z,At,ie ht.sb,At]
    refine ad (wL ht c) fun x5 _ => ?_
    rw [At]
    refine ad (wS ht label _) fun x7 _ => ?_
    refine ae (fun _ => ?_) fun _ => ?_
    ·exact ad (n_ ht (ids:=[c.Id]) (by simp; omega)) fun u hu => aa hu
    ·exact ad (tT ht c.Id 0) fun u hu => aa (hu.mono (by omega))
  ·intro t ht
   unfold dZ
   dsimp only
   rw [ar]
   exact aa ⟨t,rfl,ht.mono (by omega)⟩
theorem ug {s t : State} (h : SSmall s) (h' : SSmall t) : Gv (dS s t) fun _ => True:=by
 have hc:=h.c
 unfold dS
 refine ad (P:=fun _ => True) ?_ fun _ _ => aa trivial
 refine aw (fun (l : List Int) i => (l,i)) s.Conts.length (fun k l => l.length ≤ k) (step:=eF s t) (by omega) ?_ ?_ (s:=[]) (by simp)
 ·intro k hk l hl
  unfold eF
  dsimp only
  rw [aj hk,cond_true,ai hk,At,iR h',At]
  refine ad (P:=fun m => m.length ≤ k + 1) ?_ fun m hm => aa (.inl ⟨m,rfl,hm⟩)
  refine ae (fun _ => ?_) fun _ => aa (by omega)
  rw [At,ah (by simp; omega) (by omega),At]
  exact aa (by simp; omega)
 ·intro l hl
  unfold eF
  rw [ar]
  exact aa ⟨l,rfl,trivial⟩
theorem wY {N : Nat} (hN : N ≤ 800000) {s : State} (h : Inv N s) : Gv (gb s) fun r => Inv (N + 600) r.1:=by
 unfold gb
 refine ad (P:=Inv (N + 600)) ?_ fun t ht => ad (ug h.z ht.z) fun _ _ => aa ht
 refine gh (fun t : State × Int => 0 ≤ t.2 ∧ t.2 ≤ 3 ∧ Inv (N + 200 * t.2.toNat) t.1) (fun t => (3 - t.2).toNat) ?_ (by dsimp only; exact ⟨by omega,by omega,h⟩)
 rintro ⟨t,i⟩ ⟨h1,h2,ht⟩
 dsimp only at h1 h2 ht
 have hlb:=ht.cf.lab
 unfold jA
 dsimp only
 refine ae (fun hlt => ?_) fun _ => aa (.inr ⟨_,rfl,ht.mono (by omega)⟩)
 simp only [decide_eq_true_eq] at hlt
 refine ad (zJ (by omega) ht i) fun u hu => ?_
 refine ad (yA hu i) fun l hl => ?_
 refine ad (P:=Inv (N + 200 * i.toNat + 200)) ?_ fun v hv => aa (.inl ⟨(v,w64 (i + 1)),rfl,?_,?_⟩)
 ·refine aw (fun (t : State) i => (t,i)) l.length (fun _ t => Inv (N + 200 * i.toNat + 200) t) (step:=dk l) (by omega) ?_ ?_ (s:=u) hu
  ·intro k hk t ht
   unfold dk
   dsimp only
   rw [aj hk,cond_true,aA hk,At,Au hk,At]
   exact ad (tT ht _ _) fun u hu => aa (.inl ⟨u,rfl,hu⟩)
  ·intro t ht
   unfold dk
   dsimp only
   rw [ar]
   exact aa ⟨t,rfl,ht⟩
 ·rw [ao (x:=i + 1) (by omega) (by omega)]
  dsimp only
  exact ⟨by omega,by omega,hv.mono (by omega)⟩
 ·rw [ao (x:=i + 1) (by omega) (by omega)]; dsimp only; omega
theorem Inv.at_ {N : Nat} {s : State} (h : Inv N s) {t : Int} (ht : 0 ≤ t ∧ t ≤ 1000000000) : Inv N ⟨s.Conf,s.Nodes,s.Apps,s.Conts,s.Slots,s.Plans,t,s.Epoch,s.Seq⟩ :=
 ⟨h.cf,h.nl,h.ns,h.nk,h.al,h.asr,h.ak,h.cl,h.cs,fun c hc => ⟨(h.ck c hc).size,(h.ck c hc).app,(h.ck c hc).label,(h.ck c hc).id⟩,h.ss,h.sk,h.pl,h.ps,h.pk,ht,h.ep,h.sq⟩
theorem zD {s : State} (h : SSmall s) (i : Int) : Gv (gz s i) fun _ => True:=by
 have hc:=h.c
 unfold gz
 refine ad (P:=fun _ => True) ?_ ?_
 ·refine aw (fun (_ : Unit) i => i) s.Conts.length (fun _ _ => True) (step:=dU s i) (by omega) ?_ ?_ (s:=()) trivial
  ·intro k hk _ _
   unfold dU
   rw [aj hk,cond_true]
   simp only [ai hk,At]
   refine ad (P:=fun _ => True) ?_ fun q _ => ?_
   ·repeat' (first | exact ⟨_,rfl,trivial⟩ | refine ae (fun _ => ?_) (fun _ => ?_))
   exact ae (fun _ => aa (.inr ⟨_,rfl,trivial⟩)) fun _ => aa (.inl ⟨(),rfl,trivial⟩)
  ·intro _ _
   unfold dU
   rw [ar]
   exact aa ⟨_,rfl,trivial⟩
 ·rintro (q | q) _
  ·exact aa trivial
  ·exact aa trivial
theorem uY {s : State} (h : SSmall s) : Gv (gf s) fun l => l.length ≤ s.Nodes.length:=by
 have hc:=h.n
 unfold gf
 refine ad (P:=fun l => l.length ≤ s.Nodes.length) ?_ fun l hl => aa hl
 refine aw (fun (l : List Int) i => (l,i)) s.Nodes.length (fun k l => l.length ≤ k) (step:=dm s) (by omega) ?_ ?_ (s:=[]) (by simp)
 ·intro k hk l hl
  unfold dm
  dsimp only
  rw [aj hk,cond_true]
  simp only [ai hk,At]
  refine ad (P:=fun m => m.length ≤ k + 1) ?_ fun m hm => aa (.inl ⟨m,rfl,hm⟩)
  refine ad (P:=fun _ => True) ?_ fun q _ => ?_
  ·repeat' (first | exact ⟨_,rfl,trivial⟩ | refine ae (fun _ => ?_) (fun _ => ?_))
  refine ae (fun _ => ?_) fun _ => aa (by omega)
  rw [ah (by simp; omega) (by omega),At]
  exact aa (by simp; omega)
 ·intro l hl
  unfold dm
  rw [ar]
  exact aa ⟨l,rfl,hl⟩
theorem sW {s : State} (h : SSmall s) : Gv (fu s) fun l => l.length ≤ s.Apps.length:=by
 have hc:=h.a
 unfold fu
 refine ad (P:=fun l => l.length ≤ s.Apps.length) ?_ fun l hl => aa hl
 refine aw (fun (l : List Int) i => (l,i)) s.Apps.length (fun k l => l.length ≤ k) (step:=cT s) (by omega) ?_ ?_ (s:=[]) (by simp)
 ·intro k hk l hl
  unfold cT
  dsimp only
  rw [aj hk,cond_true]
  simp only [ai hk,At]
  refine ad (P:=fun m => m.length ≤ k + 1) ?_ fun m hm => aa (.inl ⟨m,rfl,hm⟩)
  refine ad (P:=fun _ => True) ?_ fun q _ => ?_
  ·repeat' (first | exact ⟨_,rfl,trivial⟩ | refine ae (fun _ => ?_) (fun _ => ?_))
  refine ae (fun _ => ?_) fun _ => aa (by omega)
  rw [ah (by simp; omega) (by omega),At]
  exact aa (by simp; omega)
 ·intro l hl
  unfold cT
  rw [ar]
  exact aa ⟨l,rfl,hl⟩
theorem zI {N : Nat} (hN : N ≤ 500000) {s : State} (h : Inv N s) (n : Int) : Gv (gv s n) fun r => Inv (N + 3100) r.1:=by
 have hnl:=h.nl
 have hnow:=h.now
 unfold gv
 refine ad (P:=fun b => b = false → 1 ≤ n ∧ n ≤ 100) ?_ fun b hb => ?_
 ·refine ae (fun _ => aa (by simp)) fun h1 => aa fun h2 => ?_
  simp only [decide_eq_false_iff_not] at h1 h2
  omega
 refine ae (fun _ => aa (h.mono (by omega))) fun hbf => ?_
 obtain ⟨n1,n2⟩:=hb hbf
 rw [ao (x:=s.Now + n) (by omega) (by omega)]
 refine ae (fun _ => aa (h.mono (by omega))) fun hle => ?_
 simp only [decide_eq_false_iff_not] at hle
 have h0:=h.at_ (t:=s.Now + n) ⟨by omega,by omega⟩
 obtain ⟨s0,hs0⟩ : ∃ s0,s0 = (⟨⟨s.Conf.Labels,s.Conf.Queues⟩,s.Nodes,s.Apps,s.Conts,s.Slots,s.Plans,s.Now + n,s.Epoch,s.Seq⟩ : State):=⟨_,rfl⟩
 have h0 : Inv N s0:=by rw [hs0]; exact h0
 have hs0n : s0.Nodes = s.Nodes:=by rw [hs0]
 rw [← hs0]
 clear hs0
 refine ad (uY h0.z) fun l hl => ?_
 rw [hs0n] at hl
 refine ad (P:=Inv (N + 200 * 12)) ?_ fun s1 hs1 => ?_
 ·refine aw (fun (t : State) i => (t,i)) l.length (fun k t => Inv (N + 200 * k) t) (step:=ee l) (by omega) ?_ ?_ (s:=s0) h0
  ·intro k hk t ht
   unfold ee
   dsimp only
   rw [aj hk,cond_true]
   simp only [aA hk,At,Au hk]
   refine ad (zR ht _) fun u hu => ?_
   rw [lQ hu.z,At]
   have hv:=hu.noSlot l[k]
   rw [uK hv.z,At]
   have hlen : (((pNoSlot u l[k]).Conts.filter fun c => c.Node == l[k]).map (·.Id)).length ≤ 200:=by
    rw [List.length_map]
    exact Nat.le_trans (List.length_filter_le _ _) hv.cl
   generalize ((pNoSlot u l[k]).Conts.filter fun c => c.Node == l[k]).map (·.Id) = ids at hlen ⊢
   generalize pNoSlot u l[k] = w at hv ⊢
   have hL:=n_ hv (ids:=ids) (by omega)
   refine ad hL fun v hv => aa (.inl ⟨v,rfl,?_⟩)
   exact hv.mono (by omega)
  ·intro t ht
   unfold ee
   dsimp only
   rw [ar]
   exact aa ⟨t,rfl,ht.mono (by omega)⟩
 ·refine ad (sW hs1.z) fun l1 hl1 => ?_
  have hal:=hs1.al
  refine ad (P:=Inv (N + 200 * 12 + 16)) ?_ fun s2 hs2 => ?_
  ·refine aw (fun (t : State) i => (t,i)) l1.length (fun k t => Inv (N + 200 * 12 + k) t) (step:=eA l1) (by omega) ?_ ?_ (s:=s1) hs1
   ·intro k hk t ht
    unfold eA
    dsimp only
    rw [aj hk,cond_true,aA hk,At,Au hk,At]
    refine ad (zD ht.z _) fun x10 _ => ?_
    exact ad (n_ ht (ids:=[x10]) (by simp; omega)) fun u hu => aa (.inl ⟨u,rfl,hu⟩)
   ·intro t ht
    unfold eA
    dsimp only
    rw [ar]
    exact aa ⟨t,rfl,ht.mono (by omega)⟩
  ·have hpl:=hs2.pl
   have e:=bi (fun (l : List Plan) i => (l,i)) s2.Plans (fun p => decide (p.Until > s2.Now)) id (step:=dY s2) (by omega) ?_ ?_
   ·rw [e,At,List.map_id]
    have h3:=hs2.plans (ps:=s2.Plans.filter fun p => decide (p.Until > s2.Now)) List.filter_sublist
    refine ad (wY (by omega) h3) fun r hr => ?_
    exact ad (ug h.z hr.z) fun _ _ => aa (hr.mono (by omega))
   ·intro k hk l hl
    unfold dY
    dsimp only
    rw [aj hk,cond_true,ai hk,At]
    cases hp : decide (s2.Plans[k].Until > s2.Now)
    ·rfl
    ·rw [cond_true,At,ah (by simp; omega) (by omega)]
     rfl
   ·intro l
    unfold dY
    rw [ar]
    rfl
structure InOk (x : Input) : Prop where
 ids : x.Ids.length ≤ 1000
 asks : x.Asks.length ≤ 1000
 user : 0 ≤ x.App.User ∧ x.App.User ≤ 2
 txt : ∀ b ∈ x.Text,b ≠ 45
theorem tZ {N : Nat} (hN : N ≤ 500000) {s : State} (h : Inv N s) {x : Input} (hx : InOk x) : Gv (dR s x) fun r => Inv (N + 4000) r.1:=by
 have m : ∀ {t : State},Inv N t → Inv (N + 4000) t:=fun ht => ht.mono (by omega)
 unfold dR
 refine ae (fun _ => ad (wy h _ hx.txt) fun r hr => aa (m hr)) fun _ => ?_
 refine ae (fun _ => ad (tp h _) fun r hr => aa (m hr)) fun _ => ?_
 refine ae (fun _ => ad (zw (by omega) h x hx.ids) fun r hr => aa (hr.mono (by omega))) fun _ => ?_
 refine ae (fun _ => ad (vI h _ hx.user) fun r hr => aa (m hr)) fun _ => ?_
 refine ae (fun _ => ad (wM (by omega) h x hx.ids hx.asks) fun r hr => aa (m hr)) fun _ => ?_
 refine ae (fun _ => ad (wb h _ _ (.inl rfl)) fun r hr => aa (m hr)) fun _ => ?_
 refine ae (fun _ => ad (wb h _ _ (.inr rfl)) fun r hr => aa (m hr)) fun _ => ?_
 refine ae (fun _ => ad (zI hN h _) fun r hr => aa (hr.mono (by omega))) fun _ => ?_
 refine ae (fun _ => ad (xi h _ _) fun r hr => aa (m hr)) fun _ => ?_
 refine ae (fun _ => ad (zi h _) fun r hr => aa (m hr)) fun _ => ?_
 refine ae (fun _ => ?_) fun _ => aa (m h)
 refine ae (fun _ => aa (m h)) fun he => aa (m ?_)
 simp only [decide_eq_false_iff_not] at he
 have hep:=h.ep
 have hsq:=h.sq
 rw [ao (x:=s.Epoch + 1) (by omega) (by omega)]
 refine ⟨h.cf,h.nl,h.ns,h.nk,h.al,h.asr,h.ak,h.cl,h.cs,fun c hc => ?_,h.ss,h.sk,h.pl,h.ps,h.pk,h.now,by dsimp only; omega,by dsimp only; omega⟩
 have:=h.ck c hc
 have hid:=this.id
 exact ⟨this.size,this.app,this.label,by dsimp only; omega⟩
end Go.Fx.D
