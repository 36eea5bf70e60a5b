/-
  The reference manager: what holds of its state after every script. Conditions: none.
-/
import Derived.Test.YtmpaebhomokjmaaGreatS15
namespace Go.Fx.D
open Go Go.Fx
set_option linter.unusedVariables false
set_option linter.unusedSimpArgs false
def strip (c : Cont) : Cont:=⟨c.Id,c.App,c.Node,c.Size,c.Prio,c.Label,c.Master,0⟩
theorem Inv.conts {N : Nat} {s : State} (h : Inv N s) {cs : List Cont} (e : cs.map strip = s.Conts.map strip) : Inv N ⟨s.Conf,s.Nodes,s.Apps,cs,s.Slots,s.Plans,s.Now,s.Epoch,s.Seq⟩:=by
 have hl : cs.length = s.Conts.length:=by simpa using congrArg List.length e
 refine ⟨h.cf,h.nl,h.ns,h.nk,h.al,h.asr,h.ak,by show cs.length ≤ 200; rw [hl]; exact h.cl,?_,fun c hc => ?_,h.ss,h.sk,h.pl,h.ps,h.pk,h.now,h.ep,h.sq⟩
 ·have h1 : (s.Conts.map strip).Pairwise fun x y => x.Id < y.Id:=List.pairwise_map.2 h.cs
  rw [← e] at h1
  exact (List.pairwise_map (f:=strip) (R:=fun x y : Cont => x.Id < y.Id)).1 h1
 ·have hm : strip c ∈ s.Conts.map strip:=by rw [← e]; exact List.mem_map_of_mem hc
  obtain ⟨c',hc',ec⟩:=List.mem_map.1 hm
  have:=h.ck c' hc'
  unfold strip at ec
  injection ec with e1 e2 e3 e4 e5 e6 e7
  refine ⟨by rw [← e4]; exact this.size,?_,by rw [← e6]; exact this.label,by rw [← e1]; exact this.id⟩
  rw [← e2]
  exact this.app
theorem Cg {N : Nat} {s : State} (h : Inv N s) (i t : Int) : Gv (fw s i t) (Inv N):=by
 have hcl:=h.cl
 unfold fw
 rw [am (by simp; omega) (by omega),Jw,List.nil_append]
 refine ad (P:=fun l => l.map strip = s.Conts.map strip) ?_ fun l hl => aa (h.conts hl)
 refine aG (fun (l : List Cont) i => (l,i)) s.Conts.length (fun _ l => l.map strip = s.Conts.map strip) (step:=gD i t) (by omega) ?_ ?_ (s:=s.Conts) rfl
 ·intro k hk l hl
  have hll : l.length = s.Conts.length:=by simpa using congrArg List.length hl
  have hkl : k < l.length:=by omega
  unfold gD
  dsimp only
  rw [hll,aj hk,cond_true]
  refine ad (P:=fun m => m.map strip = s.Conts.map strip) ?_ fun m hm => aa (.inl ⟨m,rfl,hm⟩)
  rw [← hll]
  simp only [aM hkl,Jw,Jx hkl]
  refine ae (fun _ => aa ?_) fun _ => aa hl
  rw [← hl,List.map_set]
  have e : strip ⟨l[k].Id,l[k].App,l[k].Node,⟨l[k].Size.Mem,l[k].Size.Cores⟩,l[k].Prio,l[k].Label,l[k].Master,t⟩ = (l.map strip)[k]'(by simpa using hkl):=by simp [strip]
  rw [e,List.set_getElem_self]
 ·intro l hl
  have hll : l.length = s.Conts.length:=by simpa using congrArg List.length hl
  unfold gD
  dsimp only
  rw [hll,ar]
  exact aa ⟨l,rfl,hl⟩
def BU (s : State) (c : Cont) : Str:=(appAt s c.App).elim [] (·.Queue)
theorem vc {s : State} (h : SSmall s) (c : Cont) : cb s c = some (BU s c):=by
 unfold cb BU
 rw [dV h,Jw]
 cases appAt s c.App <;> rfl
theorem Ed {N : Nat} {s : State} (h : Inv N s) (c : Cont) : Gv (ij s c) fun _ => True:=by
 have hcl:=h.cl
 unfold ij
 refine ad (P:=fun _ => True) ?_ fun _ _ => aa trivial
 refine aG (fun (n : Int) i => (n,i)) s.Conts.length (fun _ _ => True) (step:=eu s c) (by omega) ?_ ?_ (s:=0) trivial
 ·intro k hk n _
  unfold eu
  dsimp only
  rw [aj hk,cond_true,Jw]
  refine ae (fun _ => ?_) fun _ => aa (.inr ⟨_,rfl,trivial⟩)
  refine ad (P:=fun _ => True) ?_ fun n _ => aa (.inl ⟨n,rfl,trivial⟩)
  simp only [ai hk,Jw]
  refine ad (P:=fun _ => True) ?_ fun q _ => ?_
  ·repeat' (first | exact ⟨_,rfl,trivial⟩ | refine ae (fun _ => ?_) (fun _ => ?_))
  ·repeat' (first | exact ⟨_,rfl,trivial⟩ | refine ae (fun _ => ?_) (fun _ => ?_))
 ·intro n _
  unfold eu
  dsimp only
  rw [ar]
  exact aa ⟨_,rfl,trivial⟩
def pIn (l : List Int) (n : Int) : Bool:=l.contains n
theorem Cd {l : List Int} (hl : l.length ≤ 100000) (n : Int) : eV l n = some (pIn l n):=by
 unfold eV
 have e:=d6 (fun i => i) l (fun x => x == n) (fun _ => (.inl true : Bool ⊕ Unit)) (.inr ()) (step:=eJ l n) (by omega) ?_ ?_ ?_
 ·rw [e]
  unfold pIn
  cases hf : l.find? fun x => x == n with
  | none =>
   have : l.contains n = false:=by
    rw [List.contains_eq_any_beq,List.any_eq_false]
    intro x hx
    have:=List.find?_eq_none.1 hf x hx
    simp only [beq_iff_eq] at this ⊢
    exact fun e => this e.symm
   rw [this]; rfl
  | some x =>
   have h1:=List.mem_of_find?_eq_some hf
   have h2:=List.find?_some hf
   have : l.contains n = true:=by
    rw [List.contains_eq_any_beq,List.any_eq_true]
    simp only [beq_iff_eq] at h2 ⊢
    exact ⟨x,h1,h2.symm⟩
   rw [this]; rfl
 ·intro k hk hp
  unfold eJ
  rw [aj hk,cond_true,ai hk,Jw,hp]
  rfl
 ·intro k hk hp
  unfold eJ
  rw [aj hk,cond_true,ai hk,Jw,hp]
  rfl
 ·unfold eJ
  rw [ar]
  rfl
theorem yW {N : Nat} {s : State} (h : Inv N s) (path : Str) (label : Int) {l : List Int} (hl : l.length ≤ 100000) : Gv (dU s path label l) fun _ => True:=by
 have hcl:=h.cl
 unfold dU
 refine ad (P:=fun _ => True) ?_ fun _ _ => aa trivial
 refine aG (fun (n : Int) i => (n,i)) s.Conts.length (fun _ _ => True) (step:=ei s path label l) (by omega) ?_ ?_ (s:=0) trivial
 ·intro k hk n _
  unfold ei
  dsimp only
  rw [aj hk,cond_true]
  refine ad (P:=fun _ => True) ?_ fun n _ => aa (.inl ⟨n,rfl,trivial⟩)
  rw [ai hk,Jw,Cd hl,vc h.z]
  refine ad (P:=fun _ => True) ?_ fun q _ => ?_
  ·simp only [Jw]
   repeat' (first | exact ⟨_,rfl,trivial⟩ | refine ae (fun _ => ?_) (fun _ => ?_))
  ·repeat' (first | exact ⟨_,rfl,trivial⟩ | refine ae (fun _ => ?_) (fun _ => ?_))
 ·intro n _
  unfold ei
  dsimp only
  rw [ar]
  exact aa ⟨_,rfl,trivial⟩
theorem EC {N : Nat} {s : State} (h : Inv N s) (path : Str) (label : Int) {l : List Int} (hl : l.length ≤ 100000) : Gv (ip s path label l) fun r => r.2 = true → r.1 ∈ s.Conts ∧ r.1.Id ∉ l:=by
 have hcl:=h.cl
 unfold ip
 refine ad (P:=fun r => r.2 = true → r.1 ∈ s.Conts ∧ r.1.Id ∉ l) ?_ fun _ hr => aa hr
 refine aG (fun (t : Cont × Bool) i => (t.1,t.2,i)) s.Conts.length (fun _ r => r.2 = true → r.1 ∈ s.Conts ∧ r.1.Id ∉ l) (step:=eh s path label l) (by omega) ?_ ?_ (s:=((⟨0,0,0,⟨0,0⟩,0,0,false,0⟩ : Cont),false)) (by simp)
 ·intro k hk t ht
  unfold eh
  dsimp only
  rw [aj hk,cond_true]
  refine ad (P:=fun r => r.2 = true → r.1 ∈ s.Conts ∧ r.1.Id ∉ l) ?_ fun r hr => aa (.inl ⟨r,rfl,hr⟩)
  rw [ai hk,Jw,Cd hl,vc h.z]
  refine ad (P:=fun b => b = false → s.Conts[k].Id ∉ l) ?_ fun q hq => ?_
  ·simp only [Jw]
   refine ae (fun _ => aa (by simp)) fun _ => ae (fun _ => aa (by simp)) fun _ => ae (fun _ => aa (by simp)) fun _ => aa fun hb => ?_
   unfold pIn at hb
   intro hm
   rw [List.contains_iff_mem.2 hm] at hb
   cases hb
  ·refine ae (fun _ => aa ht) fun hqf => ?_
   refine ad (P:=fun _ => True) ?_ fun q1 _ => ?_
   ·repeat' (first | exact ⟨_,rfl,trivial⟩ | refine ae (fun _ => ?_) (fun _ => ?_))
   ·exact ae (fun _ => aa fun _ => ⟨List.getElem_mem hk,hq hqf⟩) fun _ => aa ht
 ·intro t ht
  unfold eh
  dsimp only
  rw [ar,cond_false]
  exact aa ⟨_,rfl,ht⟩
theorem F8 {N : Nat} {s : State} (h : Inv N s) {path : Str} (hp : path.length ≤ 1000000) (label : Int) : Gv (iZ s path label) fun _ => True:=by
 have hal:=h.al
 unfold iZ
 rw [jw h.sb,Jw,mI h.sc hp,Jw]
 refine ad (P:=fun _ => True) ?_ ?_
 ·refine aG (fun (_ : Unit) i => i) s.Apps.length (fun _ _ => True) (step:=e_ s path label _ _) (by omega) ?_ ?_ (s:=()) trivial
  ·intro k hk _ _
   have hak:=(h.ak _ (List.getElem_mem hk)).al
   unfold e_
   rw [aj hk,cond_true,ai hk,Jw]
   refine ad (P:=fun _ => True) ?_ ?_
   ·refine aG (fun (_ : Unit) i => i) s.Apps[k].Asks.length (fun _ _ => True) (step:=fb s path label _ _ s.Apps[k]) (by omega) ?_ ?_ (s:=()) trivial
    ·intro j hj _ _
     unfold fb
     rw [aj hj,cond_true,lT,Jw]
     refine ad (P:=fun _ => True) ?_ fun q _ => ?_
     ·repeat' (first | exact ⟨_,rfl,trivial⟩ | refine ae (fun _ => ?_) (fun _ => ?_))
     refine ae (fun _ => ?_) fun _ => aa (.inr ⟨_,rfl,trivial⟩)
     simp only [ai hj,Jw]
     refine ad (P:=fun _ => True) ?_ fun q _ => ?_
     ·repeat' (first | exact ⟨_,rfl,trivial⟩ | refine ae (fun _ => ?_) (fun _ => ?_))
     refine ae (fun _ => ?_) fun _ => aa (.inl ⟨(),rfl,trivial⟩)
     rw [tY h,Jw]
     exact aa (.inr ⟨_,rfl,trivial⟩)
    ·intro _ _
     unfold fb
     rw [ar]
     exact aa ⟨_,rfl,trivial⟩
   ·rintro (q | q) _
    ·exact aa (.inr ⟨_,rfl,trivial⟩)
    ·exact aa (.inl ⟨(),rfl,trivial⟩)
  ·intro _ _
   unfold e_
   rw [ar]
   exact aa ⟨_,rfl,trivial⟩
 ·rintro (q | q) _
  ·exact aa trivial
  ·exact aa trivial
theorem zf : ∀ (l m : List Int),l.Nodup → (∀ x ∈ l,x ∈ m) → l.length ≤ m.length
 | [],m,_,_ => by simp
 | x :: l,m,hn,hm => by
  have hx:=hm x (by simp)
  have h1:=List.nodup_cons.1 hn
  have:=zf l (m.erase x) h1.2 fun y hy => (List.mem_erase_of_ne (by rintro rfl; exact h1.1 hy)).2 (hm y (by simp [hy]))
  rw [List.length_erase_of_mem hx] at this
  have hpos:=List.length_pos_of_mem hx
  simp only [List.length_cons]
  omega
theorem H5 {N : Nat} {s : State} (h : Inv N s) (label : Int) : Gv (jO s label) fun l => l.length ≤ 200:=by
 have hcl:=h.cl
 unfold jO
 refine ad (sG h label) ?_
 rintro shares ⟨hsl,hsp⟩
 rw [pL h.sb,Jw,jw h.sb,Jw]
 dsimp only
 have hpath : ∀ x ∈ shares,x.Path.length ≤ 1000000:=fun x hx => by have:=(r_ h.cf (hsp x hx)).len; omega
 refine ad (P:=fun _ => True) ?_ fun need _ => ?_
 ·refine aG (fun (n : Int) i => (n,i)) shares.length (fun _ _ => True) (step:=gE s label shares) (by omega) ?_ ?_ (s:=_) trivial
  ·intro k hk n _
   unfold gE
   dsimp only
   rw [aj hk,cond_true,aM hk,Jw,Jx hk,Jw]
   exact ad (F8 h (hpath _ (List.getElem_mem hk)) label) fun x _ => aa (.inl ⟨_,rfl,trivial⟩)
  ·intro n _
   unfold gE
   dsimp only
   rw [ar]
   exact aa ⟨_,rfl,trivial⟩
 ·refine ad (P:=fun r => match r with | .inl l => l.length ≤ 200 | .inr l => l.length ≤ 200) ?_ ?_
  ·have hcount : ∀ l : List Int,l.Nodup → (∀ x ∈ l,∃ c ∈ s.Conts,c.Id = x) → l.length ≤ 200:=by
    intro l hn hm
    have : l.length ≤ (s.Conts.map (·.Id)).length:=by
     refine zf l _ hn fun x hx => ?_
     obtain ⟨c,hc,rfl⟩:=hm x hx
     exact List.mem_map_of_mem hc
    rw [List.length_map] at this
    omega
   refine gj (fun l : List Int => l.Nodup ∧ ∀ x ∈ l,∃ c ∈ s.Conts,c.Id = x) (fun l => 200 - l.length) ?_ (t:=[]) ⟨List.nodup_nil,by simp⟩
   rintro l ⟨hn,hm⟩
   have hll:=hcount l hn hm
   unfold om
   refine ad (yW h [] label (by omega)) fun x4 _ => ?_
   refine ae (fun _ => ?_) fun _ => aa (.inr ⟨_,rfl,hll⟩)
   refine ad (P:=fun r => r.1 ≠ 0 → r.2 ∈ s.Conts ∧ r.2.Id ∉ l) ?_ ?_
   ·refine aG (fun (t : Int × Cont) i => (t.1,t.2,i)) shares.length (fun _ r => r.1 ≠ 0 → r.2 ∈ s.Conts ∧ r.2.Id ∉ l) (step:=gk s label shares l) (by omega) ?_ ?_ (s:=((0 : Int),(⟨0,0,0,⟨0,0⟩,0,0,false,0⟩ : Cont))) (by simp)
    ·intro k hk t ht
     unfold gk
     dsimp only
     rw [aj hk,cond_true]
     refine ad (P:=fun r => r.1 ≠ 0 → r.2 ∈ s.Conts ∧ r.2.Id ∉ l) ?_ fun r hr => aa (.inl ⟨r,rfl,hr⟩)
     simp only [aM hk,Jw,Jx hk]
     rw [jw h.sb,Jw]
     refine ad (yW h _ label (by omega)) fun x8 _ => ad (EC h _ label (by omega)) fun x9 hx9 => ?_
     refine ad (P:=fun b => b = true → x9.2 = true) ?_ fun b hb => ?_
     ·exact ae (fun hx => aa fun _ => hx) fun _ => aa (by simp)
     ·exact ae (fun hbt => aa fun _ => hx9 (hb hbt)) fun _ => aa ht
    ·intro t ht
     unfold gk
     dsimp only
     rw [ar,cond_false]
     exact aa ⟨_,rfl,ht⟩
   ·rintro ⟨o,c⟩ hr
    dsimp only at hr ⊢
    refine ae (fun _ => aa (.inr ⟨_,rfl,hll⟩)) fun ho => ?_
    obtain ⟨c1,c2⟩:=hr (by simpa using ho)
    rw [am (by simp; omega) (by omega),Jw]
    have hn' : (l ++ [c.Id]).Nodup:=List.nodup_append.2 ⟨hn,by simp,fun a ha b hb e => by rw [JA] at hb; subst hb; subst e; exact c2 ha⟩
    have hm' : ∀ x ∈ l ++ [c.Id],∃ c ∈ s.Conts,c.Id = x:=by
     intro x hx
     rcases List.mem_append.1 hx with hx | hx
     ·exact hm x hx
     ·rw [JA] at hx
      subst hx
      exact ⟨c,c1,rfl⟩
    have hlen:=hcount _ hn' hm'
    refine aa (.inl ⟨_,rfl,⟨hn',hm'⟩,?_⟩)
    rw [Jz] at hlen ⊢
    simp only [List.length_singleton] at hlen ⊢
    omega
  ·rintro (q | q) hq
   ·exact aa hq
   ·exact aa hq
theorem Ir {N : Nat} (hN : N ≤ 900000) {s : State} (h : Inv N s) (label : Int) : Gv (j7 s label) (Inv (N + 200)):=by
 have hcl:=h.cl
 unfold j7
 dsimp only
 refine ad (P:=fun l => l.length ≤ s.Conts.length) ?_ fun l hl => ?_
 ·rw [ao (x:=(s.Conts.length : Int) - 1) (by omega) (by omega)]
  refine gj (fun t : List Cont × Int => -1 ≤ t.2 ∧ t.2 < s.Conts.length ∧ (t.1.length : Int) ≤ s.Conts.length - 1 - t.2) (fun t => (t.2 + 1).toNat) ?_ (by dsimp only; simp; omega)
  rintro ⟨l,i⟩ ⟨h1,h2,h3⟩
  dsimp only at h1 h2 h3
  unfold ou
  dsimp only
  refine ae (fun hge => ?_) fun _ => aa (.inr ⟨_,rfl,by omega⟩)
  simp only [decide_eq_true_eq] at hge
  refine ad (P:=fun m => m.length ≤ l.length + 1) ?_ fun m hm => aa (.inl ⟨(m,w64 (i - 1)),rfl,?_,?_⟩)
  ·refine ad (dj (fA (by omega) h2)) fun x _ => ?_
   refine ad (P:=fun _ => True) ?_ fun q _ => ?_
   ·repeat' (first | exact ⟨_,rfl,trivial⟩ | refine ae (fun _ => ?_) (fun _ => ?_))
   refine ae (fun _ => ?_) fun _ => aa (by omega)
   rw [am (by simp; omega) (by omega),Jw]
   exact aa (by simp)
  ·rw [ao (x:=i - 1) (by omega) (by omega)]; dsimp only; omega
  ·rw [ao (x:=i - 1) (by omega) (by omega)]; dsimp only; omega
 ·refine ad (P:=Inv (N + 200)) ?_ fun t ht => aa ht
  refine aG (fun (t : State) i => (t,i)) l.length (fun k t => Inv (N + k) t) (step:=gp label l) (by omega) ?_ ?_ (s:=s) h
  ·intro k hk t ht
   unfold gp
   dsimp only
   rw [aj hk,cond_true]
   refine ad (P:=Inv (N + (k + 1))) ?_ fun u hu => aa (.inl ⟨u,rfl,hu⟩)
   rw [aM hk,Jw,Jx hk,Jw,kh ht.z,Jw]
   cases hc : sL t l[k].Id with
   | none => exact aa (ht.mono (by omega))
   | some c =>
    simp only [Option.elim,Bool.not_true,cond_false]
    rw [vc ht.z,Jw,jw ht.sb,Jw]
    refine ad (Ed ht c) fun x5 _ => ?_
    rw [Jw]
    refine ad (F1 ht label _) fun x7 _ => ?_
    refine ae (fun _ => ?_) fun _ => ?_
    ·exact ad (vq ht (ids:=[c.Id]) (by simp; omega)) fun u hu => aa hu
    ·exact ad (Cg ht c.Id 0) fun u hu => aa (hu.mono (by omega))
  ·intro t ht
   unfold gp
   dsimp only
   rw [ar]
   exact aa ⟨t,rfl,ht.mono (by omega)⟩
theorem BW {s t : State} (h : SSmall s) (h' : SSmall t) : Gv (fy s t) fun _ => True:=by
 have hc:=h.c
 unfold fy
 refine ad (P:=fun _ => True) ?_ fun _ _ => aa trivial
 refine aG (fun (l : List Int) i => (l,i)) s.Conts.length (fun k l => l.length ≤ k) (step:=gn s t) (by omega) ?_ ?_ (s:=[]) (by simp)
 ·intro k hk l hl
  unfold gn
  dsimp only
  rw [aj hk,cond_true,ai hk,Jw,kh h',Jw]
  refine ad (P:=fun m => m.length ≤ k + 1) ?_ fun m hm => aa (.inl ⟨m,rfl,hm⟩)
  refine ae (fun _ => ?_) fun _ => aa (by omega)
  rw [Jw,am (by simp; omega) (by omega),Jw]
  exact aa (by simp; omega)
 ·intro l hl
  unfold gn
  rw [ar]
  exact aa ⟨l,rfl,trivial⟩
theorem Fs {N : Nat} (hN : N ≤ 800000) {s : State} (h : Inv N s) : Gv (jn s) fun r => Inv (N + 600) r.1:=by
 unfold jn
 refine ad (P:=Inv (N + 600)) ?_ fun t ht => ad (BW h.z ht.z) fun _ _ => aa ht
 refine gj (fun t : State × Int => 0 ≤ t.2 ∧ t.2 ≤ 3 ∧ Inv (N + 200 * t.2.toNat) t.1) (fun t => (3 - t.2).toNat) ?_ (by dsimp only; exact ⟨by omega,by omega,h⟩)
 rintro ⟨t,i⟩ ⟨h1,h2,ht⟩
 dsimp only at h1 h2 ht
 have hlb:=ht.cf.lab
 unfold nx
 dsimp only
 refine ae (fun hlt => ?_) fun _ => aa (.inr ⟨_,rfl,ht.mono (by omega)⟩)
 simp only [decide_eq_true_eq] at hlt
 refine ad (Ir (by omega) ht i) fun u hu => ?_
 refine ad (H5 hu i) fun l hl => ?_
 refine ad (P:=Inv (N + 200 * i.toNat + 200)) ?_ fun v hv => aa (.inl ⟨(v,w64 (i + 1)),rfl,?_,?_⟩)
 ·refine aG (fun (t : State) i => (t,i)) l.length (fun _ t => Inv (N + 200 * i.toNat + 200) t) (step:=eZ l) (by omega) ?_ ?_ (s:=u) hu
  ·intro k hk t ht
   unfold eZ
   dsimp only
   rw [aj hk,cond_true,aM hk,Jw,Jx hk,Jw]
   exact ad (Cg ht _ _) fun u hu => aa (.inl ⟨u,rfl,hu⟩)
  ·intro t ht
   unfold eZ
   dsimp only
   rw [ar]
   exact aa ⟨t,rfl,ht⟩
 ·rw [ao (x:=i + 1) (by omega) (by omega)]
  dsimp only
  exact ⟨by omega,by omega,hv.mono (by omega)⟩
 ·rw [ao (x:=i + 1) (by omega) (by omega)]; dsimp only; omega
theorem Inv.at_ {N : Nat} {s : State} (h : Inv N s) {t : Int} (ht : 0 ≤ t ∧ t ≤ 1000000000) : Inv N ⟨s.Conf,s.Nodes,s.Apps,s.Conts,s.Slots,s.Plans,t,s.Epoch,s.Seq⟩ :=
 ⟨h.cf,h.nl,h.ns,h.nk,h.al,h.asr,h.ak,h.cl,h.cs,fun c hc => ⟨(h.ck c hc).size,(h.ck c hc).app,(h.ck c hc).label,(h.ck c hc).id⟩,h.ss,h.sk,h.pl,h.ps,h.pk,ht,h.ep,h.sq⟩
theorem H7 {s : State} (h : SSmall s) (i : Int) : Gv (jF s i) fun _ => True:=by
 have hc:=h.c
 unfold jF
 refine ad (P:=fun _ => True) ?_ ?_
 ·refine aG (fun (_ : Unit) i => i) s.Conts.length (fun _ _ => True) (step:=fT s i) (by omega) ?_ ?_ (s:=()) trivial
  ·intro k hk _ _
   unfold fT
   rw [aj hk,cond_true]
   simp only [ai hk,Jw]
   refine ad (P:=fun _ => True) ?_ fun q _ => ?_
   ·repeat' (first | exact ⟨_,rfl,trivial⟩ | refine ae (fun _ => ?_) (fun _ => ?_))
   exact ae (fun _ => aa (.inr ⟨_,rfl,trivial⟩)) fun _ => aa (.inl ⟨(),rfl,trivial⟩)
  ·intro _ _
   unfold fT
   rw [ar]
   exact aa ⟨_,rfl,trivial⟩
 ·rintro (q | q) _
  ·exact aa trivial
  ·exact aa trivial
theorem CO {s : State} (h : SSmall s) : Gv (jl s) fun l => l.length ≤ s.Nodes.length:=by
 have hc:=h.n
 unfold jl
 refine ad (P:=fun l => l.length ≤ s.Nodes.length) ?_ fun l hl => aa hl
 refine aG (fun (l : List Int) i => (l,i)) s.Nodes.length (fun k l => l.length ≤ k) (step:=ff s) (by omega) ?_ ?_ (s:=[]) (by simp)
 ·intro k hk l hl
  unfold ff
  dsimp only
  rw [aj hk,cond_true]
  simp only [ai hk,Jw]
  refine ad (P:=fun m => m.length ≤ k + 1) ?_ fun m hm => aa (.inl ⟨m,rfl,hm⟩)
  refine ad (P:=fun _ => True) ?_ fun q _ => ?_
  ·repeat' (first | exact ⟨_,rfl,trivial⟩ | refine ae (fun _ => ?_) (fun _ => ?_))
  refine ae (fun _ => ?_) fun _ => aa (by omega)
  rw [am (by simp; omega) (by omega),Jw]
  exact aa (by simp; omega)
 ·intro l hl
  unfold ff
  rw [ar]
  exact aa ⟨l,rfl,hl⟩
theorem BO {s : State} (h : SSmall s) : Gv (iw s) fun l => l.length ≤ s.Apps.length:=by
 have hc:=h.a
 unfold iw
 refine ad (P:=fun l => l.length ≤ s.Apps.length) ?_ fun l hl => aa hl
 refine aG (fun (l : List Int) i => (l,i)) s.Apps.length (fun k l => l.length ≤ k) (step:=ef s) (by omega) ?_ ?_ (s:=[]) (by simp)
 ·intro k hk l hl
  unfold ef
  dsimp only
  rw [aj hk,cond_true]
  simp only [ai hk,Jw]
  refine ad (P:=fun m => m.length ≤ k + 1) ?_ fun m hm => aa (.inl ⟨m,rfl,hm⟩)
  refine ad (P:=fun _ => True) ?_ fun q _ => ?_
  ·repeat' (first | exact ⟨_,rfl,trivial⟩ | refine ae (fun _ => ?_) (fun _ => ?_))
  refine ae (fun _ => ?_) fun _ => aa (by omega)
  rw [am (by simp; omega) (by omega),Jw]
  exact aa (by simp; omega)
 ·intro l hl
  unfold ef
  rw [ar]
  exact aa ⟨l,rfl,hl⟩
theorem Iq {N : Nat} (hN : N ≤ 500000) {s : State} (h : Inv N s) (n : Int) : Gv (jH s n) fun r => Inv (N + 3100) r.1:=by
 have hnl:=h.nl
 have hnow:=h.now
 unfold jH
 refine ad (P:=fun b => b = false → 1 ≤ n ∧ n ≤ 100) ?_ fun b hb => ?_
 ·refine ae (fun _ => aa (by simp)) fun h1 => aa fun h2 => ?_
  simp only [decide_eq_false_iff_not] at h1 h2
  omega
 refine ae (fun _ => aa (h.mono (by omega))) fun hbf => ?_
 obtain ⟨n1,n2⟩:=hb hbf
 rw [ao (x:=s.Now + n) (by omega) (by omega)]
 refine ae (fun _ => aa (h.mono (by omega))) fun hle => ?_
 simp only [decide_eq_false_iff_not] at hle
 have h0:=h.at_ (t:=s.Now + n) ⟨by omega,by omega⟩
 obtain ⟨s0,hs0⟩ : ∃ s0,s0 = (⟨⟨s.Conf.Labels,s.Conf.Queues⟩,s.Nodes,s.Apps,s.Conts,s.Slots,s.Plans,s.Now + n,s.Epoch,s.Seq⟩ : State):=⟨_,rfl⟩
 have h0 : Inv N s0:=by rw [hs0]; exact h0
 have hs0n : s0.Nodes = s.Nodes:=by rw [hs0]
 rw [← hs0]
 clear hs0
 refine ad (CO h0.z) fun l hl => ?_
 rw [hs0n] at hl
 refine ad (P:=Inv (N + 200 * 12)) ?_ fun s1 hs1 => ?_
 ·refine aG (fun (t : State) i => (t,i)) l.length (fun k t => Inv (N + 200 * k) t) (step:=gu l) (by omega) ?_ ?_ (s:=s0) h0
  ·intro k hk t ht
   unfold gu
   dsimp only
   rw [aj hk,cond_true]
   simp only [aM hk,Jw,Jx hk]
   refine ad (HT ht _) fun u hu => ?_
   rw [r9 hu.z,Jw]
   have hv:=hu.noSlot l[k]
   rw [Dg hv.z,Jw]
   have hlen : (((pNoSlot u l[k]).Conts.filter fun c => c.Node == l[k]).map (·.Id)).length ≤ 200:=by
    rw [List.length_map]
    exact Nat.le_trans (List.length_filter_le _ _) hv.cl
   generalize ((pNoSlot u l[k]).Conts.filter fun c => c.Node == l[k]).map (·.Id) = ids at hlen ⊢
   generalize pNoSlot u l[k] = w at hv ⊢
   have hL:=vq hv (ids:=ids) (by omega)
   refine ad hL fun v hv => aa (.inl ⟨v,rfl,?_⟩)
   exact hv.mono (by omega)
  ·intro t ht
   unfold gu
   dsimp only
   rw [ar]
   exact aa ⟨t,rfl,ht.mono (by omega)⟩
 ·refine ad (BO hs1.z) fun l1 hl1 => ?_
  have hal:=hs1.al
  refine ad (P:=Inv (N + 200 * 12 + 16)) ?_ fun s2 hs2 => ?_
  ·refine aG (fun (t : State) i => (t,i)) l1.length (fun k t => Inv (N + 200 * 12 + k) t) (step:=gC l1) (by omega) ?_ ?_ (s:=s1) hs1
   ·intro k hk t ht
    unfold gC
    dsimp only
    rw [aj hk,cond_true,aM hk,Jw,Jx hk,Jw]
    refine ad (H7 ht.z _) fun x10 _ => ?_
    exact ad (vq ht (ids:=[x10]) (by simp; omega)) fun u hu => aa (.inl ⟨u,rfl,hu⟩)
   ·intro t ht
    unfold gC
    dsimp only
    rw [ar]
    exact aa ⟨t,rfl,ht.mono (by omega)⟩
  ·have hpl:=hs2.pl
   have e:=bS (fun (l : List Plan) i => (l,i)) s2.Plans (fun p => decide (p.Until > s2.Now)) id (step:=gd s2) (by omega) ?_ ?_
   ·rw [e,Jw,List.map_id]
    have h3:=hs2.plans (ps:=s2.Plans.filter fun p => decide (p.Until > s2.Now)) List.filter_sublist
    refine ad (Fs (by omega) h3) fun r hr => ?_
    exact ad (BW h.z hr.z) fun _ _ => aa (hr.mono (by omega))
   ·intro k hk l hl
    unfold gd
    dsimp only
    rw [aj hk,cond_true,ai hk,Jw]
    cases hp : decide (s2.Plans[k].Until > s2.Now)
    ·rfl
    ·rw [cond_true,Jw,am (by simp; omega) (by omega)]
     rfl
   ·intro l
    unfold gd
    rw [ar]
    rfl
structure InOk (x : Input) : Prop where
 ids : x.Ids.length ≤ 1000
 asks : x.Asks.length ≤ 1000
 user : 0 ≤ x.App.User ∧ x.App.User ≤ 2
 txt : ∀ b ∈ x.Text,b ≠ 45
theorem Ct {N : Nat} (hN : N ≤ 500000) {s : State} (h : Inv N s) {x : Input} (hx : InOk x) : Gv (fu s x) fun r => Inv (N + 4000) r.1:=by
 have m : ∀ {t : State},Inv N t → Inv (N + 4000) t:=fun ht => ht.mono (by omega)
 unfold fu
 refine ae (fun _ => ad (DS h _ hx.txt) fun r hr => aa (m hr)) fun _ => ?_
 refine ae (fun _ => ad (BE h _) fun r hr => aa (m hr)) fun _ => ?_
 refine ae (fun _ => ad (Iw (by omega) h x hx.ids) fun r hr => aa (hr.mono (by omega))) fun _ => ?_
 refine ae (fun _ => ad (EF h _ hx.user) fun r hr => aa (m hr)) fun _ => ?_
 refine ae (fun _ => ad (Fa (by omega) h x hx.ids hx.asks) fun r hr => aa (m hr)) fun _ => ?_
 refine ae (fun _ => ad (Ef h _ _ (.inl rfl)) fun r hr => aa (m hr)) fun _ => ?_
 refine ae (fun _ => ad (Ef h _ _ (.inr rfl)) fun r hr => aa (m hr)) fun _ => ?_
 refine ae (fun _ => ad (Iq hN h _) fun r hr => aa (hr.mono (by omega))) fun _ => ?_
 refine ae (fun _ => ad (GG h _ _) fun r hr => aa (m hr)) fun _ => ?_
 refine ae (fun _ => ad (HF h _) fun r hr => aa (m hr)) fun _ => ?_
 refine ae (fun _ => ?_) fun _ => aa (m h)
 refine ae (fun _ => aa (m h)) fun he => aa (m ?_)
 simp only [decide_eq_false_iff_not] at he
 have hep:=h.ep
 have hsq:=h.sq
 rw [ao (x:=s.Epoch + 1) (by omega) (by omega)]
 refine ⟨h.cf,h.nl,h.ns,h.nk,h.al,h.asr,h.ak,h.cl,h.cs,fun c hc => ?_,h.ss,h.sk,h.pl,h.ps,h.pk,h.now,by dsimp only; omega,by dsimp only; omega⟩
 have:=h.ck c hc
 have hid:=this.id
 exact ⟨this.size,this.app,this.label,by dsimp only; omega⟩
end Go.Fx.D
