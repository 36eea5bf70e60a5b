/-
  The reference manager: what holds of its state after every script. Conditions: none.
-/
import Derived.Test.YteodpoelbdakgaaGreatS15
namespace Go.Fx.D
open Go Go.Fx
set_option linter.unusedVariables false
set_option linter.unusedSimpArgs false
def strip (c : Cont) : Cont:=⟨c.Id,c.App,c.Node,c.Size,c.Prio,c.Label,c.Master,0⟩
theorem InvE.conts {N : Nat} {s : State} (h : InvE ex0 N s) {cs : List Cont} (e : cs.map strip = s.Conts.map strip) (hn : ∀ c ∈ cs,0 ≤ c.Notice ∧ c.Notice ≤ imax s.Now 1) : Inv N ⟨s.Conf,s.Nodes,s.Apps,cs,s.Slots,s.Plans,s.Now,s.Epoch,s.Seq⟩:=by
 have hl : cs.length = s.Conts.length:=by simpa using congrArg List.length e
 have hin : ∀ c ∈ cs,∃ d ∈ s.Conts,strip d = strip c:=fun c hc => by
  have hm : strip c ∈ s.Conts.map strip:=by rw [← e]; exact List.mem_map_of_mem hc
  exact List.mem_map.1 hm
 have hfi : ∀ (i : Int) (l : List Cont),(l.filter fun c => c.Node == i).map (·.Size) = ((l.map strip).filter fun c => c.Node == i).map (·.Size):=fun i l => by
  rw [List.filter_map,List.map_map]; rfl
 have hma : ∀ (i : Int) (l : List Cont),(pMas l i).length = (pMas (l.map strip) i).length:=fun i l => by
  unfold pMas
  rw [List.filter_map,List.length_map]; rfl
 refine ⟨h.cf,h.nl,h.ns,h.nk,h.al,h.asr,h.ak,by show cs.length ≤ 200; rw [hl]; exact h.cl,?_,fun c hc => ?_,h.ss,h.sk,h.pl,h.ps,h.pk,h.now,h.ep,h.sq,h.en,h.sd.chk,fun c hc => ?_,h.sd.slt,hn,fun n hn => ?_,fun a ha e2 => ?_⟩
 ·have h1 : (s.Conts.map strip).Pairwise fun x y => x.Id < y.Id:=List.pairwise_map.2 h.cs
  rw [← e] at h1
  exact (List.pairwise_map (f:=strip) (R:=fun x y : Cont => x.Id < y.Id)).1 h1
 ·have hm : strip c ∈ s.Conts.map strip:=by rw [← e]; exact List.mem_map_of_mem hc
  obtain ⟨c',hc',ec⟩:=List.mem_map.1 hm
  have:=h.ck c' hc'
  unfold strip at ec
  injection ec with e1 e2 e3 e4 e5 e6 e7
  refine ⟨by rw [← e4]; exact this.size,?_,by rw [← e6]; exact this.label,by rw [← e1]; exact this.id⟩
  rw [← e2]
  exact this.app
 ·obtain ⟨d,hd,ed⟩:=hin c hc
  unfold strip at ed
  injection ed with e1 e2 e3 e4 e5 e6 e7
  rw [← e3,← e6]
  exact h.sd.nod d hd
 ·have:=h.sd.fit n hn
  unfold et at this ⊢
  rw [hfi] at this
  dsimp only
  rw [hfi,e]
  exact this
 ·rcases h.sd.one a ha e2 with e3 | e3
  ·exact .inl e3
  ·rw [hma] at e3
   refine .inr ?_
   show (pMas cs a.Id).length = 1
   rw [hma,e]
   exact e3
theorem yQ {N : Nat} {s : State} (h : Inv N s) (i t : Int) (ht : 0 ≤ t ∧ t ≤ imax s.Now 1) : Gv (fk s i t) fun u => Inv N u ∧ u.Now = s.Now:=by
 have hcl:=h.cl
 unfold fk
 rw [am (by simp; omega) (by omega),Gp,List.nil_append]
 refine ad (P:=fun l => l.map strip = s.Conts.map strip ∧ ∀ c ∈ l,0 ≤ c.Notice ∧ c.Notice ≤ imax s.Now 1) ?_ fun l hl => aa ⟨h.conts hl.1 hl.2,rfl⟩
 refine av (fun (l : List Cont) i => (l,i)) s.Conts.length (fun _ l => l.map strip = s.Conts.map strip ∧ ∀ c ∈ l,0 ≤ c.Notice ∧ c.Notice ≤ imax s.Now 1) (step:=fG i t) (by omega) ?_ ?_ (s:=s.Conts) ⟨rfl,h.sd.ntc⟩
 ·rintro k hk l ⟨hl,hno⟩
  have hll : l.length = s.Conts.length:=by simpa using congrArg List.length hl
  have hkl : k < l.length:=by omega
  unfold fG
  dsimp only
  rw [hll,ah hk,cond_true]
  refine ad (P:=fun m => m.map strip = s.Conts.map strip ∧ ∀ c ∈ m,0 ≤ c.Notice ∧ c.Notice ≤ imax s.Now 1) ?_ fun m hm => aa (.inl ⟨m,rfl,hm⟩)
  rw [← hll]
  simp only [ay hkl,Gp,Gq hkl]
  refine ae (fun _ => aa ⟨?_,fun c hc => ?_⟩) fun _ => aa ⟨hl,hno⟩
  ·rw [← hl,List.map_set]
   have e : strip ⟨l[k].Id,l[k].App,l[k].Node,⟨l[k].Size.Mem,l[k].Size.Cores⟩,l[k].Prio,l[k].Label,l[k].Master,t⟩ = (l.map strip)[k]'(by simpa using hkl):=by simp [strip]
   rw [e,List.set_getElem_self]
  ·rcases List.mem_or_eq_of_mem_set hc with hc | rfl
   ·exact hno c hc
   ·exact ht
 ·rintro l ⟨hl,hno⟩
  have hll : l.length = s.Conts.length:=by simpa using congrArg List.length hl
  unfold fG
  dsimp only
  rw [hll,ao]
  exact aa ⟨l,rfl,hl,hno⟩
def zD (s : State) (c : Cont) : Str:=(appAt s c.App).elim [] (·.Queue)
theorem qY {s : State} (h : SSmall s) (c : Cont) : bK s c = some (zD s c):=by
 unfold bK zD
 rw [aT h,Gp]
 cases appAt s c.App <;> rfl
theorem BP {N : Nat} {s : State} (h : Inv N s) (c : Cont) : Gv (gF s c) fun _ => True:=by
 have hcl:=h.cl
 unfold gF
 refine ad (P:=fun _ => True) ?_ fun _ _ => aa trivial
 refine av (fun (n : Int) i => (n,i)) s.Conts.length (fun _ _ => True) (step:=d4 s c) (by omega) ?_ ?_ (s:=0) trivial
 ·intro k hk n _
  unfold d4
  dsimp only
  rw [ah hk,cond_true,Gp]
  refine ae (fun _ => ?_) fun _ => aa (.inr ⟨_,rfl,trivial⟩)
  refine ad (P:=fun _ => True) ?_ fun n _ => aa (.inl ⟨n,rfl,trivial⟩)
  simp only [ai hk,Gp]
  refine ad (P:=fun _ => True) ?_ fun q _ => ?_
  ·repeat' (first | exact ⟨_,rfl,trivial⟩ | refine ae (fun _ => ?_) (fun _ => ?_))
  ·repeat' (first | exact ⟨_,rfl,trivial⟩ | refine ae (fun _ => ?_) (fun _ => ?_))
 ·intro n _
  unfold d4
  dsimp only
  rw [ao]
  exact aa ⟨_,rfl,trivial⟩
def pIn (l : List Int) (n : Int) : Bool:=l.contains n
theorem zK {l : List Int} (hl : l.length ≤ 100000) (n : Int) : eE l n = some (pIn l n):=by
 unfold eE
 have e:=cI (fun i => i) l (fun x => x == n) (fun _ => (.inl true : Bool ⊕ Unit)) (.inr ()) (step:=ez l n) (by omega) ?_ ?_ ?_
 ·rw [e]
  unfold pIn
  cases hf : l.find? fun x => x == n with
  | none =>
   have : l.contains n = false:=by
    rw [List.contains_eq_any_beq,List.any_eq_false]
    intro x hx
    have:=List.find?_eq_none.1 hf x hx
    simp only [beq_iff_eq] at this ⊢
    exact fun e => this e.symm
   rw [this]; rfl
  | some x =>
   have h1:=List.mem_of_find?_eq_some hf
   have h2:=List.find?_some hf
   have : l.contains n = true:=by
    rw [List.contains_eq_any_beq,List.any_eq_true]
    simp only [beq_iff_eq] at h2 ⊢
    exact ⟨x,h1,h2.symm⟩
   rw [this]; rfl
 ·intro k hk hp
  unfold ez
  rw [ah hk,cond_true,ai hk,Gp,hp]
  rfl
 ·intro k hk hp
  unfold ez
  rw [ah hk,cond_true,ai hk,Gp,hp]
  rfl
 ·unfold ez
  rw [ao]
  rfl
theorem vG {N : Nat} {s : State} (h : Inv N s) (path : Str) (label : Int) {l : List Int} (hl : l.length ≤ 100000) : Gv (c7 s path label l) fun _ => True:=by
 have hcl:=h.cl
 unfold c7
 refine ad (P:=fun _ => True) ?_ fun _ _ => aa trivial
 refine av (fun (n : Int) i => (n,i)) s.Conts.length (fun _ _ => True) (step:=dW s path label l) (by omega) ?_ ?_ (s:=0) trivial
 ·intro k hk n _
  unfold dW
  dsimp only
  rw [ah hk,cond_true]
  refine ad (P:=fun _ => True) ?_ fun n _ => aa (.inl ⟨n,rfl,trivial⟩)
  rw [ai hk,Gp,zK hl,qY h.z]
  refine ad (P:=fun _ => True) ?_ fun q _ => ?_
  ·simp only [Gp]
   repeat' (first | exact ⟨_,rfl,trivial⟩ | refine ae (fun _ => ?_) (fun _ => ?_))
  ·repeat' (first | exact ⟨_,rfl,trivial⟩ | refine ae (fun _ => ?_) (fun _ => ?_))
 ·intro n _
  unfold dW
  dsimp only
  rw [ao]
  exact aa ⟨_,rfl,trivial⟩
theorem BD {N : Nat} {s : State} (h : Inv N s) (path : Str) (label : Int) {l : List Int} (hl : l.length ≤ 100000) : Gv (gK s path label l) fun r => r.2 = true → r.1 ∈ s.Conts ∧ r.1.Id ∉ l:=by
 have hcl:=h.cl
 unfold gK
 refine ad (P:=fun r => r.2 = true → r.1 ∈ s.Conts ∧ r.1.Id ∉ l) ?_ fun _ hr => aa hr
 refine av (fun (t : Cont × Bool) i => (t.1,t.2,i)) s.Conts.length (fun _ r => r.2 = true → r.1 ∈ s.Conts ∧ r.1.Id ∉ l) (step:=dX s path label l) (by omega) ?_ ?_ (s:=((⟨0,0,0,⟨0,0⟩,0,0,false,0⟩ : Cont),false)) (by simp)
 ·intro k hk t ht
  unfold dX
  dsimp only
  rw [ah hk,cond_true]
  refine ad (P:=fun r => r.2 = true → r.1 ∈ s.Conts ∧ r.1.Id ∉ l) ?_ fun r hr => aa (.inl ⟨r,rfl,hr⟩)
  rw [ai hk,Gp,zK hl,qY h.z]
  refine ad (P:=fun b => b = false → s.Conts[k].Id ∉ l) ?_ fun q hq => ?_
  ·simp only [Gp]
   refine ae (fun _ => aa (by simp)) fun _ => ae (fun _ => aa (by simp)) fun _ => ae (fun _ => aa (by simp)) fun _ => aa fun hb => ?_
   unfold pIn at hb
   intro hm
   rw [List.contains_iff_mem.2 hm] at hb
   cases hb
  ·refine ae (fun _ => aa ht) fun hqf => ?_
   refine ad (P:=fun _ => True) ?_ fun q1 _ => ?_
   ·repeat' (first | exact ⟨_,rfl,trivial⟩ | refine ae (fun _ => ?_) (fun _ => ?_))
   ·exact ae (fun _ => aa fun _ => ⟨List.getElem_mem hk,hq hqf⟩) fun _ => aa ht
 ·intro t ht
  unfold dX
  dsimp only
  rw [ao,cond_false]
  exact aa ⟨_,rfl,ht⟩
theorem Ef {N : Nat} {s : State} (h : Inv N s) {path : Str} (hp : path.length ≤ 1000000) (label : Int) : Gv (iF s path label) fun _ => True:=by
 have hal:=h.al
 unfold iF
 rw [kw h.sb,Gp,m9 h.sc hp,Gp]
 refine ad (P:=fun _ => True) ?_ ?_
 ·refine av (fun (_ : Unit) i => i) s.Apps.length (fun _ _ => True) (step:=eU s path label _ _) (by omega) ?_ ?_ (s:=()) trivial
  ·intro k hk _ _
   have hak:=(h.ak _ (List.getElem_mem hk)).al
   unfold eU
   rw [ah hk,cond_true,ai hk,Gp]
   refine ad (P:=fun _ => True) ?_ ?_
   ·refine av (fun (_ : Unit) i => i) s.Apps[k].Asks.length (fun _ _ => True) (step:=eO s path label _ _ s.Apps[k]) (by omega) ?_ ?_ (s:=()) trivial
    ·intro j hj _ _
     unfold eO
     rw [ah hj,cond_true,hU,Gp]
     refine ad (P:=fun _ => True) ?_ fun q _ => ?_
     ·repeat' (first | exact ⟨_,rfl,trivial⟩ | refine ae (fun _ => ?_) (fun _ => ?_))
     refine ae (fun _ => ?_) fun _ => aa (.inr ⟨_,rfl,trivial⟩)
     simp only [ai hj,Gp]
     refine ad (P:=fun _ => True) ?_ fun q _ => ?_
     ·repeat' (first | exact ⟨_,rfl,trivial⟩ | refine ae (fun _ => ?_) (fun _ => ?_))
     refine ae (fun _ => ?_) fun _ => aa (.inl ⟨(),rfl,trivial⟩)
     rw [t_ h,Gp]
     exact aa (.inr ⟨_,rfl,trivial⟩)
    ·intro _ _
     unfold eO
     rw [ao]
     exact aa ⟨_,rfl,trivial⟩
   ·rintro (q | q) _
    ·exact aa (.inr ⟨_,rfl,trivial⟩)
    ·exact aa (.inl ⟨(),rfl,trivial⟩)
  ·intro _ _
   unfold eU
   rw [ao]
   exact aa ⟨_,rfl,trivial⟩
 ·rintro (q | q) _
  ·exact aa trivial
  ·exact aa trivial
theorem vn : ∀ (l m : List Int),l.Nodup → (∀ x ∈ l,x ∈ m) → l.length ≤ m.length
 | [],m,_,_ => by simp
 | x :: l,m,hn,hm => by
  have hx:=hm x (by simp)
  have h1:=List.nodup_cons.1 hn
  have:=vn l (m.erase x) h1.2 fun y hy => (List.mem_erase_of_ne (by rintro rfl; exact h1.1 hy)).2 (hm y (by simp [hy]))
  rw [List.length_erase_of_mem hx] at this
  have hpos:=List.length_pos_of_mem hx
  simp only [List.length_cons]
  omega
theorem Fp {N : Nat} {s : State} (h : Inv N s) (label : Int) : Gv (jl s label) fun l => l.length ≤ 200:=by
 have hcl:=h.cl
 unfold jl
 refine ad (sF h label) ?_
 rintro shares ⟨hsl,hsp⟩
 rw [oS h.sb,Gp,kw h.sb,Gp]
 dsimp only
 have hpath : ∀ x ∈ shares,x.Path.length ≤ 1000000:=fun x hx => by have:=(pg h.cf (hsp x hx)).len; omega
 refine ad (P:=fun _ => True) ?_ fun need _ => ?_
 ·refine av (fun (n : Int) i => (n,i)) shares.length (fun _ _ => True) (step:=fT s label shares) (by omega) ?_ ?_ (s:=_) trivial
  ·intro k hk n _
   unfold fT
   dsimp only
   rw [ah hk,cond_true,ay hk,Gp,Gq hk,Gp]
   exact ad (Ef h (hpath _ (List.getElem_mem hk)) label) fun x _ => aa (.inl ⟨_,rfl,trivial⟩)
  ·intro n _
   unfold fT
   dsimp only
   rw [ao]
   exact aa ⟨_,rfl,trivial⟩
 ·refine ad (P:=fun r => match r with | .inl l => l.length ≤ 200 | .inr l => l.length ≤ 200) ?_ ?_
  ·have hcount : ∀ l : List Int,l.Nodup → (∀ x ∈ l,∃ c ∈ s.Conts,c.Id = x) → l.length ≤ 200:=by
    intro l hn hm
    have : l.length ≤ (s.Conts.map (·.Id)).length:=by
     refine vn l _ hn fun x hx => ?_
     obtain ⟨c,hc,rfl⟩:=hm x hx
     exact List.mem_map_of_mem hc
    rw [List.length_map] at this
    omega
   refine iI (fun l : List Int => l.Nodup ∧ ∀ x ∈ l,∃ c ∈ s.Conts,c.Id = x) (fun l => 200 - l.length) ?_ (t:=[]) ⟨List.nodup_nil,by simp⟩
   rintro l ⟨hn,hm⟩
   have hll:=hcount l hn hm
   unfold mn
   refine ad (vG h [] label (by omega)) fun x4 _ => ?_
   refine ae (fun _ => ?_) fun _ => aa (.inr ⟨_,rfl,hll⟩)
   refine ad (P:=fun r => r.1 ≠ 0 → r.2 ∈ s.Conts ∧ r.2.Id ∉ l) ?_ ?_
   ·refine av (fun (t : Int × Cont) i => (t.1,t.2,i)) shares.length (fun _ r => r.1 ≠ 0 → r.2 ∈ s.Conts ∧ r.2.Id ∉ l) (step:=fH s label shares l) (by omega) ?_ ?_ (s:=((0 : Int),(⟨0,0,0,⟨0,0⟩,0,0,false,0⟩ : Cont))) (by simp)
    ·intro k hk t ht
     unfold fH
     dsimp only
     rw [ah hk,cond_true]
     refine ad (P:=fun r => r.1 ≠ 0 → r.2 ∈ s.Conts ∧ r.2.Id ∉ l) ?_ fun r hr => aa (.inl ⟨r,rfl,hr⟩)
     simp only [ay hk,Gp,Gq hk]
     rw [kw h.sb,Gp]
     refine ad (vG h _ label (by omega)) fun x8 _ => ad (BD h _ label (by omega)) fun x9 hx9 => ?_
     refine ad (P:=fun b => b = true → x9.2 = true) ?_ fun b hb => ?_
     ·exact ae (fun hx => aa fun _ => hx) fun _ => aa (by simp)
     ·exact ae (fun hbt => aa fun _ => hx9 (hb hbt)) fun _ => aa ht
    ·intro t ht
     unfold fH
     dsimp only
     rw [ao,cond_false]
     exact aa ⟨_,rfl,ht⟩
   ·rintro ⟨o,c⟩ hr
    dsimp only at hr ⊢
    refine ae (fun _ => aa (.inr ⟨_,rfl,hll⟩)) fun ho => ?_
    obtain ⟨c1,c2⟩:=hr (by simpa using ho)
    rw [am (by simp; omega) (by omega),Gp]
    have hn' : (l ++ [c.Id]).Nodup:=List.nodup_append.2 ⟨hn,by simp,fun a ha b hb e => by rw [Gt] at hb; subst hb; subst e; exact c2 ha⟩
    have hm' : ∀ x ∈ l ++ [c.Id],∃ c ∈ s.Conts,c.Id = x:=by
     intro x hx
     rcases List.mem_append.1 hx with hx | hx
     ·exact hm x hx
     ·rw [Gt] at hx
      subst hx
      exact ⟨c,c1,rfl⟩
    have hlen:=hcount _ hn' hm'
    refine aa (.inl ⟨_,rfl,⟨hn',hm'⟩,?_⟩)
    rw [Gs] at hlen ⊢
    simp only [List.length_singleton] at hlen ⊢
    omega
  ·rintro (q | q) hq
   ·exact aa hq
   ·exact aa hq
theorem FA {N : Nat} (hN : N ≤ 900000) {s : State} (h : Inv N s) (label : Int) : Gv (iR s label) (Inv (N + 200)):=by
 have hcl:=h.cl
 unfold iR
 dsimp only
 refine ad (P:=fun l => l.length ≤ s.Conts.length) ?_ fun l hl => ?_
 ·rw [aj (x:=(s.Conts.length : Int) - 1) (by omega) (by omega)]
  refine iI (fun t : List Cont × Int => -1 ≤ t.2 ∧ t.2 < s.Conts.length ∧ (t.1.length : Int) ≤ s.Conts.length - 1 - t.2) (fun t => (t.2 + 1).toNat) ?_ (by dsimp only; simp; omega)
  rintro ⟨l,i⟩ ⟨h1,h2,h3⟩
  dsimp only at h1 h2 h3
  unfold mg
  dsimp only
  refine ae (fun hge => ?_) fun _ => aa (.inr ⟨_,rfl,by omega⟩)
  simp only [decide_eq_true_eq] at hge
  refine ad (P:=fun m => m.length ≤ l.length + 1) ?_ fun m hm => aa (.inl ⟨(m,w64 (i - 1)),rfl,?_,?_⟩)
  ·refine ad (cF (fc (by omega) h2)) fun x _ => ?_
   refine ad (P:=fun _ => True) ?_ fun q _ => ?_
   ·repeat' (first | exact ⟨_,rfl,trivial⟩ | refine ae (fun _ => ?_) (fun _ => ?_))
   refine ae (fun _ => ?_) fun _ => aa (by omega)
   rw [am (by simp; omega) (by omega),Gp]
   exact aa (by simp)
  ·rw [aj (x:=i - 1) (by omega) (by omega)]; dsimp only; omega
  ·rw [aj (x:=i - 1) (by omega) (by omega)]; dsimp only; omega
 ·refine ad (P:=Inv (N + 200)) ?_ fun t ht => aa ht
  refine av (fun (t : State) i => (t,i)) l.length (fun k t => Inv (N + k) t) (step:=fA label l) (by omega) ?_ ?_ (s:=s) h
  ·intro k hk t ht
   unfold fA
   dsimp only
   rw [ah hk,cond_true]
   refine ad (P:=Inv (N + (k + 1))) ?_ fun u hu => aa (.inl ⟨u,rfl,hu⟩)
   rw [ay hk,Gp,Gq hk,Gp,kv ht.z,Gp]
   cases hc : oY t l[k].Id with
   | none => exact aa (ht.mono (by omega))
   | some c =>
    simp only [Option.elim,Bool.not_true,cond_false]
    rw [qY ht.z,Gp,kw ht.sb,Gp]
    refine ad (BP ht c) fun x5 _ => ?_
    rw [Gp]
    refine ad (D2 ht label _) fun x7 _ => ?_
    refine ae (fun _ => ?_) fun _ => ?_
    ·exact ad (uQ ht (ids:=[c.Id]) (by simp; omega)) fun u hu => aa hu
    ·exact ad (yQ ht c.Id 0 ⟨Int.le_refl _,by unfold imax; split <;> omega⟩) fun u hu => aa (hu.1.mono (by omega))
  ·intro t ht
   unfold fA
   dsimp only
   rw [ao]
   exact aa ⟨t,rfl,ht.mono (by omega)⟩
theorem yK {s t : State} (h : SSmall s) (h' : SSmall t) : Gv (fj s t) fun _ => True:=by
 have hc:=h.c
 unfold fj
 refine ad (P:=fun _ => True) ?_ fun _ _ => aa trivial
 refine av (fun (l : List Int) i => (l,i)) s.Conts.length (fun k l => l.length ≤ k) (step:=fu s t) (by omega) ?_ ?_ (s:=[]) (by simp)
 ·intro k hk l hl
  unfold fu
  dsimp only
  rw [ah hk,cond_true,ai hk,Gp,kv h',Gp]
  refine ad (P:=fun m => m.length ≤ k + 1) ?_ fun m hm => aa (.inl ⟨m,rfl,hm⟩)
  refine ae (fun _ => ?_) fun _ => aa (by omega)
  rw [Gp,am (by simp; omega) (by omega),Gp]
  exact aa (by simp; omega)
 ·intro l hl
  unfold fu
  rw [ao]
  exact aa ⟨l,rfl,trivial⟩
theorem C7 {N : Nat} (hN : N ≤ 800000) {s : State} (h : Inv N s) : Gv (iD s) fun r => Inv (N + 600) r.1:=by
 unfold iD
 refine ad (P:=Inv (N + 600)) ?_ fun t ht => ad (yK h.z ht.z) fun _ _ => aa ht
 refine iI (fun t : State × Int => 0 ≤ t.2 ∧ t.2 ≤ 3 ∧ Inv (N + 200 * t.2.toNat) t.1) (fun t => (3 - t.2).toNat) ?_ (by dsimp only; exact ⟨by omega,by omega,h⟩)
 rintro ⟨t,i⟩ ⟨h1,h2,ht⟩
 dsimp only at h1 h2 ht
 have hlb:=ht.cf.lab
 unfold lQ
 dsimp only
 refine ae (fun hlt => ?_) fun _ => aa (.inr ⟨_,rfl,ht.mono (by omega)⟩)
 simp only [decide_eq_true_eq] at hlt
 refine ad (FA (by omega) ht i) fun u hu => ?_
 refine ad (Fp hu i) fun l hl => ?_
 refine ad (P:=Inv (N + 200 * i.toNat + 200)) ?_ fun v hv => aa (.inl ⟨(v,w64 (i + 1)),rfl,?_,?_⟩)
 ·refine av (fun (t : State) i => (t,i)) l.length (fun _ t => Inv (N + 200 * i.toNat + 200) t) (step:=eT l) (by omega) ?_ ?_ (s:=u) hu
  ·intro k hk t ht
   unfold eT
   dsimp only
   rw [ah hk,cond_true,ay hk,Gp,Gq hk,Gp]
   exact ad (yQ ht _ _ ⟨by unfold imax; split <;> omega,Int.le_refl _⟩) fun u hu => aa (.inl ⟨u,rfl,hu.1⟩)
  ·intro t ht
   unfold eT
   dsimp only
   rw [ao]
   exact aa ⟨t,rfl,ht⟩
 ·rw [aj (x:=i + 1) (by omega) (by omega)]
  dsimp only
  exact ⟨by omega,by omega,hv.mono (by omega)⟩
 ·rw [aj (x:=i + 1) (by omega) (by omega)]; dsimp only; omega
theorem InvE.at_ {N : Nat} {s : State} (h : InvE ex0 N s) {t : Int} (ht : s.Now ≤ t ∧ 0 ≤ t ∧ t ≤ 1000000000) : Inv N ⟨s.Conf,s.Nodes,s.Apps,s.Conts,s.Slots,s.Plans,t,s.Epoch,s.Seq⟩ :=
 ⟨h.cf,h.nl,h.ns,h.nk,h.al,h.asr,h.ak,h.cl,h.cs,fun c hc => ⟨(h.ck c hc).size,(h.ck c hc).app,(h.ck c hc).label,(h.ck c hc).id⟩,h.ss,h.sk,h.pl,h.ps,h.pk,ht.2,h.ep,h.sq,h.en,h.sd.chk,h.sd.nod,h.sd.slt,fun c hc => by
  have h1:=h.sd.ntc c hc
  have h2 : imax s.Now 1 ≤ imax t 1:=by unfold imax; split <;> split <;> omega
  exact ⟨h1.1,Int.le_trans h1.2 h2⟩,h.sd.fit,h.sd.one⟩
theorem FC {s : State} (h : SSmall s) (i : Int) : Gv (jh s i) fun _ => True:=by
 have hc:=h.c
 unfold jh
 refine ad (P:=fun _ => True) ?_ ?_
 ·refine av (fun (_ : Unit) i => i) s.Conts.length (fun _ _ => True) (step:=fB s i) (by omega) ?_ ?_ (s:=()) trivial
  ·intro k hk _ _
   unfold fB
   rw [ah hk,cond_true]
   simp only [ai hk,Gp]
   refine ad (P:=fun _ => True) ?_ fun q _ => ?_
   ·repeat' (first | exact ⟨_,rfl,trivial⟩ | refine ae (fun _ => ?_) (fun _ => ?_))
   exact ae (fun _ => aa (.inr ⟨_,rfl,trivial⟩)) fun _ => aa (.inl ⟨(),rfl,trivial⟩)
  ·intro _ _
   unfold fB
   rw [ao]
   exact aa ⟨_,rfl,trivial⟩
 ·rintro (q | q) _
  ·exact aa trivial
  ·exact aa trivial
theorem Aa {s : State} (h : SSmall s) : Gv (ii s) fun l => l.length ≤ s.Nodes.length:=by
 have hc:=h.n
 unfold ii
 refine ad (P:=fun l => l.length ≤ s.Nodes.length) ?_ fun l hl => aa hl
 refine av (fun (l : List Int) i => (l,i)) s.Nodes.length (fun k l => l.length ≤ k) (step:=eJ s) (by omega) ?_ ?_ (s:=[]) (by simp)
 ·intro k hk l hl
  unfold eJ
  dsimp only
  rw [ah hk,cond_true]
  simp only [ai hk,Gp]
  refine ad (P:=fun m => m.length ≤ k + 1) ?_ fun m hm => aa (.inl ⟨m,rfl,hm⟩)
  refine ad (P:=fun _ => True) ?_ fun q _ => ?_
  ·repeat' (first | exact ⟨_,rfl,trivial⟩ | refine ae (fun _ => ?_) (fun _ => ?_))
  refine ae (fun _ => ?_) fun _ => aa (by omega)
  rw [am (by simp; omega) (by omega),Gp]
  exact aa (by simp; omega)
 ·intro l hl
  unfold eJ
  rw [ao]
  exact aa ⟨l,rfl,hl⟩
theorem yv {s : State} (h : SSmall s) : Gv (gG s) fun l => l.length ≤ s.Apps.length:=by
 have hc:=h.a
 unfold gG
 refine ad (P:=fun l => l.length ≤ s.Apps.length) ?_ fun l hl => aa hl
 refine av (fun (l : List Int) i => (l,i)) s.Apps.length (fun k l => l.length ≤ k) (step:=dU s) (by omega) ?_ ?_ (s:=[]) (by simp)
 ·intro k hk l hl
  unfold dU
  dsimp only
  rw [ah hk,cond_true]
  simp only [ai hk,Gp]
  refine ad (P:=fun m => m.length ≤ k + 1) ?_ fun m hm => aa (.inl ⟨m,rfl,hm⟩)
  refine ad (P:=fun _ => True) ?_ fun q _ => ?_
  ·repeat' (first | exact ⟨_,rfl,trivial⟩ | refine ae (fun _ => ?_) (fun _ => ?_))
  refine ae (fun _ => ?_) fun _ => aa (by omega)
  rw [am (by simp; omega) (by omega),Gp]
  exact aa (by simp; omega)
 ·intro l hl
  unfold dU
  rw [ao]
  exact aa ⟨l,rfl,hl⟩
theorem FS {N : Nat} (hN : N ≤ 500000) {s : State} (h : Inv N s) (n : Int) : Gv (iS s n) fun r => Inv (N + 3100) r.1:=by
 have hnl:=h.nl
 have hnow:=h.now
 unfold iS
 refine ad (P:=fun b => b = false → 1 ≤ n ∧ n ≤ 100) ?_ fun b hb => ?_
 ·refine ae (fun _ => aa (by simp)) fun h1 => aa fun h2 => ?_
  simp only [decide_eq_false_iff_not] at h1 h2
  omega
 refine ae (fun _ => aa (h.mono (by omega))) fun hbf => ?_
 obtain ⟨n1,n2⟩:=hb hbf
 rw [aj (x:=s.Now + n) (by omega) (by omega)]
 refine ae (fun _ => aa (h.mono (by omega))) fun hle => ?_
 simp only [decide_eq_false_iff_not] at hle
 have h0:=h.at_ (t:=s.Now + n) ⟨by omega,by omega,by omega⟩
 obtain ⟨s0,hs0⟩ : ∃ s0,s0 = (⟨⟨s.Conf.Labels,s.Conf.Queues⟩,s.Nodes,s.Apps,s.Conts,s.Slots,s.Plans,s.Now + n,s.Epoch,s.Seq⟩ : State):=⟨_,rfl⟩
 have h0 : Inv N s0:=by rw [hs0]; exact h0
 have hs0n : s0.Nodes = s.Nodes:=by rw [hs0]
 rw [← hs0]
 clear hs0
 refine ad (Aa h0.z) fun l hl => ?_
 rw [hs0n] at hl
 refine ad (P:=Inv (N + 200 * 12)) ?_ fun s1 hs1 => ?_
 ·refine av (fun (t : State) i => (t,i)) l.length (fun k t => Inv (N + 200 * k) t) (step:=ga l) (by omega) ?_ ?_ (s:=s0) h0
  ·intro k hk t ht
   unfold ga
   dsimp only
   rw [ah hk,cond_true]
   simp only [ay hk,Gp,Gq hk]
   refine ad (EN ht _) fun u hu => ?_
   rw [jS hu.z,Gp]
   have hv:=hu.noSlot l[k]
   rw [AO hv.z,Gp]
   have hlen : (((pNoSlot u l[k]).Conts.filter fun c => c.Node == l[k]).map (·.Id)).length ≤ 200:=by
    rw [List.length_map]
    exact Nat.le_trans (List.length_filter_le _ _) hv.cl
   have hin : ∀ c ∈ (pNoSlot u l[k]).Conts,c.Node = l[k] → c.Id ∈ ((pNoSlot u l[k]).Conts.filter fun c => c.Node == l[k]).map (·.Id):=fun c hc e => List.mem_map_of_mem (List.mem_filter.2 ⟨hc,by simpa using e⟩)
   have hsl : ∀ x ∈ (pNoSlot u l[k]).Slots,x.Node ≠ l[k]:=fun x hx => by simpa using (List.mem_filter.1 hx).2
   generalize ((pNoSlot u l[k]).Conts.filter fun c => c.Node == l[k]).map (·.Id) = ids at hlen hin ⊢
   generalize pNoSlot u l[k] = w at hv hin hsl ⊢
   have hL:=xC hv (ids:=ids) (by omega)
   refine ad hL fun z hz => aa (.inl ⟨z,rfl,?_⟩)
   obtain ⟨hz,hl2⟩:=hz
   have hz2 : InvE (exN l[k]) (N + 200 * (k + 1)) z:=hz.mono (by omega)
   refine InvE.relax (E':=ex0) hz2 (fun c hc e => ?_) (fun x hx e => ?_) fun _ _ _ e => e
   ·have e : c.Node = l[k]:=e
    obtain ⟨c1,c2⟩:=hl2.ct c hc
    exact (c2 (hin c c1 e)).elim
   ·have e : x.Node = l[k]:=e
    exact (hsl x (hl2.sl x hx) e).elim
  ·intro t ht
   unfold ga
   dsimp only
   rw [ao]
   exact aa ⟨t,rfl,ht.mono (by omega)⟩
 ·refine ad (yv hs1.z) fun l1 hl1 => ?_
  have hal:=hs1.al
  refine ad (P:=Inv (N + 200 * 12 + 16)) ?_ fun s2 hs2 => ?_
  ·refine av (fun (t : State) i => (t,i)) l1.length (fun k t => Inv (N + 200 * 12 + k) t) (step:=fP l1) (by omega) ?_ ?_ (s:=s1) hs1
   ·intro k hk t ht
    unfold fP
    dsimp only
    rw [ah hk,cond_true,ay hk,Gp,Gq hk,Gp]
    refine ad (FC ht.z _) fun x10 _ => ?_
    exact ad (uQ ht (ids:=[x10]) (by simp; omega)) fun u hu => aa (.inl ⟨u,rfl,hu⟩)
   ·intro t ht
    unfold fP
    dsimp only
    rw [ao]
    exact aa ⟨t,rfl,ht.mono (by omega)⟩
  ·have hpl:=hs2.pl
   have e:=bb (fun (l : List Plan) i => (l,i)) s2.Plans (fun p => decide (p.Until > s2.Now)) id (step:=fV s2) (by omega) ?_ ?_
   ·rw [e,Gp,List.map_id]
    have h3:=hs2.plans (ps:=s2.Plans.filter fun p => decide (p.Until > s2.Now)) List.filter_sublist
    refine ad (C7 (by omega) h3) fun r hr => ?_
    exact ad (yK h.z hr.z) fun _ _ => aa (hr.mono (by omega))
   ·intro k hk l hl
    unfold fV
    dsimp only
    rw [ah hk,cond_true,ai hk,Gp]
    cases hp : decide (s2.Plans[k].Until > s2.Now)
    ·rfl
    ·rw [cond_true,Gp,am (by simp; omega) (by omega)]
     rfl
   ·intro l
    unfold fV
    rw [ao]
    rfl
structure InOk (x : Input) : Prop where
 ids : x.Ids.length ≤ 1000
 asks : x.Asks.length ≤ 1000
 user : 0 ≤ x.App.User ∧ x.App.User ≤ 2
theorem yI {N : Nat} (hN : N ≤ 500000) {s : State} (h : Inv N s) {x : Input} (hx : InOk x) : Gv (fg s x) fun r => Inv (N + 4000) r.1:=by
 have m : ∀ {t : State},Inv N t → Inv (N + 4000) t:=fun ht => ht.mono (by omega)
 unfold fg
 refine ae (fun _ => ad (B4 h _) fun r hr => aa (m hr)) fun _ => ?_
 refine ae (fun _ => ad (sC h _) fun r hr => aa (m hr)) fun _ => ?_
 refine ae (fun _ => ad (EM (by omega) h x hx.ids) fun r hr => aa (hr.mono (by omega))) fun _ => ?_
 refine ae (fun _ => ad (vL h _ hx.user) fun r hr => aa (m hr)) fun _ => ?_
 refine ae (fun _ => ad (BU (by omega) h x hx.ids hx.asks) fun r hr => aa (m hr)) fun _ => ?_
 refine ae (fun _ => ad (BS h _ _ (.inl rfl)) fun r hr => aa (m hr)) fun _ => ?_
 refine ae (fun _ => ad (BS h _ _ (.inr rfl)) fun r hr => aa (m hr)) fun _ => ?_
 refine ae (fun _ => ad (FS hN h _) fun r hr => aa (hr.mono (by omega))) fun _ => ?_
 refine ae (fun _ => ad (DW h _ _) fun r hr => aa (m hr)) fun _ => ?_
 refine ae (fun _ => ad (FF h _) fun r hr => aa (m hr)) fun _ => ?_
 refine ae (fun _ => ?_) fun _ => aa (m h)
 refine ae (fun _ => aa (m h)) fun he => aa (InvE.mono (E:=ex0) (N:=N + 1) ?_ (by omega))
 simp only [decide_eq_false_iff_not] at he
 have hep:=h.ep
 have hsq:=h.sq
 rw [aj (x:=s.Epoch + 1) (by omega) (by omega)]
 refine ⟨h.cf,h.nl,h.ns,h.nk,h.al,h.asr,(InvE.mono h (Nat.le_succ N)).ak,h.cl,h.cs,fun c hc => ?_,h.ss,h.sk,h.pl,h.ps,h.pk,h.now,by dsimp only; omega,by dsimp only; omega,by have:=h.en; show s.Epoch + 1 ≤ ((N + 1 : Nat) : Int); omega,h.sd.chk,h.sd.nod,h.sd.slt,h.sd.ntc,h.sd.fit,h.sd.one⟩
 have:=h.ck c hc
 have hid:=this.id
 exact ⟨this.size,this.app,this.label,by dsimp only; omega⟩
end Go.Fx.D
