/-
  The reference manager: what holds of its state after every script. Conditions: none.
-/
import Derived.Test.YtmpaebhomokjmaaGreatS5
namespace Go.Fx.D
open Go Go.Fx
set_option linter.unusedVariables false
set_option linter.unusedSimpArgs false
def VB (n : Int) (v : Vec) : Prop:=(0 ≤ v.Mem ∧ v.Mem ≤ n) ∧ 0 ≤ v.Cores ∧ v.Cores ≤ n
def vsum (l : List Vec) : Vec:=⟨(l.map (·.Mem)).sum,(l.map (·.Cores)).sum⟩
def vplus (a b : Vec) : Vec:=⟨a.Mem + b.Mem,a.Cores + b.Cores⟩
theorem GH : vsum [] = ⟨0,0⟩:=rfl
theorem vd (v : Vec) (l : List Vec) : vsum (v :: l) = vplus v (vsum l):=by simp [vsum,vplus]
theorem pw {n : Int} (hn : 0 ≤ n) {l : List Vec} (h : ∀ v ∈ l,VB n v) : VB (l.length * n) (vsum l):=by
 induction l with
 | nil => simp [vsum,VB]
 | cons v l ih =>
  have h1:=ih (fun v hv => h v (by simp [hv]))
  have h2:=h v (by simp)
  rw [vd]
  unfold VB vplus at *
  simp only [List.length_cons,Int.natCast_add,Int.add_mul]
  omega
theorem lS {a b : Vec} {n : Int} (ha : VB n a) (hb : VB n b) (hn : n ≤ 4000000000000000000) : aJ a b = some (vplus a b):=by
 unfold VB at *
 unfold aJ vplus
 rw [ao (by omega) (by omega),ao (by omega) (by omega)]
theorem VB.mono {n m : Int} {v : Vec} (h : VB n v) (hm : n ≤ m) : VB m v:=by unfold VB at *; omega
theorem wk {n m : Int} {a b : Vec} (ha : VB n a) (hb : VB m b) : VB (n + m) (vplus a b):=by unfold VB vplus at *; dsimp only; omega
theorem iG {α τ : Type} (mk : Vec → Int → τ) (l : List α) (p : α → Bool) (v : α → Vec) {step : τ → Option (τ ⊕ Vec)} (hn : l.length ≤ 100000) (hb : ∀ x ∈ l,p x = true → VB 1099511627776 (v x))
  (h1 : ∀ k (hk : k < l.length) s,VB (1099511627776 * k) s → step (mk s (k : Int)) = some (.inl (mk (if p l[k] = true then vplus s (v l[k]) else s) (w64 ((k : Int) + 1)))))
  (h2 : ∀ s,step (mk s (l.length : Int)) = some (.inr s)) : loop step (mk ⟨0,0⟩ 0) = some (vsum ((l.filter p).map v)):=by
 have h:=(fE mk l (fun s x => if p x = true then vplus s (v x) else s) (fun k s => VB (1099511627776 * k) s) (fun s => s) (by omega) (step:=step) ?_ (fun s _ => h2 s) (s:=(⟨0,0⟩ : Vec)) (by simp [VB])).1
 ·rw [h]
  congr 1
  have key : ∀ (l : List α) (z : Vec),l.foldl (fun s x => if p x = true then vplus s (v x) else s) z = vplus z (vsum ((l.filter p).map v)):=by
   intro l
   induction l with
   | nil => intro z; simp [vsum,vplus]
   | cons x l ih =>
    intro z
    rw [List.foldl_cons,ih,List.filter_cons]
    split
    ·rw [List.map_cons,vd]; simp only [vplus]; congr 1 <;> omega
    ·rfl
  rw [key]
  simp [vplus]
 ·intro k hk s hs
  refine ⟨h1 k hk s hs,?_⟩
  show VB _ (if p l[k] = true then vplus s (v l[k]) else s)
  by_cases hp : p l[k] = true
  ·have:=hb _ (List.getElem_mem hk) hp
   rw [if_pos hp]
   unfold VB vplus at *
   dsimp only
   omega
  ·rw [if_neg hp]
   unfold VB at *
   omega
structure SB (s : State) : Prop where
 z : SSmall s
 cf : CSmall s.Conf
 nc : ∀ n ∈ s.Nodes,VB 1073741824 n.Cap
 cs : ∀ c ∈ s.Conts,VB 1073741824 c.Size
 pn : ∀ p ∈ s.Plans,VB 1073741824 p.Need
 aq : ∀ a ∈ s.Apps,a.Queue.length ≤ 1000000
 al : ∀ a ∈ s.Apps,a.Asks.length ≤ 100
 ak : ∀ a ∈ s.Apps,∀ x ∈ a.Asks,VB 1073741824 x.Size ∧ 0 ≤ x.Count ∧ x.Count ≤ 50
def iY (leaf p : Str) : Bool:=(pUp leaf).contains p
theorem Bl {leaf : Str} (h : leaf.length ≤ 1000000) (p : Str) : eD leaf p = some (iY leaf p):=by
 unfold eD
 have hl:=vr leaf
 rw [Dr h,Jw]
 have e:=d6 (fun i => i) (pUp leaf) (fun q => q == p) (fun q => (.inl true : Bool ⊕ Unit)) (.inr ()) (step:=cT p (pUp leaf)) (by omega) ?_ ?_ ?_
 ·rw [e]
  unfold iY
  cases hf : (pUp leaf).find? fun q => q == p with
  | none =>
   have : (pUp leaf).contains p = false:=by
    rw [Bool.eq_false_iff]
    intro hc
    rw [List.contains_iff_mem] at hc
    have:=List.find?_eq_none.1 hf p hc
    simp at this
   rw [this]; rfl
  | some q =>
   have h1:=List.mem_of_find?_eq_some hf
   have h2:=List.find?_some hf
   have : q = p:=by simpa using h2
   subst this
   have : (pUp leaf).contains q = true:=List.contains_iff_mem.2 h1
   rw [this]; rfl
 ·intro k hk hp
  unfold cT
  rw [aj hk,aM hk]
  simp only [cond_true,Jw,Jx hk,hp,cond_false]
 ·intro k hk hp
  unfold cT
  rw [aj hk,aM hk]
  simp only [cond_true,Jw,Jx hk,hp]
 ·unfold cT
  rw [ar]
  rfl
def pHas (s : State) (path : Str) (label : Int) (all : Bool) (user : Int) (c : Cont) : Bool :=
 (appAt s c.App).elim false fun a => c.Label == label && iY a.Queue path && (all || a.User == user)
def pUsed (s : State) (path : Str) (label : Int) (all : Bool) (user : Int) : Vec:=vsum ((s.Conts.filter (pHas s path label all user)).map (·.Size))
theorem Ch {s : State} (h : SB s) (path : Str) (label : Int) (all : Bool) (user : Int) : fG s path label all user = some (pUsed s path label all user):=by
 unfold fG
 rw [iG (fun v i => (v,i)) s.Conts (pHas s path label all user) (·.Size) (step:=fV s path label all user) h.z.c (fun c hc _ => (h.cs c hc).mono (by omega)) ?_ ?_]
 ·rfl
 ·intro k hk v hv
  unfold fV
  rw [aj hk,ai hk]
  simp only [cond_true,Jw]
  rw [dV h.z]
  have hp : aJ v s.Conts[k].Size = some (vplus v s.Conts[k].Size):=by
   have:=h.z.c
   exact lS (hv.mono (m:=200000000000000000) (by omega)) ((h.cs _ (List.getElem_mem hk)).mono (by omega)) (by omega)
  rw [hp]
  unfold pHas
  cases ha : appAt s s.Conts[k].App with
  | none => simp
  | some a =>
   have hq:=h.aq a (nV (id:=fun x : App => x.Id) ha).1
   simp only [Option.elim_some,Jw,cond_true]
   rw [Bl hq]
   simp only [Jw]
   rcases Bool.eq_false_or_eq_true (iY a.Queue path) with hb | hb <;> simp only [hb] <;> cases s.Conts[k].Label == label <;> cases all <;> cases a.User == user <;> rfl
 ·intro v
  unfold fV
  rw [ar]
  rfl
theorem jw {s : State} (h : SB s) (path : Str) (label : Int) : aR s path label = some (pUsed s path label true 0):=by
 unfold aR; rw [Ch h]; rfl
theorem BH {s : State} (h : SB s) (path : Str) (label user : Int) : fm s path label user = some (pUsed s path label false user):=by
 unfold fm; rw [Ch h]; rfl
theorem xW {s : State} (h : SB s) (path : Str) (label : Int) (all : Bool) (user : Int) : VB (s.Conts.length * 1073741824) (pUsed s path label all user):=by
 have:=pw (n:=1073741824) (by omega) (l:=(s.Conts.filter (pHas s path label all user)).map (·.Size)) (fun v hv => by
  obtain ⟨c,hc,rfl⟩:=List.mem_map.1 hv
  exact h.cs c (List.mem_filter.1 hc).1)
 refine this.mono ?_
 rw [List.length_map]
 have:=List.length_filter_le (pHas s path label all user) s.Conts
 omega
def iO (s : State) (label : Int) : Vec:=vsum ((s.Nodes.filter fun n => n.Up && n.Label == label).map (·.Cap))
theorem pL {s : State} (h : SB s) (label : Int) : bL s label = some (iO s label):=by
 unfold bL
 rw [iG (fun v i => (v,i)) s.Nodes (fun n => n.Up && n.Label == label) (·.Cap) (step:=fS s label) h.z.n (fun c hc _ => (h.nc c hc).mono (by omega)) ?_ ?_]
 ·rfl
 ·intro k hk v hv
  unfold fS
  rw [aj hk,ai hk]
  have hp : aJ v s.Nodes[k].Cap = some (vplus v s.Nodes[k].Cap):=by
   have:=h.z.n
   exact lS (hv.mono (m:=200000000000000000) (by omega)) ((h.nc _ (List.getElem_mem hk)).mono (by omega)) (by omega)
  simp only [cond_true,Jw,hp]
  cases s.Nodes[k].Up <;> cases s.Nodes[k].Label == label <;> rfl
 ·intro v
  unfold fS
  rw [ar]
  rfl
theorem pF {s : State} (h : SB s) (label : Int) : VB (s.Nodes.length * 1073741824) (iO s label):=by
 have:=pw (n:=1073741824) (by omega) (l:=(s.Nodes.filter fun n => n.Up && n.Label == label).map (·.Cap)) (fun v hv => by
  obtain ⟨c,hc,rfl⟩:=List.mem_map.1 hv
  exact h.nc c (List.mem_filter.1 hc).1)
 refine this.mono ?_
 rw [List.length_map]
 have:=List.length_filter_le (fun n : Node => n.Up && n.Label == label) s.Nodes
 omega
def pKept (s : State) (label : Int) : Vec:=vsum ((s.Plans.filter fun p => p.Label == label && decide (p.From ≤ s.Now) && decide (s.Now < p.Until)).map (·.Need))
theorem HC {s : State} (h : SB s) (label : Int) : kC s label = some (pKept s label):=by
 unfold kC
 rw [iG (fun v i => (v,i)) s.Plans (fun p => p.Label == label && decide (p.From ≤ s.Now) && decide (s.Now < p.Until)) (·.Need) (step:=iz s label) h.z.p (fun c hc _ => (h.pn c hc).mono (by omega)) ?_ ?_]
 ·rfl
 ·intro k hk v hv
  unfold iz
  rw [aj hk,ai hk]
  have hp : aJ v s.Plans[k].Need = some (vplus v s.Plans[k].Need):=by
   have:=h.z.p
   exact lS (hv.mono (m:=200000000000000000) (by omega)) ((h.pn _ (List.getElem_mem hk)).mono (by omega)) (by omega)
  simp only [cond_true,Jw,hp]
  cases s.Plans[k].Label == label <;> cases decide (s.Plans[k].From ≤ s.Now) <;> cases decide (s.Now < s.Plans[k].Until) <;> rfl
 ·intro v
  unfold iz
  rw [ar]
  rfl
theorem Il {s : State} (h : SB s) (label : Int) : VB (s.Plans.length * 1073741824) (pKept s label):=by
 have:=pw (n:=1073741824) (by omega) (l:=(s.Plans.filter fun p => p.Label == label && decide (p.From ≤ s.Now) && decide (s.Now < p.Until)).map (·.Need)) (fun v hv => by
  obtain ⟨c,hc,rfl⟩:=List.mem_map.1 hv
  exact h.pn c (List.mem_filter.1 hc).1)
 refine this.mono ?_
 rw [List.length_map]
 have:=List.length_filter_le (fun p : Plan => p.Label == label && decide (p.From ≤ s.Now) && decide (s.Now < p.Until)) s.Plans
 omega
def AG (s : State) (i : Int) : Vec:=vsum ((s.Conts.filter fun c => c.Node == i).map (·.Size))
theorem Hd {s : State} (h : SB s) (i : Int) : ko s i = some (AG s i):=by
 unfold ko
 rw [iG (fun v i => (v,i)) s.Conts (fun c => c.Node == i) (·.Size) (step:=ir s i) h.z.c (fun c hc _ => (h.cs c hc).mono (by omega)) ?_ ?_]
 ·rfl
 ·intro k hk v hv
  unfold ir
  rw [aj hk,ai hk]
  have hp : aJ v s.Conts[k].Size = some (vplus v s.Conts[k].Size):=by
   have:=h.z.c
   exact lS (hv.mono (m:=200000000000000000) (by omega)) ((h.cs _ (List.getElem_mem hk)).mono (by omega)) (by omega)
  simp only [cond_true,Jw,hp]
  cases s.Conts[k].Node == i <;> rfl
 ·intro v
  unfold ir
  rw [ar]
  rfl
theorem FR {s : State} (h : SB s) (i : Int) : VB (s.Conts.length * 1073741824) (AG s i):=by
 have:=pw (n:=1073741824) (by omega) (l:=(s.Conts.filter fun c => c.Node == i).map (·.Size)) (fun v hv => by
  obtain ⟨c,hc,rfl⟩:=List.mem_map.1 hv
  exact h.cs c (List.mem_filter.1 hc).1)
 refine this.mono ?_
 rw [List.length_map]
 have:=List.length_filter_le (fun c : Cont => c.Node == i) s.Conts
 omega
def vless (a b : Vec) : Vec:=⟨imax (a.Mem - b.Mem) 0,imax (a.Cores - b.Cores) 0⟩
theorem CE {a b : Vec} (ha : VB 4000000000000000000 a) (hb : VB 4000000000000000000 b) : gT a b = some (vless a b):=by
 unfold VB at *
 unfold gT vless
 rw [ao (by omega) (by omega),ao (by omega) (by omega)]
def vfits (a b : Vec) : Bool:=decide (a.Mem ≤ b.Mem) && decide (a.Cores ≤ b.Cores)
theorem lV (a b : Vec) : aW a b = some (vfits a b):=by
 unfold aW vfits
 cases decide (a.Mem ≤ b.Mem) <;> rfl
def pFree (s : State) (i : Int) : Vec:=match oX s i with
 | some n => if n.Up = true then vless n.Cap (AG s i) else ⟨0,0⟩
 | none => ⟨0,0⟩
theorem Cx {s : State} (h : SB s) (i : Int) : gX s i = some (pFree s i):=by
 unfold gX pFree
 rw [lU h.z]
 cases hn : oX s i with
 | none => rfl
 | some n =>
  have hc:=h.nc n (nV (id:=fun x : Node => x.Id) hn).1
  have:=h.z.c
  simp only [Option.elim_some,Jw,Bool.not_true,cond_false]
  cases hu : n.Up with
  | false => rfl
  | true =>
   simp only [Bool.not_true,cond_false,if_true]
   rw [Hd h,Jw,CE (hc.mono (by omega)) ((FR h i).mono (by omega))]
   rfl
end Go.Fx.D
