/-
  The reference manager: what holds of its state after every script. Conditions: none.
-/
import Derived.Test.YtbhbgldkokjndaaGreatS7
namespace Go.Fx.D
open Go Go.Fx
set_option linter.unusedVariables false
set_option linter.unusedSimpArgs false
structure SC (s : State) : Prop where
 b : SB s
 c : ConfOk s.Conf
 n : s.Nodes.length ≤ 100
theorem SC.down_bd {s : State} (h : SC s) {path : Str} (label : Int) (least : Bool) : VB (s.Nodes.length * 1073741824) (pDown s path label least):=by
 unfold pDown
 split
 ·rename_i hh
  refine xh h.b h.c hh.2.1 hh.2.2 least ?_
  intro p hp
  exact kP h.c path.length path (Nat.le_refl _) hh.1 p (List.dropLast_subset _ (List.mem_reverse.1 hp))
 ·unfold VB; simp; omega
theorem jR {s : State} (h : SC s) {path : Str} (hp : path.length ≤ 1000000) (label : Int) : a5 s path label = some (pDown s path label true):=by
 unfold a5; rw [uv h.b h.c h.n hp]; rfl
theorem pS {s : State} (h : SC s) {path : Str} (hp : path.length ≤ 1000000) (label : Int) : eL s path label = some (pDown s path label false):=by
 unfold eL; rw [uv h.b h.c h.n hp]; rfl
def pUser (s : State) (path : Str) (label : Int) : Vec:=(pFind s.Conf path).elim ⟨0,0⟩ fun q => eX (pDown s path label true) q.User
theorem uP {c : Conf} (h : ConfOk c) {p : Str} {q : Queue} (hq : pFind c p = some q) : 1 ≤ q.User ∧ q.User ≤ 1000000:=by
 obtain ⟨hm,_⟩:=ji hq
 obtain ⟨i,hi,rfl⟩:=List.getElem_of_mem hm
 exact (h.q i hi).user
theorem yG {s : State} (h : SC s) {path : Str} (hp : path.length ≤ 1000000) (label : Int) : hJ s path label = some (pUser s path label):=by
 unfold hJ pUser
 rw [lr h.b.cf]
 cases hf : pFind s.Conf path with
 | none => rfl
 | some q =>
  have hu:=uP h.c hf
  have hn:=h.n
  simp only [Option.elim_some,At,Bool.not_true,cond_false]
  rw [jR h hp,At,(qi ((h.down_bd label true).mono (by omega)) (by omega) hu.2).1]
  rfl
def pDue (s : State) (leaf : Str) (a : Ask) : Bool:=vfits (vplus (pUsed s leaf a.Label true 0) a.Size) (pDown s leaf a.Label true)
theorem vv {s : State} (h : SC s) {leaf : Str} (hp : leaf.length ≤ 1000000) {a : Ask} (ha : VB 1073741824 a.Size) : eJ s leaf a = some (pDue s leaf a):=by
 unfold eJ pDue
 have hc:=h.b.z.c
 rw [ie h.b,At,iS ((p6 h.b leaf a.Label true 0).mono (m:=200000000000000000) (by omega)) (ha.mono (by omega)) (by omega),At,jR h hp,At,iU]
 rfl
def pMore (s : State) (leaf : Str) (label user : Int) : Bool:=vfits (pUsed s leaf label false user) (pUser s leaf label)
theorem tx {s : State} (h : SC s) {leaf : Str} (hp : leaf.length ≤ 1000000) (label user : Int) : dH s leaf label user = some (pMore s leaf label user):=by
 unfold dH pMore
 rw [tk h.b,At,yG h hp,At,iU]
 rfl
def ni (s : State) (label : Int) (size : Vec) (p : Str) : Bool :=
 vfits (vplus (pUsed s p label true 0) size) (pDown s p label false) && (!(p == root) || vfits (vplus (pUsed s p label true 0) size) (vless (fK s label) (pKept s label)))
def pRoom (s : State) (path : Str) (label : Int) (size : Vec) : Bool:=(pUp path).all (ni s label size)
theorem yh {p x : Str} (h : x ∈ pUp p) : x.length ≤ p.length:=by
 generalize hn : p.length = n
 induction n using Nat.strongRecOn generalizing p with
 | _ n ih =>
  by_cases hp : p = []
  ·subst hp; simp [jn] at h
  ·rw [iA hp] at h
   rcases List.mem_cons.1 h with rfl | h
   ·omega
   ·have:=dl hp
    have:=ih _ (by omega) h rfl
    omega
theorem rz {α : Type} (l : List α) (p : α → Bool) : (l.find? fun x => !(p x)).isNone = l.all p:=by
 rw [Bool.eq_iff_iff,List.all_eq_true,Option.isNone_iff_eq_none,List.find?_eq_none]
 simp
theorem uw {s : State} (h : SC s) {path : Str} (hp : path.length ≤ 1000000) (label : Int) {size : Vec} (hs : VB 1073741824 size) : dO s path label size = some (pRoom s path label size):=by
 unfold dO pRoom
 have hl:=n8 path
 have hc:=h.b.z.c
 have hpl:=h.b.z.p
 have hn:=h.n
 rw [uB hp,At]
 have st : ∀ k (hk : k < (pUp path).length),bW s label size (pUp path) (k : Int) = some (bif ni s label size (pUp path)[k] then .inl (w64 ((k : Int) + 1)) else .inr (.inl false)):=by
  intro k hk
  unfold bW ni
  rw [aj hk,aA hk]
  simp only [cond_true,At,Au hk]
  have hx : (pUp path)[k].length ≤ 1000000:=by have:=yh (List.getElem_mem hk); omega
  rw [ie h.b,At,iS ((p6 h.b _ label true 0).mono (m:=200000000000000000) (by omega)) (hs.mono (by omega)) (by omega),At,pS h hx,At,iU,At]
  have hV:=h.b
  generalize vplus (pUsed s (pUp path)[k] label true 0) size = V
  generalize vfits V (pDown s (pUp path)[k] label false) = b1
  cases b1 with
  | false => rfl
  | true =>
   simp only [Bool.not_true,cond_false,Bool.true_and]
   rw [jP hV,y7 hV]
   simp only [At]
   rw [uj ((lE hV label).mono (by omega)) ((zQ hV label).mono (by omega))]
   simp only [At,iU]
   rcases Bool.eq_false_or_eq_true ((pUp path)[k] == root) with hr | hr
   ·simp only [hr,cond_true,At,Bool.not_true,Bool.false_or]
    cases vfits V (vless (fK s label) (pKept s label)) <;> rfl
   ·simp only [hr,cond_false,At,Bool.not_false,Bool.true_or,cond_true]
 have e:=dI (fun i => i) (pUp path) (fun x => !(ni s label size x)) (fun q => (.inl false : Bool ⊕ Unit)) (.inr ()) (step:=bW s label size (pUp path)) (by omega) ?_ ?_ ?_
 ·rw [e,← rz]
  cases (pUp path).find? fun x => !(ni s label size x) <;> rfl
 ·intro k hk hf
  rw [st k hk]
  simp only [Bool.not_eq_false'] at hf
  rw [hf]; rfl
 ·intro k hk hf
  rw [st k hk]
  simp only [Bool.not_eq_true'] at hf
  rw [hf]; rfl
 ·unfold bW
  rw [ar]
  rfl
def noK : Ask:=⟨0,0,⟨0,0⟩,0,0,0,0⟩
def askAt (l : List Ask) (prio : Int) : Option Ask:=l.find? fun x => x.Prio == prio
theorem v7 {l : List Ask} (h : l.length ≤ 100000) (prio : Int) : iz l prio = some ((askAt l prio).elim (noK,false) fun x => (x,true)):=by
 unfold iz
 have e:=dI (fun i => (noK,i)) l (fun q => q.Prio == prio) (fun q => .inl (q,true)) (.inr noK) (step:=c9 l prio) (by omega) ?_ ?_ ?_
 ·unfold noK at e
  rw [e]
  unfold askAt noK
  cases l.find? fun q => q.Prio == prio <;> rfl
 ·intro k hk hp
  unfold c9
  rw [aj hk,ai hk]
  simp only [cond_true,At,hp,cond_false]
 ·intro k hk hp
  unfold c9
  rw [aj hk,ai hk]
  simp only [cond_true,At,hp]
 ·unfold c9
  rw [ar]
  rfl
def takeK (prio : Int) (x : Ask) : Option Ask:=if x.Prio = prio then (if x.Count - 1 ≤ 0 then none else some ⟨x.Prio,x.Label,x.Size,x.Count - 1,x.Node,x.Rack,0⟩) else some x
def pTake (l : List Ask) (prio : Int) : List Ask:=l.filterMap (takeK prio)
theorem y9 {l : List Ask} (h : l.length ≤ 100000) (hc : ∀ x ∈ l,0 ≤ x.Count ∧ x.Count ≤ 1000000) (prio : Int) : Gv (hG l prio) fun r => r.1 = pTake l prio:=by
 unfold hG
 have e:=dN (σ:=List Ask × Bool) (fun t i => (t.1,t.2,i)) l (fun t x => (t.1 ++ (takeK prio x).toList,if x.Prio = prio then true else t.2)) (fun k t => t.1.length ≤ k) (fun t => t) (step:=fx l prio) (by omega) ?_ ?_ (s:=([],false)) (by simp)
 ·rw [e.1]
  refine aa ?_
  dsimp only
  have key : ∀ (l : List Ask) (z : List Ask × Bool),(l.foldl (fun t x => (t.1 ++ (takeK prio x).toList,if x.Prio = prio then true else t.2)) z).1 = z.1 ++ pTake l prio:=by
   intro l
   induction l with
   | nil => simp [pTake]
   | cons x l ih =>
    intro z
    rw [List.foldl_cons,ih]
    unfold pTake
    rw [List.filterMap_cons]
    cases takeK prio x <;> simp
  rw [key]; simp
 ·rintro k hk ⟨z,b⟩ hz
  dsimp only at hz
  have hcx:=hc _ (List.getElem_mem hk)
  unfold fx takeK
  dsimp only
  rw [aj hk,ai hk]
  simp only [cond_true,At]
  rw [ao (x:=l[k].Count - 1) (by omega) (by omega)]
  by_cases hp : l[k].Prio = prio
  ·rw [show (l[k].Prio == prio) = true by simpa using hp,if_pos hp]
   simp only [cond_true]
   by_cases hn : l[k].Count - 1 ≤ 0
   ·rw [decide_eq_true hn,if_pos hn]
    refine ⟨by simp [hp],?_⟩
    simp; omega
   ·rw [decide_eq_false hn,if_neg hn]
    simp only [cond_false,At]
    rw [ah (by simp; omega) (by omega)]
    refine ⟨by simp [hp],?_⟩
    simp; omega
  ·rw [show (l[k].Prio == prio) = false by simpa using hp,if_neg hp]
   simp only [cond_false,At]
   rw [ah (by simp; omega) (by omega)]
   refine ⟨by simp [hp],?_⟩
   simp; omega
 ·rintro ⟨z,b⟩ _
  unfold fx
  dsimp only
  rw [ar]
  rfl
def missK (prio : Int) (x : Ask) : Ask:=if x.Prio = prio then ⟨x.Prio,x.Label,x.Size,x.Count,x.Node,x.Rack,imin (w64 (x.Missed + 1)) 100⟩ else x
def pMiss (l : List Ask) (prio : Int) : List Ask:=l.map (missK prio)
theorem yz {l : List Ask} (h : l.length ≤ 100000) (prio : Int) : gW l prio = some (pMiss l prio):=by
 unfold gW
 rw [ah (by simp; omega) (by omega),At,List.nil_append]
 have key:=aw (σ:=List Ask) (fun t i => (t,i)) l.length (fun k t => t = (l.take k).map (missK prio) ++ l.drop k) (step:=ft prio) (Q:=fun r => r = pMiss l prio) (by omega) ?_ ?_ (s:=l) (by simp)
 ·obtain ⟨r,e,rfl⟩:=key
  rw [e]; rfl
 ·rintro k hk t rfl
  have hlen : ((l.take k).map (missK prio) ++ l.drop k).length = l.length:=by simp; omega
  have hget : ((l.take k).map (missK prio) ++ l.drop k)[k]? = some l[k]:=by
   rw [List.getElem?_append_right (by simp; omega)]
   simp [Nat.min_eq_left (Nat.le_of_lt hk),Au hk]
  have hstep : (l.take (k + 1)).map (missK prio) ++ l.drop (k + 1) = ((l.take k).map (missK prio) ++ l.drop k).set k (missK prio l[k]):=by
   rw [List.set_append_right _ _ (by simp; omega)]
   simp only [List.length_map,List.length_take,Nat.min_eq_left (Nat.le_of_lt hk),Nat.sub_self]
   rw [List.drop_eq_getElem_cons hk,List.set_cons_zero,List.take_succ_eq_append_getElem hk,List.map_append,List.append_assoc]
   rfl
  unfold ft
  dsimp only
  rw [hlen,aj hk,aA hk]
  simp only [cond_true,At,hget]
  refine ad (P:=fun z => z = (l.take (k + 1)).map (missK prio) ++ l.drop (k + 1)) ?_ (fun z hz => aa (.inl ⟨z,rfl,hz⟩))
  rw [hstep]
  unfold missK
  by_cases hp : l[k].Prio = prio
  ·rw [show (l[k].Prio == prio) = true by simpa using hp,if_pos hp]
   exact aa rfl
  ·rw [show (l[k].Prio == prio) = false by simpa using hp,if_neg hp]
   refine aa ?_
   have : ((l.take k).map (missK prio) ++ l.drop k).set k l[k] = (l.take k).map (missK prio) ++ l.drop k:=by
    apply List.ext_getElem?
    intro i
    rw [List.getElem?_set]
    split
    ·rename_i hki
     subst hki
     rw [if_pos (by omega),hget]
    ·rfl
   exact this.symm
 ·rintro t rfl
  have hlen : ((l.take l.length).map (missK prio) ++ l.drop l.length).length = l.length:=by simp
  unfold ft
  dsimp only
  rw [hlen,ar]
  refine aa ⟨_,rfl,?_⟩
  simp [pMiss]
end Go.Fx.D
