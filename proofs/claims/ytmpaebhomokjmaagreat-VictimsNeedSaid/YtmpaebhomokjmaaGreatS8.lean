/-
  The reference manager: what holds of its state after every script. Conditions: none.
-/
import Derived.Test.YtmpaebhomokjmaaGreatS7
namespace Go.Fx.D
open Go Go.Fx
set_option linter.unusedVariables false
set_option linter.unusedSimpArgs false
structure SC (s : State) : Prop where
 b : SB s
 c : ConfOk s.Conf
 n : s.Nodes.length ≤ 100
theorem SC.down_bd {s : State} (h : SC s) {path : Str} (label : Int) (least : Bool) : VB (s.Nodes.length * 1073741824) (pDown s path label least):=by
 unfold pDown
 split
 ·rename_i hh
  refine Hg h.b h.c hh.2.1 hh.2.2 least ?_
  intro p hp
  exact pX h.c path.length path (Nat.le_refl _) hh.1 p (List.dropLast_subset _ (List.mem_reverse.1 hp))
 ·unfold VB; simp; omega
theorem mI {s : State} (h : SC s) {path : Str} (hp : path.length ≤ 1000000) (label : Int) : bg s path label = some (pDown s path label true):=by
 unfold bg; rw [Cy h.b h.c h.n hp]; rfl
theorem yi {s : State} (h : SC s) {path : Str} (hp : path.length ≤ 1000000) (label : Int) : gN s path label = some (pDown s path label false):=by
 unfold gN; rw [Cy h.b h.c h.n hp]; rfl
def pUser (s : State) (path : Str) (label : Int) : Vec:=(pFind s.Conf path).elim ⟨0,0⟩ fun q => gV (pDown s path label true) q.User
theorem CQ {c : Conf} (h : ConfOk c) {p : Str} {q : Queue} (hq : pFind c p = some q) : 1 ≤ q.User ∧ q.User ≤ 1000000:=by
 obtain ⟨hm,_⟩:=mv hq
 obtain ⟨i,hi,rfl⟩:=List.getElem_of_mem hm
 exact (h.q i hi).user
theorem Hu {s : State} (h : SC s) {path : Str} (hp : path.length ≤ 1000000) (label : Int) : kx s path label = some (pUser s path label):=by
 unfold kx pUser
 rw [qR h.b.cf]
 cases hf : pFind s.Conf path with
 | none => rfl
 | some q =>
  have hu:=CQ h.c hf
  have hn:=h.n
  simp only [Option.elim_some,Jw,Bool.not_true,cond_false]
  rw [mI h hp,Jw,(zh ((h.down_bd label true).mono (by omega)) (by omega) hu.2).1]
  rfl
def pDue (s : State) (leaf : Str) (a : Ask) : Bool:=vfits (vplus (pUsed s leaf a.Label true 0) a.Size) (pDown s leaf a.Label true)
theorem EO {s : State} (h : SC s) {leaf : Str} (hp : leaf.length ≤ 1000000) {a : Ask} (ha : VB 1073741824 a.Size) : gR s leaf a = some (pDue s leaf a):=by
 unfold gR pDue
 have hc:=h.b.z.c
 rw [jw h.b,Jw,lS ((xW h.b leaf a.Label true 0).mono (m:=200000000000000000) (by omega)) (ha.mono (by omega)) (by omega),Jw,mI h hp,Jw,lV]
 rfl
def pMore (s : State) (leaf : Str) (label user : Int) : Bool:=vfits (pUsed s leaf label false user) (pUser s leaf label)
theorem Cj {s : State} (h : SC s) {leaf : Str} (hp : leaf.length ≤ 1000000) (label user : Int) : fL s leaf label user = some (pMore s leaf label user):=by
 unfold fL pMore
 rw [BH h.b,Jw,Hu h hp,Jw,lV]
 rfl
def uW (s : State) (label : Int) (size : Vec) (p : Str) : Bool :=
 vfits (vplus (pUsed s p label true 0) size) (pDown s p label false) && (!(p == root) || vfits (vplus (pUsed s p label true 0) size) (vless (iO s label) (pKept s label)))
def pRoom (s : State) (path : Str) (label : Int) (size : Vec) : Bool:=(pUp path).all (uW s label size)
theorem GC {p x : Str} (h : x ∈ pUp p) : x.length ≤ p.length:=by
 generalize hn : p.length = n
 induction n using Nat.strongRecOn generalizing p with
 | _ n ih =>
  by_cases hp : p = []
  ·subst hp; simp [mU] at h
  ·rw [ls hp] at h
   rcases List.mem_cons.1 h with rfl | h
   ·omega
   ·have:=fh hp
    have:=ih _ (by omega) h rfl
    omega
theorem AX {α : Type} (l : List α) (p : α → Bool) : (l.find? fun x => !(p x)).isNone = l.all p:=by
 rw [Bool.eq_iff_iff,List.all_eq_true,Option.isNone_iff_eq_none,List.find?_eq_none]
 simp
theorem B3 {s : State} (h : SC s) {path : Str} (hp : path.length ≤ 1000000) (label : Int) {size : Vec} (hs : VB 1073741824 size) : fN s path label size = some (pRoom s path label size):=by
 unfold fN pRoom
 have hl:=vr path
 have hc:=h.b.z.c
 have hpl:=h.b.z.p
 have hn:=h.n
 rw [Dr hp,Jw]
 have st : ∀ k (hk : k < (pUp path).length),dn s label size (pUp path) (k : Int) = some (bif uW s label size (pUp path)[k] then .inl (w64 ((k : Int) + 1)) else .inr (.inl false)):=by
  intro k hk
  unfold dn uW
  rw [aj hk,aM hk]
  simp only [cond_true,Jw,Jx hk]
  have hx : (pUp path)[k].length ≤ 1000000:=by have:=GC (List.getElem_mem hk); omega
  rw [jw h.b,Jw,lS ((xW h.b _ label true 0).mono (m:=200000000000000000) (by omega)) (hs.mono (by omega)) (by omega),Jw,yi h hx,Jw,lV,Jw]
  have hV:=h.b
  generalize vplus (pUsed s (pUp path)[k] label true 0) size = V
  generalize vfits V (pDown s (pUp path)[k] label false) = b1
  cases b1 with
  | false => rfl
  | true =>
   simp only [Bool.not_true,cond_false,Bool.true_and]
   rw [pL hV,HC hV]
   simp only [Jw]
   rw [CE ((pF hV label).mono (by omega)) ((Il hV label).mono (by omega))]
   simp only [Jw,lV]
   rcases Bool.eq_false_or_eq_true ((pUp path)[k] == root) with hr | hr
   ·simp only [hr,cond_true,Jw,Bool.not_true,Bool.false_or]
    cases vfits V (vless (iO s label) (pKept s label)) <;> rfl
   ·simp only [hr,cond_false,Jw,Bool.not_false,Bool.true_or,cond_true]
 have e:=d6 (fun i => i) (pUp path) (fun x => !(uW s label size x)) (fun q => (.inl false : Bool ⊕ Unit)) (.inr ()) (step:=dn s label size (pUp path)) (by omega) ?_ ?_ ?_
 ·rw [e,← AX]
  cases (pUp path).find? fun x => !(uW s label size x) <;> rfl
 ·intro k hk hf
  rw [st k hk]
  simp only [Bool.not_eq_false'] at hf
  rw [hf]; rfl
 ·intro k hk hf
  rw [st k hk]
  simp only [Bool.not_eq_true'] at hf
  rw [hf]; rfl
 ·unfold dn
  rw [ar]
  rfl
def noK : Ask:=⟨0,0,⟨0,0⟩,0,0,0,0⟩
def askAt (l : List Ask) (prio : Int) : Option Ask:=l.find? fun x => x.Prio == prio
theorem Ea {l : List Ask} (h : l.length ≤ 100000) (prio : Int) : lu l prio = some ((askAt l prio).elim (noK,false) fun x => (x,true)):=by
 unfold lu
 have e:=d6 (fun i => (noK,i)) l (fun q => q.Prio == prio) (fun q => .inl (q,true)) (.inr noK) (step:=eA l prio) (by omega) ?_ ?_ ?_
 ·unfold noK at e
  rw [e]
  unfold askAt noK
  cases l.find? fun q => q.Prio == prio <;> rfl
 ·intro k hk hp
  unfold eA
  rw [aj hk,ai hk]
  simp only [cond_true,Jw,hp,cond_false]
 ·intro k hk hp
  unfold eA
  rw [aj hk,ai hk]
  simp only [cond_true,Jw,hp]
 ·unfold eA
  rw [ar]
  rfl
def takeK (prio : Int) (x : Ask) : Option Ask:=if x.Prio = prio then (if x.Count - 1 ≤ 0 then none else some ⟨x.Prio,x.Label,x.Size,x.Count - 1,x.Node,x.Rack,0⟩) else some x
def pTake (l : List Ask) (prio : Int) : List Ask:=l.filterMap (takeK prio)
theorem HR {l : List Ask} (h : l.length ≤ 100000) (hc : ∀ x ∈ l,0 ≤ x.Count ∧ x.Count ≤ 1000000) (prio : Int) : Gv (kt l prio) fun r => r.1 = pTake l prio:=by
 unfold kt
 have e:=fE (σ:=List Ask × Bool) (fun t i => (t.1,t.2,i)) l (fun t x => (t.1 ++ (takeK prio x).toList,if x.Prio = prio then true else t.2)) (fun k t => t.1.length ≤ k) (fun t => t) (step:=g9 l prio) (by omega) ?_ ?_ (s:=([],false)) (by simp)
 ·rw [e.1]
  refine aa ?_
  dsimp only
  have key : ∀ (l : List Ask) (z : List Ask × Bool),(l.foldl (fun t x => (t.1 ++ (takeK prio x).toList,if x.Prio = prio then true else t.2)) z).1 = z.1 ++ pTake l prio:=by
   intro l
   induction l with
   | nil => simp [pTake]
   | cons x l ih =>
    intro z
    rw [List.foldl_cons,ih]
    unfold pTake
    rw [List.filterMap_cons]
    cases takeK prio x <;> simp
  rw [key]; simp
 ·rintro k hk ⟨z,b⟩ hz
  dsimp only at hz
  have hcx:=hc _ (List.getElem_mem hk)
  unfold g9 takeK
  dsimp only
  rw [aj hk,ai hk]
  simp only [cond_true,Jw]
  rw [ao (x:=l[k].Count - 1) (by omega) (by omega)]
  by_cases hp : l[k].Prio = prio
  ·rw [show (l[k].Prio == prio) = true by simpa using hp,if_pos hp]
   simp only [cond_true]
   by_cases hn : l[k].Count - 1 ≤ 0
   ·rw [decide_eq_true hn,if_pos hn]
    refine ⟨by simp [hp],?_⟩
    simp; omega
   ·rw [decide_eq_false hn,if_neg hn]
    simp only [cond_false,Jw]
    rw [am (by simp; omega) (by omega)]
    refine ⟨by simp [hp],?_⟩
    simp; omega
  ·rw [show (l[k].Prio == prio) = false by simpa using hp,if_neg hp]
   simp only [cond_false,Jw]
   rw [am (by simp; omega) (by omega)]
   refine ⟨by simp [hp],?_⟩
   simp; omega
 ·rintro ⟨z,b⟩ _
  unfold g9
  dsimp only
  rw [ar]
  rfl
def missK (prio : Int) (x : Ask) : Ask:=if x.Prio = prio then ⟨x.Prio,x.Label,x.Size,x.Count,x.Node,x.Rack,imin (w64 (x.Missed + 1)) 100⟩ else x
def pMiss (l : List Ask) (prio : Int) : List Ask:=l.map (missK prio)
theorem Hy {l : List Ask} (h : l.length ≤ 100000) (prio : Int) : kD l prio = some (pMiss l prio):=by
 unfold kD
 rw [am (by simp; omega) (by omega),Jw,List.nil_append]
 have key:=aG (σ:=List Ask) (fun t i => (t,i)) l.length (fun k t => t = (l.take k).map (missK prio) ++ l.drop k) (step:=ic prio) (Q:=fun r => r = pMiss l prio) (by omega) ?_ ?_ (s:=l) (by simp)
 ·obtain ⟨r,e,rfl⟩:=key
  rw [e]; rfl
 ·rintro k hk t rfl
  have hlen : ((l.take k).map (missK prio) ++ l.drop k).length = l.length:=by simp; omega
  have hget : ((l.take k).map (missK prio) ++ l.drop k)[k]? = some l[k]:=by
   rw [List.getElem?_append_right (by simp; omega)]
   simp [Nat.min_eq_left (Nat.le_of_lt hk),Jx hk]
  have hstep : (l.take (k + 1)).map (missK prio) ++ l.drop (k + 1) = ((l.take k).map (missK prio) ++ l.drop k).set k (missK prio l[k]):=by
   rw [List.set_append_right _ _ (by simp; omega)]
   simp only [List.length_map,List.length_take,Nat.min_eq_left (Nat.le_of_lt hk),Nat.sub_self]
   rw [List.drop_eq_getElem_cons hk,List.set_cons_zero,List.take_succ_eq_append_getElem hk,List.map_append,List.append_assoc]
   rfl
  unfold ic
  dsimp only
  rw [hlen,aj hk,aM hk]
  simp only [cond_true,Jw,hget]
  refine ad (P:=fun z => z = (l.take (k + 1)).map (missK prio) ++ l.drop (k + 1)) ?_ (fun z hz => aa (.inl ⟨z,rfl,hz⟩))
  rw [hstep]
  unfold missK
  by_cases hp : l[k].Prio = prio
  ·rw [show (l[k].Prio == prio) = true by simpa using hp,if_pos hp]
   exact aa rfl
  ·rw [show (l[k].Prio == prio) = false by simpa using hp,if_neg hp]
   refine aa ?_
   have : ((l.take k).map (missK prio) ++ l.drop k).set k l[k] = (l.take k).map (missK prio) ++ l.drop k:=by
    apply List.ext_getElem?
    intro i
    rw [List.getElem?_set]
    split
    ·rename_i hki
     subst hki
     rw [if_pos (by omega),hget]
    ·rfl
   exact this.symm
 ·rintro t rfl
  have hlen : ((l.take l.length).map (missK prio) ++ l.drop l.length).length = l.length:=by simp
  unfold ic
  dsimp only
  rw [hlen,ar]
  refine aa ⟨_,rfl,?_⟩
  simp [pMiss]
end Go.Fx.D
