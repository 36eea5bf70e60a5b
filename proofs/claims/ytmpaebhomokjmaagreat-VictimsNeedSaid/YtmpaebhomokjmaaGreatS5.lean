/-
  The reference manager: what holds of its state after every script. Conditions: none.
-/
import Derived.Test.YtmpaebhomokjmaaGreatS4
namespace Go.Fx.D
open Go Go.Fx
set_option linter.unusedVariables false
set_option linter.unusedSimpArgs false
structure SSmall (s : State) : Prop where
 n : s.Nodes.length ≤ 100000
 a : s.Apps.length ≤ 100000
 c : s.Conts.length ≤ 100000
 l : s.Slots.length ≤ 100000
 p : s.Plans.length ≤ 100000
def noN : Node:=⟨0,0,0,⟨0,0⟩,0,0,false⟩
def noA : App:=⟨0,0,[],0,0,⟨0,0⟩,[],0,0,[],[],[],[]⟩
def noC : Cont:=⟨0,0,0,⟨0,0⟩,0,0,false,0⟩
def oX (s : State) (i : Int) : Option Node:=s.Nodes.find? fun x => x.Id == i
def appAt (s : State) (i : Int) : Option App:=s.Apps.find? fun x => x.Id == i
def sL (s : State) (i : Int) : Option Cont:=s.Conts.find? fun x => x.Id == i
theorem lU {s : State} (h : SSmall s) (i : Int) : bC s i = some ((oX s i).elim (noN,false) fun x => (x,true)):=by
 unfold bC
 have e:=d6 (fun i => (noN,i)) s.Nodes (fun q => q.Id == i) (fun q => .inl (q,true)) (.inr noN) (step:=dH s i) (by have:=h.n; omega) ?_ ?_ ?_
 ·unfold noN at e
  rw [e]
  unfold oX noN
  cases s.Nodes.find? fun q => q.Id == i <;> rfl
 ·intro k hk hp
  unfold dH
  rw [aj hk,ai hk]
  simp only [cond_true,Jw,hp,cond_false]
 ·intro k hk hp
  unfold dH
  rw [aj hk,ai hk]
  simp only [cond_true,Jw,hp]
 ·unfold dH
  rw [ar]
  rfl
theorem dV {s : State} (h : SSmall s) (i : Int) : aO s i = some ((appAt s i).elim (noA,false) fun x => (x,true)):=by
 unfold aO
 have e:=d6 (fun i => (noA,i)) s.Apps (fun q => q.Id == i) (fun q => .inl (q,true)) (.inr noA) (step:=db s i) (by have:=h.a; omega) ?_ ?_ ?_
 ·unfold noA at e
  rw [e]
  unfold appAt noA
  cases s.Apps.find? fun q => q.Id == i <;> rfl
 ·intro k hk hp
  unfold db
  rw [aj hk,ai hk]
  simp only [cond_true,Jw,hp,cond_false]
 ·intro k hk hp
  unfold db
  rw [aj hk,ai hk]
  simp only [cond_true,Jw,hp]
 ·unfold db
  rw [ar]
  rfl
theorem kh {s : State} (h : SSmall s) (i : Int) : a7 s i = some ((sL s i).elim (noC,false) fun x => (x,true)):=by
 unfold a7
 have e:=d6 (fun i => (noC,i)) s.Conts (fun q => q.Id == i) (fun q => .inl (q,true)) (.inr noC) (step:=df s i) (by have:=h.c; omega) ?_ ?_ ?_
 ·unfold noC at e
  rw [e]
  unfold sL noC
  cases s.Conts.find? fun q => q.Id == i <;> rfl
 ·intro k hk hp
  unfold df
  rw [aj hk,ai hk]
  simp only [cond_true,Jw,hp,cond_false]
 ·intro k hk hp
  unfold df
  rw [aj hk,ai hk]
  simp only [cond_true,Jw,hp]
 ·unfold df
  rw [ar]
  rfl
theorem Dg {s : State} (h : SSmall s) (i : Int) : eW s i = some ((s.Conts.filter fun c => c.Node == i).map (·.Id)):=by
 unfold eW
 have hc:=h.c
 have e:=bS (fun (l : List Int) i => (l,i)) s.Conts (fun c => c.Node == i) (·.Id) (step:=je s i) (by omega) ?_ ?_
 ·rw [e]; rfl
 ·intro k hk l hl
  unfold je
  rw [aj hk,ai hk]
  simp only [cond_true,Jw]
  cases hp : (s.Conts[k].Node == i) <;> simp only [cond_true,cond_false,Jw,if_true]
  ·rfl
  ·rw [am (by simp; omega) (by omega)]; rfl
 ·intro l
  unfold je
  rw [ar]
  rfl
def pAway (s : State) (i : Int) : State:=⟨s.Conf,s.Nodes,s.Apps,s.Conts.filter fun c => c.Id != i,s.Slots,s.Plans,s.Now,s.Epoch,s.Seq⟩
theorem Ce {s : State} (h : SSmall s) (i : Int) : dh s i = some (pAway s i):=by
 unfold dh
 have hc:=h.c
 have e:=bS (fun (l : List Cont) i => (l,i)) s.Conts (fun c => c.Id != i) id (step:=gw s i) (by omega) ?_ ?_
 ·rw [e,List.map_id]; rfl
 ·intro k hk l hl
  unfold gw
  rw [aj hk,ai hk]
  simp only [cond_true,Jw]
  cases hp : (s.Conts[k].Id != i) <;> simp only [cond_true,cond_false,Jw,if_true]
  ·rfl
  ·rw [am (by simp; omega) (by omega)]; rfl
 ·intro l
  unfold gw
  rw [ar]
  rfl
theorem xe {l : List Int} (h : l.length ≤ 10000000) (i : Int) : b9 l i = some (l.filter fun x => x != i,decide ((l.filter fun x => x != i).length < l.length)):=by
 unfold b9
 have e:=bS (fun (l : List Int) i => (l,i)) l (fun c => c != i) id (step:=dJ l i) (by omega) ?_ ?_
 ·rw [e,List.map_id]
  simp only [Jw]
  congr 2
  rw [decide_eq_decide]; omega
 ·intro k hk z hz
  unfold dJ
  rw [aj hk,ai hk]
  simp only [cond_true,Jw]
  cases hp : (l[k] != i) <;> simp only [cond_true,cond_false,Jw,if_true]
  ·rfl
  ·rw [am (by simp; omega) (by omega)]; rfl
 ·intro z
  unfold dJ
  rw [ar]
  rfl
def pShed (s : State) (i : Int) : State:=⟨s.Conf,s.Nodes,s.Apps,s.Conts.filter fun c => !(c.App == i),s.Slots.filter fun x => x.App != i,s.Plans,s.Now,s.Epoch,s.Seq⟩
theorem Cm {s : State} (h : SSmall s) (i : Int) : dm s i = some (pShed s i,(s.Conts.filter fun c => c.App == i).map (·.Id)):=by
 unfold dm
 have hc:=h.c
 have hl:=h.l
 have e1:=(fE (σ:=List Cont × List Int) (fun t i => (t.1,t.2,i)) s.Conts (fun t c => (if !(c.App == i) then t.1 ++ [c] else t.1,if c.App == i then t.2 ++ [c.Id] else t.2)) (fun k t => t.1.length ≤ k ∧ t.2.length ≤ k) (fun t => t) (step:=gq s i) (by omega) ?_ ?_ (s:=([],[])) (by simp)).1
 ·have e2:=bS (fun (l : List Slot) i => (l,i)) s.Slots (fun x => x.App != i) id (step:=fU s i) (by omega) ?_ ?_
  ·rw [e1,e2,List.map_id]
   have hf : ∀ (l : List Cont) (a : List Cont) (b : List Int),l.foldl (fun (t : List Cont × List Int) c => (if !(c.App == i) then t.1 ++ [c] else t.1,if c.App == i then t.2 ++ [c.Id] else t.2)) (a,b) = (a ++ l.filter fun c => !(c.App == i),b ++ (l.filter fun c => c.App == i).map (·.Id)):=by
    intro l
    induction l with
    | nil => simp
    | cons c l ih =>
     intro a b
     rw [List.foldl_cons,ih]
     cases hh : (c.App == i) <;> simp [hh]
   rw [hf]
   rfl
  ·intro k hk z hz
   unfold fU
   rw [aj hk,ai hk]
   simp only [cond_true,Jw]
   cases hp : (s.Slots[k].App != i) <;> simp only [cond_true,cond_false,Jw,if_true]
   ·rfl
   ·rw [am (by simp; omega) (by omega)]; rfl
  ·intro z
   unfold fU
   rw [ar]
   rfl
 ·rintro k hk ⟨a,b⟩ ⟨h1,h2⟩
  dsimp only at h1 h2
  unfold gq
  dsimp only
  rw [aj hk,ai hk]
  simp only [cond_true,Jw]
  cases hp : (s.Conts[k].App == i) <;> simp only [cond_true,cond_false,Jw,if_true,Bool.not_false,Bool.not_true]
  ·rw [am (by simp; omega) (by omega)]
   exact ⟨rfl,by simp; omega,by simp; omega⟩
  ·rw [am (by simp; omega) (by omega)]
   exact ⟨rfl,by simp; omega,by simp; omega⟩
 ·rintro ⟨a,b⟩ _
  unfold gq
  dsimp only
  rw [ar]
  rfl
theorem o0 {α : Type} (p : α → Bool) (l : List α) : l.take (l.takeWhile p).length = l.takeWhile p ∧ l.drop (l.takeWhile p).length = l.dropWhile p:=by
 induction l with
 | nil => simp
 | cons a l ih =>
  by_cases h : p a = true
  ·rw [List.takeWhile_cons_of_pos h,List.dropWhile_cons_of_pos h]; simp [ih.1,ih.2]
  ·rw [List.takeWhile_cons_of_neg h,List.dropWhile_cons_of_neg h]; simp
theorem mM {α : Type} (p : α → Bool) (l : List α) : (l.takeWhile p).length ≤ l.length:=(List.takeWhile_sublist p).length_le
theorem CD {α : Type} {id : α → Int} {b : Nat} (hb : b ≤ 1000) {l : List α} (hn : l.length ≤ 1000000) {a : α} {k1 : Int} (hk : k1 = ((l.takeWhile fun x => decide (id x < id a)).length : Int)) {β : Type} (f : List α → Option β) :
  ((slc l 0 k1).bind fun x => (app b [] x).bind fun l1 => (app b l1 [a]).bind fun l2 =>
   ((bif decide (k1 < (l.length : Int)) then (idx l k1).bind fun x1 => some (id x1 == id a) else some false).bind fun q1 => bif q1 then some (w64 (k1 + 1)) else some k1).bind fun k2 =>
   (slc l k2 (l.length : Int)).bind fun l3 => (app b l2 l3).bind f) = f (putG id l a):=by
 have hle:=mM (fun x => decide (id x < id a)) l
 have ht:=o0 (fun x => decide (id x < id a)) l
 subst hk
 unfold putG
 generalize hA : l.takeWhile (fun x => decide (id x < id a)) = A at hle ht ⊢
 have s1 : slc l 0 (A.length : Int) = some A:=by
  unfold slc
  rw [if_pos ⟨by omega,by omega,by omega⟩,Int.toNat_natCast,ht.1]; rfl
 rw [s1,Jw,am (by simp; omega) hb,Jw,List.nil_append,am (by simp; omega) hb,Jw]
 have s2 : ∀ k : Nat,k ≤ l.length → slc l (k : Int) (l.length : Int) = some (l.drop k):=by
  intro k hk
  unfold slc
  rw [if_pos ⟨by omega,by omega,by omega⟩,Int.toNat_natCast,Int.toNat_natCast,List.take_length]
 by_cases hlt : A.length < l.length
 ·rw [decide_eq_true (by omega),ai hlt]
  simp only [cond_true,Jw]
  have hd : l.dropWhile (fun x => decide (id x < id a)) = l[A.length] :: l.drop (A.length + 1):=by rw [← ht.2,List.drop_eq_getElem_cons hlt]
  rw [hd]
  dsimp only
  by_cases he : id l[A.length] = id a
  ·rw [if_pos he,show (id l[A.length] == id a) = true by simpa using he]
   simp only [cond_true,Jw]
   rw [xH (by omega),s2 _ hlt,Jw,am (by simp; omega) hb,Jw]
   simp
  ·rw [if_neg he,show (id l[A.length] == id a) = false by simpa using he]
   simp only [cond_false,Jw]
   rw [s2 _ (by omega),Jw,am (by simp; omega) hb,Jw,List.drop_eq_getElem_cons hlt]
   simp
 ·have hA2 : A.length = l.length:=by omega
  rw [decide_eq_false (by omega)]
  simp only [cond_false,Jw]
  have hd : l.dropWhile (fun x => decide (id x < id a)) = []:=by rw [← ht.2,hA2,List.drop_length]
  rw [hd,s2 _ hle,Jw,hA2,List.drop_length,am (by simp; omega) hb,Jw]
  simp
def pPutN (s : State) (n : Node) : State:=⟨s.Conf,putG (·.Id) s.Nodes n,s.Apps,s.Conts,s.Slots,s.Plans,s.Now,s.Epoch,s.Seq⟩
def pPutA (s : State) (a : App) : State:=⟨s.Conf,s.Nodes,putG (·.Id) s.Apps a,s.Conts,s.Slots,s.Plans,s.Now,s.Epoch,s.Seq⟩
theorem vH {s : State} (h : SSmall s) (n : Node) : eO s n = some (pPutN s n):=by
 unfold eO
 have hn:=h.n
 have e:=jz s.Nodes (fun x => decide (x.Id < n.Id)) (step:=jc s n) (by omega) ?_ ?_
 ·rw [e,Jw]
  exact CD (id:=fun x : Node => x.Id) (by omega) (by omega) rfl (fun l4 => some (⟨s.Conf,l4,s.Apps,s.Conts,s.Slots,s.Plans,s.Now,s.Epoch,s.Seq⟩ : State))
 ·intro k hk
  unfold jc
  rw [aj hk,ai hk]
  simp only [cond_true,Jw]
  cases decide (s.Nodes[k].Id < n.Id) <;> rfl
 ·unfold jc
  rw [ar]
  rfl
theorem Bc {s : State} (hn : s.Apps.length ≤ 100000) (a : App) : aS s a = some (pPutA s a):=by
 unfold aS
 have e:=jz s.Apps (fun x => decide (x.Id < a.Id)) (step:=ii s a) (by omega) ?_ ?_
 ·rw [e,Jw]
  exact CD (id:=fun x : App => x.Id) (by omega) (by omega) rfl (fun l4 => some (⟨s.Conf,s.Nodes,l4,s.Conts,s.Slots,s.Plans,s.Now,s.Epoch,s.Seq⟩ : State))
 ·intro k hk
  unfold ii
  rw [aj hk,ai hk]
  simp only [cond_true,Jw]
  cases decide (s.Apps[k].Id < a.Id) <;> rfl
 ·unfold ii
  rw [ar]
  rfl
theorem qS {s : State} (h : SSmall s) (a : App) : aS s a = some (pPutA s a):=Bc h.a a
end Go.Fx.D
