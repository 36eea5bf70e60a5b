/-
  The reference manager: what holds of its state after every script. Conditions: none.
-/
import Derived.Test.YteodpoelbdakgaaGreatS4
namespace Go.Fx.D
open Go Go.Fx
set_option linter.unusedVariables false
set_option linter.unusedSimpArgs false
structure SSmall (s : State) : Prop where
 n : s.Nodes.length ≤ 100000
 a : s.Apps.length ≤ 100000
 c : s.Conts.length ≤ 100000
 l : s.Slots.length ≤ 100000
 p : s.Plans.length ≤ 100000
def noN : Node:=⟨0,0,0,⟨0,0⟩,0,0,false⟩
def noA : App:=⟨0,0,[],0,0,⟨0,0⟩,[],0,0,[],[],[],[]⟩
def noC : Cont:=⟨0,0,0,⟨0,0⟩,0,0,false,0⟩
def cz (s : State) (i : Int) : Option Node:=s.Nodes.find? fun x => x.Id == i
def appAt (s : State) (i : Int) : Option App:=s.Apps.find? fun x => x.Id == i
def oY (s : State) (i : Int) : Option Cont:=s.Conts.find? fun x => x.Id == i
theorem bR {s : State} (h : SSmall s) (i : Int) : aX s i = some ((cz s i).elim (noN,false) fun x => (x,true)):=by
 unfold aX
 have e:=cI (fun i => (noN,i)) s.Nodes (fun q => q.Id == i) (fun q => .inl (q,true)) (.inr noN) (step:=c6 s i) (by have:=h.n; omega) ?_ ?_ ?_
 ·unfold noN at e
  rw [e]
  unfold cz noN
  cases s.Nodes.find? fun q => q.Id == i <;> rfl
 ·intro k hk hp
  unfold c6
  rw [ah hk,ai hk]
  simp only [cond_true,Gp,hp,cond_false]
 ·intro k hk hp
  unfold c6
  rw [ah hk,ai hk]
  simp only [cond_true,Gp,hp]
 ·unfold c6
  rw [ao]
  rfl
theorem aT {s : State} (h : SSmall s) (i : Int) : aC s i = some ((appAt s i).elim (noA,false) fun x => (x,true)):=by
 unfold aC
 have e:=cI (fun i => (noA,i)) s.Apps (fun q => q.Id == i) (fun q => .inl (q,true)) (.inr noA) (step:=cQ s i) (by have:=h.a; omega) ?_ ?_ ?_
 ·unfold noA at e
  rw [e]
  unfold appAt noA
  cases s.Apps.find? fun q => q.Id == i <;> rfl
 ·intro k hk hp
  unfold cQ
  rw [ah hk,ai hk]
  simp only [cond_true,Gp,hp,cond_false]
 ·intro k hk hp
  unfold cQ
  rw [ah hk,ai hk]
  simp only [cond_true,Gp,hp]
 ·unfold cQ
  rw [ao]
  rfl
theorem kv {s : State} (h : SSmall s) (i : Int) : aY s i = some ((oY s i).elim (noC,false) fun x => (x,true)):=by
 unfold aY
 have e:=cI (fun i => (noC,i)) s.Conts (fun q => q.Id == i) (fun q => .inl (q,true)) (.inr noC) (step:=cJ s i) (by have:=h.c; omega) ?_ ?_ ?_
 ·unfold noC at e
  rw [e]
  unfold oY noC
  cases s.Conts.find? fun q => q.Id == i <;> rfl
 ·intro k hk hp
  unfold cJ
  rw [ah hk,ai hk]
  simp only [cond_true,Gp,hp,cond_false]
 ·intro k hk hp
  unfold cJ
  rw [ah hk,ai hk]
  simp only [cond_true,Gp,hp]
 ·unfold cJ
  rw [ao]
  rfl
theorem AO {s : State} (h : SSmall s) (i : Int) : eD s i = some ((s.Conts.filter fun c => c.Node == i).map (·.Id)):=by
 unfold eD
 have hc:=h.c
 have e:=bb (fun (l : List Int) i => (l,i)) s.Conts (fun c => c.Node == i) (·.Id) (step:=iA s i) (by omega) ?_ ?_
 ·rw [e]; rfl
 ·intro k hk l hl
  unfold iA
  rw [ah hk,ai hk]
  simp only [cond_true,Gp]
  cases hp : (s.Conts[k].Node == i) <;> simp only [cond_true,cond_false,Gp,if_true]
  ·rfl
  ·rw [am (by simp; omega) (by omega)]; rfl
 ·intro l
  unfold iA
  rw [ao]
  rfl
def pAway (s : State) (i : Int) : State:=⟨s.Conf,s.Nodes,s.Apps,s.Conts.filter fun c => c.Id != i,s.Slots,s.Plans,s.Now,s.Epoch,s.Seq⟩
theorem yF {s : State} (h : SSmall s) (i : Int) : cM s i = some (pAway s i):=by
 unfold cM
 have hc:=h.c
 have e:=bb (fun (l : List Cont) i => (l,i)) s.Conts (fun c => c.Id != i) id (step:=fD s i) (by omega) ?_ ?_
 ·rw [e,List.map_id]; rfl
 ·intro k hk l hl
  unfold fD
  rw [ah hk,ai hk]
  simp only [cond_true,Gp]
  cases hp : (s.Conts[k].Id != i) <;> simp only [cond_true,cond_false,Gp,if_true]
  ·rfl
  ·rw [am (by simp; omega) (by omega)]; rfl
 ·intro l
  unfold fD
  rw [ao]
  rfl
theorem tF {l : List Int} (h : l.length ≤ 10000000) (i : Int) : bJ l i = some (l.filter fun x => x != i,decide ((l.filter fun x => x != i).length < l.length)):=by
 unfold bJ
 have e:=bb (fun (l : List Int) i => (l,i)) l (fun c => c != i) id (step:=du l i) (by omega) ?_ ?_
 ·rw [e,List.map_id]
  simp only [Gp]
  congr 2
  rw [decide_eq_decide]; omega
 ·intro k hk z hz
  unfold du
  rw [ah hk,ai hk]
  simp only [cond_true,Gp]
  cases hp : (l[k] != i) <;> simp only [cond_true,cond_false,Gp,if_true]
  ·rfl
  ·rw [am (by simp; omega) (by omega)]; rfl
 ·intro z
  unfold du
  rw [ao]
  rfl
def pShed (s : State) (i : Int) : State:=⟨s.Conf,s.Nodes,s.Apps,s.Conts.filter fun c => !(c.App == i),s.Slots.filter fun x => x.App != i,s.Plans,s.Now,s.Epoch,s.Seq⟩
theorem zy {s : State} (h : SSmall s) (i : Int) : cE s i = some (pShed s i,(s.Conts.filter fun c => c.App == i).map (·.Id)):=by
 unfold cE
 have hc:=h.c
 have hl:=h.l
 have e1:=(dD (σ:=List Cont × List Int) (fun t i => (t.1,t.2,i)) s.Conts (fun t c => (if !(c.App == i) then t.1 ++ [c] else t.1,if c.App == i then t.2 ++ [c.Id] else t.2)) (fun k t => t.1.length ≤ k ∧ t.2.length ≤ k) (fun t => t) (step:=fZ s i) (by omega) ?_ ?_ (s:=([],[])) (by simp)).1
 ·have e2:=bb (fun (l : List Slot) i => (l,i)) s.Slots (fun x => x.App != i) id (step:=fq s i) (by omega) ?_ ?_
  ·rw [e1,e2,List.map_id]
   have hf : ∀ (l : List Cont) (a : List Cont) (b : List Int),l.foldl (fun (t : List Cont × List Int) c => (if !(c.App == i) then t.1 ++ [c] else t.1,if c.App == i then t.2 ++ [c.Id] else t.2)) (a,b) = (a ++ l.filter fun c => !(c.App == i),b ++ (l.filter fun c => c.App == i).map (·.Id)):=by
    intro l
    induction l with
    | nil => simp
    | cons c l ih =>
     intro a b
     rw [List.foldl_cons,ih]
     cases hh : (c.App == i) <;> simp [hh]
   rw [hf]
   rfl
  ·intro k hk z hz
   unfold fq
   rw [ah hk,ai hk]
   simp only [cond_true,Gp]
   cases hp : (s.Slots[k].App != i) <;> simp only [cond_true,cond_false,Gp,if_true]
   ·rfl
   ·rw [am (by simp; omega) (by omega)]; rfl
  ·intro z
   unfold fq
   rw [ao]
   rfl
 ·rintro k hk ⟨a,b⟩ ⟨h1,h2⟩
  dsimp only at h1 h2
  unfold fZ
  dsimp only
  rw [ah hk,ai hk]
  simp only [cond_true,Gp]
  cases hp : (s.Conts[k].App == i) <;> simp only [cond_true,cond_false,Gp,if_true,Bool.not_false,Bool.not_true]
  ·rw [am (by simp; omega) (by omega)]
   exact ⟨rfl,by simp; omega,by simp; omega⟩
  ·rw [am (by simp; omega) (by omega)]
   exact ⟨rfl,by simp; omega,by simp; omega⟩
 ·rintro ⟨a,b⟩ _
  unfold fZ
  dsimp only
  rw [ao]
  rfl
theorem kR {α : Type} (p : α → Bool) (l : List α) : l.take (l.takeWhile p).length = l.takeWhile p ∧ l.drop (l.takeWhile p).length = l.dropWhile p:=by
 induction l with
 | nil => simp
 | cons a l ih =>
  by_cases h : p a = true
  ·rw [List.takeWhile_cons_of_pos h,List.dropWhile_cons_of_pos h]; simp [ih.1,ih.2]
  ·rw [List.takeWhile_cons_of_neg h,List.dropWhile_cons_of_neg h]; simp
theorem jP {α : Type} (p : α → Bool) (l : List α) : (l.takeWhile p).length ≤ l.length:=(List.takeWhile_sublist p).length_le
theorem zp {α : Type} {id : α → Int} {b : Nat} (hb : b ≤ 1000) {l : List α} (hn : l.length ≤ 1000000) {a : α} {k1 : Int} (hk : k1 = ((l.takeWhile fun x => decide (id x < id a)).length : Int)) {β : Type} (f : List α → Option β) :
  ((slc l 0 k1).bind fun x => (app b [] x).bind fun l1 => (app b l1 [a]).bind fun l2 =>
   ((bif decide (k1 < (l.length : Int)) then (idx l k1).bind fun x1 => some (id x1 == id a) else some false).bind fun q1 => bif q1 then some (w64 (k1 + 1)) else some k1).bind fun k2 =>
   (slc l k2 (l.length : Int)).bind fun l3 => (app b l2 l3).bind f) = f (putG id l a):=by
 have hle:=jP (fun x => decide (id x < id a)) l
 have ht:=kR (fun x => decide (id x < id a)) l
 subst hk
 unfold putG
 generalize hA : l.takeWhile (fun x => decide (id x < id a)) = A at hle ht ⊢
 have s1 : slc l 0 (A.length : Int) = some A:=by
  unfold slc
  rw [if_pos ⟨by omega,by omega,by omega⟩,Int.toNat_natCast,ht.1]; rfl
 rw [s1,Gp,am (by simp; omega) hb,Gp,List.nil_append,am (by simp; omega) hb,Gp]
 have s2 : ∀ k : Nat,k ≤ l.length → slc l (k : Int) (l.length : Int) = some (l.drop k):=by
  intro k hk
  unfold slc
  rw [if_pos ⟨by omega,by omega,by omega⟩,Int.toNat_natCast,Int.toNat_natCast,List.take_length]
 by_cases hlt : A.length < l.length
 ·rw [decide_eq_true (by omega),ai hlt]
  simp only [cond_true,Gp]
  have hd : l.dropWhile (fun x => decide (id x < id a)) = l[A.length] :: l.drop (A.length + 1):=by rw [← ht.2,List.drop_eq_getElem_cons hlt]
  rw [hd]
  dsimp only
  by_cases he : id l[A.length] = id a
  ·rw [if_pos he,show (id l[A.length] == id a) = true by simpa using he]
   simp only [cond_true,Gp]
   rw [uS (by omega),s2 _ hlt,Gp,am (by simp; omega) hb,Gp]
   simp
  ·rw [if_neg he,show (id l[A.length] == id a) = false by simpa using he]
   simp only [cond_false,Gp]
   rw [s2 _ (by omega),Gp,am (by simp; omega) hb,Gp,List.drop_eq_getElem_cons hlt]
   simp
 ·have hA2 : A.length = l.length:=by omega
  rw [decide_eq_false (by omega)]
  simp only [cond_false,Gp]
  have hd : l.dropWhile (fun x => decide (id x < id a)) = []:=by rw [← ht.2,hA2,List.drop_length]
  rw [hd,s2 _ hle,Gp,hA2,List.drop_length,am (by simp; omega) hb,Gp]
  simp
def pPutN (s : State) (n : Node) : State:=⟨s.Conf,putG (·.Id) s.Nodes n,s.Apps,s.Conts,s.Slots,s.Plans,s.Now,s.Epoch,s.Seq⟩
def pPutA (s : State) (a : App) : State:=⟨s.Conf,s.Nodes,putG (·.Id) s.Apps a,s.Conts,s.Slots,s.Plans,s.Now,s.Epoch,s.Seq⟩
theorem EW {α : Type} (l : List α) (k : Int) : idx l k = (inb k l.length).bind fun i => l[i]?:=by
 unfold idx inb
 by_cases h : 0 ≤ k
 ·rw [if_pos h]
  by_cases h2 : k.toNat < l.length
  ·rw [if_pos ⟨h,h2⟩,Gp]
  ·rw [if_neg (fun x => h2 x.2),Option.bind_none,List.getElem?_eq_none (by omega)]
 ·rw [if_neg h,if_neg (fun x => h x.1)]; rfl
theorem Fa {α : Type} (l : List α) (a b : Int) : slc l a b = (inS a b l.length).bind fun p => some (sub l p.1 p.2):=by
 unfold slc inS
 by_cases h : 0 ≤ a ∧ a ≤ b ∧ b ≤ l.length
 ·rw [if_pos h,if_pos h,Gp]
  unfold sub
  rw [List.drop_take]
 ·rw [if_neg h,if_neg h]; rfl
theorem pQ {s : State} (h : SSmall s) (n : Node) : cx s n = some (pPutN s n):=by
 have hn:=h.n
 have e:=gE s.Nodes (fun x => decide (x.Id < n.Id)) (step:=ek s n) (by omega) ?_ ?_
 ·rw [show cx s n = (loop (ek s n) 0).bind fun k1 =>
   (slc s.Nodes 0 k1).bind fun l =>
   (app 64 [] l).bind fun l1 =>
   (app 64 l1 [n]).bind fun l2 =>
   ((bif decide (k1 < (s.Nodes.length : Int)) then (idx s.Nodes k1).bind fun x1 => some (x1.Id == n.Id) else some false).bind fun q1 => bif q1 then some (w64 (k1 + 1)) else some k1).bind fun k2 =>
   (slc s.Nodes k2 (s.Nodes.length : Int)).bind fun l3 =>
   (app 64 l2 l3).bind fun l4 =>
   some (⟨⟨s.Conf.Labels,s.Conf.Queues⟩,l4,s.Apps,s.Conts,s.Slots,s.Plans,s.Now,s.Epoch,s.Seq⟩ : State) by
    unfold cx
    first
     | rfl
     | simp only [Fa,EW,Option.bind_assoc,Gp]]
  rw [e,Gp]
  exact zp (id:=fun x : Node => x.Id) (by omega) (by omega) rfl (fun l4 => some (⟨s.Conf,l4,s.Apps,s.Conts,s.Slots,s.Plans,s.Now,s.Epoch,s.Seq⟩ : State))
 ·intro k hk
  unfold ek
  simp only [ah hk,ai hk,ay hk,Gq hk,cond_true,Gp]
  cases decide (s.Nodes[k].Id < n.Id) <;> rfl
 ·unfold ek
  rw [ao]
  rfl
theorem wC {s : State} (hn : s.Apps.length ≤ 100000) (a : App) : aO s a = some (pPutA s a):=by
 unfold aO
 have e:=gE s.Apps (fun x => decide (x.Id < a.Id)) (step:=gH s a) (by omega) ?_ ?_
 ·rw [e,Gp]
  exact zp (id:=fun x : App => x.Id) (by omega) (by omega) rfl (fun l4 => some (⟨s.Conf,s.Nodes,l4,s.Conts,s.Slots,s.Plans,s.Now,s.Epoch,s.Seq⟩ : State))
 ·intro k hk
  unfold gH
  rw [ah hk,ai hk]
  simp only [cond_true,Gp]
  cases decide (s.Apps[k].Id < a.Id) <;> rfl
 ·unfold gH
  rw [ao]
  rfl
theorem my {s : State} (h : SSmall s) (a : App) : aO s a = some (pPutA s a):=wC h.a a
end Go.Fx.D
