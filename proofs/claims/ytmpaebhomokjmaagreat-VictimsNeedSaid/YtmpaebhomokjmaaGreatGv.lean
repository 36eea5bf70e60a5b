/-
  Plain functions that give an answer. Conditions: none.
-/
import Derived.Test.YtmpaebhomokjmaaGreatFxC
namespace Go.Fx
open Go
set_option linter.unusedVariables false
def Gv {α : Type} (m : Option α) (P : α → Prop) : Prop:=∃ a,m = some a ∧ P a
section
variable {α β τ σ ρ : Type}
theorem aa {P : α → Prop} {a : α} (h : P a) : Gv (some a) P:=⟨a,rfl,h⟩
theorem bz {P : α → Prop} {m : Option α} {a : α} (h : m = some a) (k : P a) : Gv m P:=⟨a,h,k⟩
theorem ad {m : Option α} {f : α → Option β} {P : α → Prop} {Q : β → Prop} (h : Gv m P) (k : ∀ a,P a → Gv (f a) Q) : Gv (m.bind f) Q:=by
 obtain ⟨a,rfl,ha⟩:=h
 exact k a ha
theorem sW {m : Option α} {P Q : α → Prop} (h : Gv m P) (k : ∀ a,P a → Q a) : Gv m Q:=by
 obtain ⟨a,e,ha⟩:=h
 exact ⟨a,e,k a ha⟩
theorem ae {b : Bool} {x y : Option α} {P : α → Prop} (h : b = true → Gv x P) (k : b = false → Gv y P) : Gv (cond b x y) P:=by
 cases b
 ·exact k rfl
 ·exact h rfl
theorem Ib {m : Option Bool} {f : Bool → Option β} {Q : β → Prop} (h : Gv m fun _ => True) (k : ∀ b,Gv (f b) Q) : Gv (m.bind f) Q:=ad h fun b _ => k b
theorem dj {m : Option α} {P : α → Prop} (h : Gv m P) : Gv m fun _ => True:=sW h fun _ _ => trivial
theorem fA {l : List α} {i : Int} (h0 : 0 ≤ i) (h : i < l.length) : Gv (idx l i) fun x => x ∈ l ∧ l[i.toNat]? = some x:=by
 have hk : i.toNat < l.length:=by omega
 refine ⟨l[i.toNat],?_,List.getElem_mem hk,Jx hk⟩
 unfold idx
 rw [if_pos h0,Jx hk]
theorem mD {n : Nat} {i : Int} (h0 : 0 ≤ i) (h : i < n) : Gv (inb i n) fun k => k = i.toNat:=by
 refine ⟨i.toNat,?_,rfl⟩
 unfold inb
 rw [if_pos ⟨h0,by omega⟩]
theorem my {l : List α} {k : Nat} (h : k < l.length) : Gv (l[k]?) fun x => x ∈ l ∧ l[k]? = some x :=
 ⟨l[k],Jx h,List.getElem_mem h,Jx h⟩
theorem I8 {a b : Int} {n : Nat} (h0 : 0 ≤ a) (h1 : a ≤ b) (h2 : b ≤ n) : Gv (inS a b n) fun p => p = (a.toNat,b.toNat - a.toNat):=by
 refine ⟨_,?_,rfl⟩
 unfold inS
 rw [if_pos ⟨h0,h1,h2⟩]
theorem xx {l : List α} {a b : Int} (h0 : 0 ≤ a) (h1 : a ≤ b) (h2 : b ≤ l.length) : Gv (slc l a b) fun m => m = (l.take b.toNat).drop a.toNat:=by
 refine ⟨_,?_,rfl⟩
 unfold slc
 rw [if_pos ⟨h0,h1,h2⟩]
theorem vC {l : List α} {a b : Int} (h0 : 0 ≤ a) (h1 : a ≤ b) (h2 : b ≤ l.length) : Gv (slc l a b) fun m => (m.length : Int) = b - a ∧ ∀ x ∈ m,x ∈ l:=by
 refine sW (xx h0 h1 h2) ?_
 rintro m rfl
 refine ⟨by rw [List.length_drop,List.length_take]; omega,fun x hx => List.mem_of_mem_take (List.mem_of_mem_drop hx)⟩
theorem am {b : Nat} {l m : List α} (h : l.length + m.length ≤ 100000000) (hb : b ≤ 1000) : app b l m = some (l ++ m):=by
 unfold app
 rw [if_pos]
 have e : (l ++ m).length = l.length + m.length:=Jz
 have : (l ++ m).length * b ≤ 100000000 * 1000:=Nat.mul_le_mul (by omega) hb
 unfold maxLen
 omega
theorem dR {l m : List UInt8} (h : l.length + m.length ≤ 1000000000) : cat l m = some (l ++ m):=by
 unfold cat
 rw [if_pos]
 rw [Nat.ble_eq]
 omega
theorem Ci {x : Int} (h : x ≠ 0) : nz x = some ():=by unfold nz; rw [if_pos h]
theorem gj (I : τ → Prop) (m : τ → Nat) {step : τ → Option (τ ⊕ ρ)} {Q : ρ → Prop}
  (h : ∀ t,I t → Gv (step t) fun r => (∃ t',r = .inl t' ∧ I t' ∧ m t' < m t) ∨ ∃ x,r = .inr x ∧ Q x) {t : τ} (h0 : I t) : Gv (loop step t) Q:=by
 generalize hn : m t = n
 induction n using Nat.strongRecOn generalizing t with
 | _ n ih =>
  obtain ⟨r,e,hr⟩:=h t h0
  rw [cM,e]
  rcases hr with ⟨t',rfl,h1,h2⟩ | ⟨x,rfl,hx⟩
  ·exact ih (m t') (by omega) h1 rfl
  ·exact ⟨x,rfl,hx⟩
theorem aG (mk : σ → Int → τ) (n : Nat) (Inv : Nat → σ → Prop) {step : τ → Option (τ ⊕ ρ)} {Q : ρ → Prop} (hn : n < 1000000000)
  (h1 : ∀ k,k < n → ∀ s,Inv k s → Gv (step (mk s (k : Int))) fun r => (∃ s',r = .inl (mk s' (w64 ((k : Int) + 1))) ∧ Inv (k + 1) s') ∨ ∃ x,r = .inr x ∧ Q x)
  (h2 : ∀ s,Inv n s → Gv (step (mk s (n : Int))) fun r => ∃ x,r = .inr x ∧ Q x) {s : σ} (h0 : Inv 0 s) : Gv (loop step (mk s 0)) Q:=by
 have key : ∀ (m k : Nat),m + k = n → ∀ s,Inv k s → Gv (loop step (mk s (k : Int))) Q:=by
  intro m
  induction m with
  | zero =>
   intro k hk s hs
   have hk : k = n:=by omega
   subst hk
   obtain ⟨r,e,x,rfl,hx⟩:=h2 s hs
   rw [cM,e]
   exact ⟨x,rfl,hx⟩
  | succ m ih =>
   intro k hk s hs
   obtain ⟨r,e,hr⟩:=h1 k (by omega) s hs
   rw [cM,e]
   rcases hr with ⟨s',rfl,hs'⟩ | ⟨x,rfl,hx⟩
   ·have : w64 ((k : Int) + 1) = ((k + 1 : Nat) : Int):=by
     simp only [w64,IntKind.wrap,IntKind.bits,IntKind.signed]
     simp
     omega
    rw [this]
    exact ih (k + 1) (by omega) s' hs'
   ·exact ⟨x,rfl,hx⟩
 exact key n 0 rfl s h0
theorem fE (mk : σ → Int → τ) (l : List α) (f : σ → α → σ) (Inv : Nat → σ → Prop) (fin : σ → ρ) {step : τ → Option (τ ⊕ ρ)} (hn : l.length < 1000000000)
  (h1 : ∀ k (hk : k < l.length) s,Inv k s → step (mk s (k : Int)) = some (.inl (mk (f s l[k]) (w64 ((k : Int) + 1)))) ∧ Inv (k + 1) (f s l[k]))
  (h2 : ∀ s,Inv l.length s → step (mk s (l.length : Int)) = some (.inr (fin s))) {s : σ} (h0 : Inv 0 s) : loop step (mk s 0) = some (fin (l.foldl f s)) ∧ Inv l.length (l.foldl f s):=by
 have h:=aG (Q:=fun x => x = fin (l.foldl f s) ∧ Inv l.length (l.foldl f s)) mk l.length (fun k s' => s' = (l.take k).foldl f s ∧ Inv k s') (step:=step) hn ?_ ?_ (s:=s) ⟨by simp,h0⟩
 ·obtain ⟨x,e,rfl,hx⟩:=h
  exact ⟨e,hx⟩
 ·rintro k hk s' ⟨rfl,hs⟩
  obtain ⟨e,hi⟩:=h1 k hk _ hs
  refine bz e (.inl ⟨_,rfl,?_,hi⟩)
  rw [List.take_succ_eq_append_getElem hk,List.foldl_append]
  rfl
 ·rintro s' ⟨rfl,hs⟩
  have e:=h2 _ hs
  rw [List.take_length] at hs e
  rw [List.take_length]
  exact bz e ⟨_,rfl,rfl,hs⟩
theorem Bj {α β : Type} (f : α → Bool) (g : α → β) (l : List α) (z : List β) : l.foldl (fun s x => if f x = true then s ++ [g x] else s) z = z ++ (l.filter f).map g:=by
 induction l generalizing z with
 | nil => simp
 | cons x l ih =>
  rw [List.foldl_cons,ih,List.filter_cons]
  split <;> simp
theorem bS {β : Type} (mk : List β → Int → τ) (l : List α) (p : α → Bool) (g : α → β) {step : τ → Option (τ ⊕ List β)} (hn : l.length < 1000000000)
  (h1 : ∀ k (hk : k < l.length) s,s.length ≤ k → step (mk s (k : Int)) = some (.inl (mk (if p l[k] = true then s ++ [g l[k]] else s) (w64 ((k : Int) + 1)))))
  (h2 : ∀ s,step (mk s (l.length : Int)) = some (.inr s)) : loop step (mk [] 0) = some ((l.filter p).map g):=by
 have h:=(fE mk l (fun s x => if p x = true then s ++ [g x] else s) (fun k s => s.length ≤ k) (fun s => s) hn (step:=step) ?_ (fun s _ => h2 s) (s:=[]) (Nat.le_refl 0)).1
 ·rw [h,Bj,List.nil_append]
 ·intro k hk s hs
  refine ⟨h1 k hk s hs,?_⟩
  split
  ·simp; omega
  ·omega
theorem d6 (mk : Int → τ) (l : List α) (p : α → Bool) (g : α → ρ) (z : ρ) {step : τ → Option (τ ⊕ ρ)} (hn : l.length < 1000000000)
  (h1 : ∀ k (hk : k < l.length),p l[k] = false → step (mk (k : Int)) = some (.inl (mk (w64 ((k : Int) + 1)))))
  (h2 : ∀ k (hk : k < l.length),p l[k] = true → step (mk (k : Int)) = some (.inr (g l[k])))
  (h3 : step (mk (l.length : Int)) = some (.inr z)) : loop step (mk 0) = some ((l.find? p).elim z g):=by
 have h:=aG (σ:=Unit) (Q:=fun x => x = (l.find? p).elim z g) (fun _ i => mk i) l.length (fun k _ => (l.take k).find? p = none) (step:=step) hn ?_ ?_ (s:=()) rfl
 ·obtain ⟨x,e,rfl⟩:=h
  exact e
 ·intro k hk _ hs
  cases hp : p l[k] with
  | false =>
   refine bz (h1 k hk hp) (.inl ⟨(),rfl,?_⟩)
   rw [List.take_succ_eq_append_getElem hk,List.find?_append,hs]
   simp [hp]
  | true =>
   refine bz (h2 k hk hp) (.inr ⟨_,rfl,?_⟩)
   have : l.find? p = some l[k]:=by
    conv => lhs; rw [← List.take_append_drop k l]
    rw [List.find?_append,hs,Option.none_or,List.drop_eq_getElem_cons hk,List.find?_cons_of_pos hp]
   rw [this]; rfl
 ·intro _ hs
  rw [List.take_length] at hs
  rw [hs]
  exact bz h3 ⟨_,rfl,rfl⟩
theorem jz (l : List α) (p : α → Bool) {step : Int → Option (Int ⊕ Int)} (hn : l.length < 1000000000)
  (h1 : ∀ k (hk : k < l.length),step (k : Int) = some (if p l[k] = true then .inl (w64 ((k : Int) + 1)) else .inr (k : Int))) (h2 : step (l.length : Int) = some (.inr (l.length : Int))) :
  loop step 0 = some ((l.takeWhile p).length : Int):=by
 have h:=aG (σ:=Unit) (Q:=fun x => x = ((l.takeWhile p).length : Int)) (fun _ i => i) l.length (fun k _ => ∀ x ∈ l.take k,p x = true) (step:=step) hn ?_ ?_ (s:=()) (by simp)
 ·obtain ⟨x,e,rfl⟩:=h
  exact e
 ·intro k hk _ hs
  refine bz (h1 k hk) ?_
  cases hp : p l[k] with
  | true =>
   rw [if_pos rfl]
   refine .inl ⟨(),rfl,?_⟩
   rw [List.take_succ_eq_append_getElem hk]
   intro x hx
   rcases List.mem_append.1 hx with hx | hx
   ·exact hs x hx
   ·rw [JA] at hx; subst hx; exact hp
  | false =>
   rw [if_neg (by simp)]
   refine .inr ⟨_,rfl,?_⟩
   have : l.takeWhile p = l.take k:=by
    conv => lhs; rw [← List.take_append_drop k l]
    rw [List.takeWhile_append_of_pos hs,List.drop_eq_getElem_cons hk,List.takeWhile_cons_of_neg (by simp [hp])]
    simp
   rw [this,List.length_take]
   omega
 ·intro _ hs
  refine bz h2 ⟨_,rfl,?_⟩
  rw [List.take_length] at hs
  have:=List.takeWhile_append_of_pos (p:=p) (l₂:=[]) hs
  rw [List.append_nil] at this
  rw [this]; simp
def putG (id : α → Int) (l : List α) (a : α) : List α :=
 (l.takeWhile fun x => decide (id x < id a)) ++ a :: (match l.dropWhile fun x => decide (id x < id a) with | [] => [] | b :: y => if id b = id a then y else b :: y)
theorem cw {id : α → Int} {l : List α} {a x : α} (hs : l.Pairwise fun x y => id x < id y) : x ∈ putG id l a ↔ x = a ∨ (x ∈ l ∧ id x ≠ id a):=by
 unfold putG
 induction l with
 | nil => simp
 | cons b l ih =>
  have hb : ∀ {z},z ∈ l → id b < id z:=fun h => (List.pairwise_cons.1 hs).1 _ h
  have ih:=ih (List.Pairwise.of_cons hs)
  by_cases h : id b < id a
  ·rw [List.takeWhile_cons_of_pos (by simpa using h),List.dropWhile_cons_of_pos (by simpa using h),List.cons_append,List.mem_cons,ih,List.mem_cons]
   constructor
   ·rintro (rfl | h1 | ⟨h1,h2⟩)
    ·exact .inr ⟨.inl rfl,by omega⟩
    ·exact .inl h1
    ·exact .inr ⟨.inr h1,h2⟩
   ·rintro (h1 | ⟨h1 | h1,h2⟩)
    ·exact .inr (.inl h1)
    ·exact .inl h1
    ·exact .inr (.inr ⟨h1,h2⟩)
  ·rw [List.takeWhile_cons_of_neg (by simpa using h),List.dropWhile_cons_of_neg (by simpa using h),List.nil_append,List.mem_cons]
   dsimp only
   by_cases he : id b = id a
   ·rw [if_pos he,List.mem_cons]
    constructor
    ·rintro (h1 | h1)
     ·exact .inl h1
     ·have:=hb h1; exact .inr ⟨.inr h1,by omega⟩
    ·rintro (h1 | ⟨h1 | h1,h2⟩)
     ·exact .inl h1
     ·subst h1; exact absurd he h2
     ·exact .inr h1
   ·rw [if_neg he]
    constructor
    ·rintro (h1 | h1)
     ·exact .inl h1
     ·refine .inr ⟨h1,?_⟩
      rcases List.mem_cons.1 h1 with h1 | h1
      ·subst h1; exact he
      ·have:=hb h1; omega
    ·rintro (h1 | ⟨h1,h2⟩)
     ·exact .inl h1
     ·exact .inr h1
theorem lW {id : α → Int} {l : List α} {a : α} (hs : l.Pairwise fun x y => id x < id y) : (putG id l a).Pairwise fun x y => id x < id y:=by
 induction l with
 | nil => simp [putG]
 | cons b l ih =>
  have hb : ∀ {z},z ∈ l → id b < id z:=fun h => (List.pairwise_cons.1 hs).1 _ h
  have ih:=ih (List.Pairwise.of_cons hs)
  by_cases h : id b < id a
  ·have e : putG id (b :: l) a = b :: putG id l a:=by
    unfold putG
    rw [List.takeWhile_cons_of_pos (by simpa using h),List.dropWhile_cons_of_pos (by simpa using h),List.cons_append]
   rw [e]
   refine List.pairwise_cons.2 ⟨?_,ih⟩
   intro x hx
   rcases (cw (List.Pairwise.of_cons hs)).1 hx with rfl | ⟨h1,_⟩
   ·exact h
   ·exact hb h1
  ·unfold putG
   rw [List.takeWhile_cons_of_neg (by simpa using h),List.dropWhile_cons_of_neg (by simpa using h),List.nil_append]
   dsimp only
   by_cases he : id b = id a
   ·rw [if_pos he]
    exact List.pairwise_cons.2 ⟨fun x hx => by have:=hb hx; omega,List.Pairwise.of_cons hs⟩
   ·rw [if_neg he]
    refine List.pairwise_cons.2 ⟨fun x hx => ?_,hs⟩
    rcases List.mem_cons.1 hx with h1 | h1
    ·subst h1; omega
    ·have:=hb h1; omega
theorem nX {id : α → Int} {l : List α} {a : α} : (putG id l a).length ≤ l.length + 1 ∧ ((∃ b ∈ l,id b = id a) → (l.Pairwise fun x y => id x < id y) → (putG id l a).length = l.length):=by
 induction l with
 | nil => simp [putG]
 | cons b l ih =>
  by_cases h : id b < id a
  ·have e : putG id (b :: l) a = b :: putG id l a:=by
    unfold putG
    rw [List.takeWhile_cons_of_pos (by simpa using h),List.dropWhile_cons_of_pos (by simpa using h),List.cons_append]
   rw [e,List.length_cons,List.length_cons]
   refine ⟨by omega,?_⟩
   rintro ⟨c,hc,he⟩ hs
   rcases List.mem_cons.1 hc with h1 | h1
   ·subst h1; omega
   ·rw [ih.2 ⟨c,h1,he⟩ (List.Pairwise.of_cons hs)]
  ·have e : putG id (b :: l) a = a :: (if id b = id a then l else b :: l):=by
    unfold putG
    rw [List.takeWhile_cons_of_neg (by simpa using h),List.dropWhile_cons_of_neg (by simpa using h),List.nil_append]
   rw [e]
   by_cases he : id b = id a
   ·rw [if_pos he]; simp
   ·rw [if_neg he]
    refine ⟨by simp,?_⟩
    rintro ⟨c,hc,he2⟩ hs
    have hb : ∀ {z},z ∈ l → id b < id z:=fun h => (List.pairwise_cons.1 hs).1 _ h
    rcases List.mem_cons.1 hc with h1 | h1
    ·subst h1; exact absurd he2 he
    ·have:=hb h1; omega
theorem vu {id : α → Int} {l : List α} (hs : l.Pairwise fun x y => id x < id y) {x : α} (hx : x ∈ l) : l.find? (fun y => id y == id x) = some x:=by
 induction l with
 | nil => cases hx
 | cons b l ih =>
  have hb : ∀ {z},z ∈ l → id b < id z:=fun h => (List.pairwise_cons.1 hs).1 _ h
  rcases List.mem_cons.1 hx with h1 | h1
  ·subst h1; simp
  ·have:=hb h1
   rw [List.find?_cons_of_neg (by simp; omega)]
   exact ih (List.Pairwise.of_cons hs) h1
theorem nV {id : α → Int} {l : List α} {i : Int} {x : α} (h : l.find? (fun y => id y == i) = some x) : x ∈ l ∧ id x = i:=⟨List.mem_of_find?_eq_some h,by have:=List.find?_some h; simpa using this⟩
theorem zS {id : α → Int} {l : List α} {i : Int} (h : l.find? (fun y => id y == i) = none) : ∀ x ∈ l,id x ≠ i:=by
 intro x hx e
 have:=List.find?_eq_none.1 h x hx
 simp [e] at this
theorem I5 {x : Int} (h1 : -9223372036854775808 ≤ x) (h2 : x < 9223372036854775808) : w64 x = x:=by
 simp only [w64,IntKind.wrap,IntKind.bits,IntKind.signed]
 simp
 omega
theorem ai {l : List α} {k : Nat} (h : k < l.length) : idx l (k : Int) = some l[k]:=by
 unfold idx
 rw [if_pos (by omega),Int.toNat_natCast,Jx h]
theorem aM {n k : Nat} (h : k < n) : inb (k : Int) n = some k:=by
 unfold inb
 rw [if_pos ⟨by omega,by omega⟩,Int.toNat_natCast]
theorem aj {k n : Nat} (h : k < n) : decide ((k : Int) < (n : Int)) = true:=decide_eq_true (by omega)
theorem ar {n : Nat} : decide ((n : Int) < (n : Int)) = false:=decide_eq_false (by omega)
end
end Go.Fx
