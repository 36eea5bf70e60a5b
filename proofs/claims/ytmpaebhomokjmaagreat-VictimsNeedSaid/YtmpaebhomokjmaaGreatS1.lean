/-
  The reference manager: what holds of its state after every script. Conditions: none.
-/
import Derived.Test.YtmpaebhomokjmaaGreatSDD
namespace Go.Fx.D
open Go Go.Fx
set_option linter.unusedVariables false
set_option linter.unusedSimpArgs false
abbrev Str:=List UInt8
theorem ao {x : Int} (h1 : -9223372036854775808 ≤ x) (h2 : x < 9223372036854775808) : w64 x = x:=I5 h1 h2
theorem xH {k : Nat} (h : k < 1000000000) : w64 ((k : Int) + 1) = ((k + 1 : Nat) : Int):=by rw [ao (by omega) (by omega)]; omega
abbrev root : Str:=[114,111,111,116]
def aV (p : Str) : Str:=((p.reverse.dropWhile (· != 46)).tail).reverse
theorem HD (f : UInt8 → Bool) (p : Str) : (p.reverse.dropWhile f).reverse = p.take (p.reverse.dropWhile f).length:=by
 have h:=List.dropWhile_suffix f (l:=p.reverse)
 have h2:=List.reverse_prefix.2 h
 rw [List.reverse_reverse] at h2
 have:=List.prefix_iff_eq_take.1 h2
 rw [List.length_reverse] at this
 exact this
theorem nE (p : Str) : aV p = p.take ((p.reverse.dropWhile (· != 46)).length - 1):=by
 unfold aV
 have h:=HD (· != 46) p
 cases hd : p.reverse.dropWhile (· != 46) with
 | nil => simp
 | cons x d =>
  rw [hd] at h
  simp only [List.tail_cons,List.length_cons,Nat.add_sub_cancel]
  have h2 : ((x :: d).reverse).take d.length = (p.take (d.length + 1)).take d.length:=by rw [h]; rfl
  rw [List.take_take,Nat.min_eq_left (by omega),List.reverse_cons,List.take_append_of_le_length (by simp),List.take_of_length_le (by simp)] at h2
  exact h2
theorem fh {p : Str} (h : p ≠ []) : (aV p).length < p.length:=by
 rw [nE,List.length_take]
 have:=(List.dropWhile_suffix (· != 46) (l:=p.reverse)).length_le
 rw [List.length_reverse] at this
 have : 0 < p.length:=List.length_pos_iff.2 h
 omega
theorem C_ (p : Str) (hp : p.length < 1000000000) : ∀ m,m ≤ p.length → loop (kQ p) ((m : Int) - 1) = some ((((p.take m).reverse.dropWhile (· != 46)).length : Int) - 1):=by
 intro m
 induction m with
 | zero =>
  intro _
  rw [cM]
  rfl
 | succ m ih =>
  intro hm
  rw [cM]
  have e0 : ((m + 1 : Nat) : Int) - 1 = (m : Int):=by omega
  rw [e0]
  unfold kQ
  rw [decide_eq_true (by omega),ai (show m < p.length by omega)]
  have hb : ((p[m].toNat : Int) != 46) = (p[m] != 46):=by
   rw [Bool.eq_iff_iff,bne_iff_ne,bne_iff_ne,ne_eq,ne_eq]
   refine not_congr ⟨fun h => ?_,fun h => by rw [h]; rfl⟩
   exact UInt8.toNat_inj.1 (by have : (46 : UInt8).toNat = 46:=rfl; omega)
  have ht : (p.take (m + 1)).reverse = p[m] :: (p.take m).reverse:=by rw [List.take_succ_eq_append_getElem (by omega),List.reverse_append]; rfl
  rw [ht,List.dropWhile_cons]
  simp only [cond_true,Jw,hb]
  cases h : (p[m] != 46) with
  | true =>
   simp only [cond_true]
   rw [ao (by omega) (by omega)]
   exact ih (by omega)
  | false =>
   simp only [cond_false,Bool.false_eq_true,if_false,List.length_cons,List.length_reverse,List.length_take]
   congr 1
   omega
theorem wa {p : Str} (hp : p.length < 1000000000) : dd p = some (aV p):=by
 unfold dd
 dsimp only
 rw [ao (by omega) (by omega),C_ p hp p.length (Nat.le_refl _),List.take_length,nE]
 simp only [Jw]
 have hle:=(List.dropWhile_suffix (· != 46) (l:=p.reverse)).length_le
 rw [List.length_reverse] at hle
 generalize (p.reverse.dropWhile (· != 46)).length = n at hle ⊢
 by_cases h : n = 0
 ·subst h; rfl
 ·rw [decide_eq_false (by omega)]
  unfold slc
  simp only [cond_false]
  rw [if_pos ⟨by omega,by omega,by omega⟩]
  simp only [Jw,Int.toNat_zero,List.drop_zero]
  congr 2
  omega
def pUpN : Nat → Str → List Str
 | 0,_ => []
 | n + 1,p => if p = [] then [] else p :: pUpN n (aV p)
def pUp (p : Str) : List Str:=pUpN p.length p
theorem Cv : ∀ (n m : Nat) (p : Str),p.length ≤ n → p.length ≤ m → pUpN n p = pUpN m p
 | 0,m,p,h1,h2 => by
  have : p = []:=List.length_eq_zero_iff.1 (by omega)
  subst this
  cases m <;> rfl
 | n + 1,0,p,h1,h2 => by
  have : p = []:=List.length_eq_zero_iff.1 (by omega)
  subst this
  rfl
 | n + 1,m + 1,p,h1,h2 => by
  unfold pUpN
  by_cases h : p = []
  ·rw [if_pos h,if_pos h]
  ·have:=fh h
   rw [if_neg h,if_neg h,Cv n m (aV p) (by omega) (by omega)]
theorem mU : pUp [] = []:=rfl
theorem ls {p : Str} (h : p ≠ []) : pUp p = p :: pUp (aV p):=by
 have h1:=fh h
 unfold pUp
 obtain ⟨n,hn⟩ : ∃ n,p.length = n + 1:=⟨p.length - 1,by omega⟩
 rw [Cv (aV p).length n (aV p) (Nat.le_refl _) (by omega),hn]
 conv => lhs; unfold pUpN
 rw [if_neg h]
theorem vr (p : Str) : (pUp p).length ≤ p.length:=by
 generalize hn : p.length = n
 induction n using Nat.strongRecOn generalizing p with
 | _ n ih =>
  by_cases h : p = []
  ·subst h; simp [mU]
  ·have h1:=fh h
   rw [ls h,List.length_cons]
   have:=ih _ (by omega) (aV p) rfl
   omega
theorem Cr : ∀ (n : Nat) (p : Str) (l : List Str),p.length ≤ n → p.length + l.length ≤ 1000000 → loop fJ (p,l) = some (l ++ pUp p)
 | n,p,l,h1,h2 => by
  by_cases h : p = []
  ·subst h
   rw [cM]
   simp [fJ,mU]
  ·have hl:=fh h
   have hb : (p == []) = false:=by simp [h]
   have hs : fJ (p,l) = some (.inl (aV p,l ++ [p])):=by
    unfold fJ
    simp only [hb,Bool.not_false,cond_true]
    rw [am (by simp; omega) (by omega),wa (by omega)]
    rfl
   rw [cM,hs]
   dsimp only
   match n with
   | 0 => omega
   | n + 1 =>
    rw [Cr n (aV p) (l ++ [p]) (by omega) (by simp; omega),ls h]
    simp
theorem Dr {p : Str} (h : p.length ≤ 1000000) : gy p = some (pUp p):=by
 unfold gy
 rw [Cr p.length p [] (Nat.le_refl _) (by simpa using h)]
 rfl
structure CSmall (c : Conf) : Prop where
 q : c.Queues.length ≤ 100000
 l : c.Labels.length ≤ 1000
 p : ∀ x ∈ c.Queues,x.Path.length ≤ 1000000
 c : ∀ x ∈ c.Queues,x.Caps.length ≤ 1000
def pKids (c : Conf) (p : Str) : List Str:=if p = [] then [] else (c.Queues.filter fun q => aV q.Path == p).map (·.Path)
def pFind (c : Conf) (p : Str) : Option Queue:=c.Queues.find? fun q => q.Path == p
def pLeaf (c : Conf) (p : Str) : Bool:=(pFind c p).isSome && (pKids c p).isEmpty
theorem ot {c : Conf} (h : CSmall c) (p : Str) : bW c p = some (pKids c p):=by
 unfold bW
 have hq:=h.q
 have e:=bS (fun (s : List Str) i => (s,i)) c.Queues (fun q => !(p == []) && aV q.Path == p) (·.Path) (step:=hP c p) (by omega) ?_ ?_
 ·rw [e]
  simp only [Jw]
  unfold pKids
  by_cases hp : p = []
  ·subst hp; simp
  ·rw [if_neg hp,show (p == []) = false by simp [hp]]; simp
 ·intro k hk s hs
  unfold hP
  rw [aj hk,ai hk]
  simp only [cond_true,Jw]
  rw [wa (by have:=h.p _ (List.getElem_mem hk); omega)]
  cases hp : (p == []) <;> simp only [Bool.not_false,Bool.not_true,cond_true,cond_false,Jw,Bool.true_and,Bool.false_and]
  ·cases hq : (aV c.Queues[k].Path == p) <;> simp only [cond_true,cond_false,Jw]
   ·rfl
   ·rw [am (by simp; omega) (by omega)]; rfl
  ·rfl
 ·intro s
  unfold hP
  rw [ar]
  rfl
def noQ : Queue:=⟨[],[],0⟩
theorem qR {c : Conf} (h : CSmall c) (p : Str) : bB c p = some ((pFind c p).elim (noQ,false) fun q => (q,true)):=by
 unfold bB
 have hq:=h.q
 have e:=d6 (fun i => (noQ,i)) c.Queues (fun q => q.Path == p) (fun q => .inl (q,true)) (.inr noQ) (step:=dL c p) (by omega) ?_ ?_ ?_
 ·unfold noQ at e
  rw [e]
  unfold pFind noQ
  cases c.Queues.find? fun q => q.Path == p <;> rfl
 ·intro k hk hp
  unfold dL
  rw [aj hk,ai hk]
  simp only [cond_true,Jw,hp,cond_false]
 ·intro k hk hp
  unfold dL
  rw [aj hk,ai hk]
  simp only [cond_true,Jw,hp]
  rw [am (by have:=h.c _ (List.getElem_mem hk); simp; omega) (by omega)]
  rfl
 ·unfold dL
  rw [ar]
  rfl
theorem xS {c : Conf} (h : CSmall c) (p : Str) : dZ c p = some (pLeaf c p):=by
 unfold dZ pLeaf
 rw [qR h,ot h]
 cases pFind c p with
 | none => rfl
 | some q =>
  simp only [Option.elim_some,Jw,cond_true,Option.isSome_some,Bool.true_and]
  cases pKids c p with
  | nil => rfl
  | cons x l => simp; omega
end Go.Fx.D
