/-
  The reference manager: what holds of its state after every script. Conditions: none.
-/
import Derived.Test.YteodpoelbdakgaaGreatS1
namespace Go.Fx.D
open Go Go.Fx
set_option linter.unusedVariables false
set_option linter.unusedSimpArgs false
theorem zH {s : Str} (h : s.length < 1000000000) : Gv (b8 s) fun b => b = true → 1 ≤ s.length ∧ s.length ≤ 12:=by
 unfold b8
 refine ad (P:=fun q => q = false → 1 ≤ s.length ∧ s.length ≤ 12) ?_ ?_
 ·refine ae (fun _ => aa (by simp)) (fun h1 => aa ?_)
  intro h2
  have h1:=of_decide_eq_false h1
  have h2:=of_decide_eq_false h2
  omega
 ·intro q hq
  refine ae (fun _ => aa (by simp)) (fun h1 => ?_)
  have hq:=hq h1
  refine ad (P:=fun _ => True) ?_ ?_
  ·refine av (σ:=Unit) (fun _ i => i) s.length (fun _ _ => True) (by omega) ?_ ?_ (s:=()) trivial
   ·intro k hk _ _
    unfold gI
    rw [ah hk,ai hk]
    simp only [cond_true,Gp]
    refine ad (P:=fun _ => True) ?_ ?_
    ·repeat' first | exact aa trivial | (refine ae (fun _ => ?_) (fun _ => ?_))
    ·intro b _
     refine ae (fun _ => aa (.inr ⟨_,rfl,trivial⟩)) (fun _ => aa (.inl ⟨(),rfl,trivial⟩))
   ·intro _ _
    unfold gI
    rw [ao]
    exact aa ⟨_,rfl,trivial⟩
  ·rintro (q2 | u) _
   ·exact aa fun _ => hq
   ·exact aa fun _ => hq
theorem cat46 {s : Str} (k : Nat) (h : k < s.length) : (s.take (k + 1)).count 46 = (s.take k).count 46 + (if s[k] = 46 then 1 else 0):=by
 rw [List.take_succ_eq_append_getElem h,List.count_append,List.count_singleton]
 simp only [beq_iff_eq]
structure PathOk (s : Str) : Prop where
 len : s.length ≤ 51
 deep : s.count 46 ≤ 3
 root : s = root ∨ (root ++ [46]) <+: s
theorem CA {s : Str} (h : s.length < 100000000) : Gv (cg s) fun b => b = true → PathOk s:=by
 unfold cg
 have hroot : ∀ k : Nat,s.take k = root → k < s.length → s[k]? = some 46 → (root ++ [46]) <+: s:=by
  intro k e hk h46
  refine ⟨s.drop (k + 1),?_⟩
  rw [← e]
  have : s[k] = 46:=by rw [Gq hk] at h46; exact Option.some.inj h46
  conv => rhs; rw [← List.take_append_drop k s,List.drop_eq_getElem_cons hk,this]
  simp
 refine ad (P:=fun r => match r with
  | .inl b => b = false
  | .inr n => (n ≤ 4 → PathOk s)) ?_ ?_
 ·have key:=av (σ:=Int × Int) (fun t i => (t.1,t.2,i)) (s.length + 1)
   (fun k t => 0 ≤ t.1 ∧ t.1 ≤ k ∧ t.2 = ((s.take k).count 46 : Nat) + (if k = s.length + 1 then 1 else 0) ∧ (t.1 : Int) ≤ 13 * t.2 ∧ (t.2 = 0 → t.1 = 0) ∧ (0 < t.2 → k ≤ s.length → (root ++ [46]) <+: s) ∧ (k = s.length + 1 → PathOk s ∨ 4 < t.2))
   (step:=bz s) (Q:=fun r => match r with
    | .inl b => b = false
    | .inr n => (n ≤ 4 → PathOk s)) (by omega) ?_ ?_ (s:=(0,0)) (by simp)
  ·exact key
  ·rintro k hk ⟨a,n⟩ ⟨h0,h1,h2,h3,h4,h5,h6⟩
   dsimp only at h0 h1 h2 h3 h4 h5 h6
   unfold bz
   dsimp only
   rw [decide_eq_true (by omega)]
   simp only [cond_true]
   rw [if_neg (by omega)] at h2
   have hc : (s.take k).count 46 ≤ s.length:=Nat.le_trans List.count_le_length (by rw [List.length_take]; omega)
   refine ad (P:=fun r => match r with
    | .inl t => 0 ≤ t.1 ∧ t.1 ≤ (k : Int) + 1 ∧ t.2 = ((s.take (k + 1)).count 46 : Nat) + (if k + 1 = s.length + 1 then 1 else 0) ∧ (t.1 : Int) ≤ 13 * t.2 ∧ (t.2 = 0 → t.1 = 0) ∧ (0 < t.2 → k + 1 ≤ s.length → (root ++ [46]) <+: s) ∧ (k + 1 = s.length + 1 → PathOk s ∨ 4 < t.2)
    | .inr b => b = false) ?_ ?_
   ·refine ad (P:=fun q => if q = true then k < s.length ∧ s[k]? ≠ some 46 else (k < s.length → s[k]? = some 46)) ?_ ?_
    ·refine ae (fun hd => ?_) (fun hd => aa ?_)
     ·have hk' : k < s.length:=by have:=of_decide_eq_true hd; omega
      rw [ai hk']
      refine aa ?_
      have hb : ((s[k].toNat : Int) != 46) = (s[k] != 46):=by
       rw [Bool.eq_iff_iff,bne_iff_ne,bne_iff_ne,ne_eq,ne_eq]
       refine not_congr ⟨fun h => ?_,fun h => by rw [h]; rfl⟩
       exact UInt8.toNat_inj.1 (by have : (46 : UInt8).toNat = 46:=rfl; omega)
      rw [hb,Gq hk']
      split
      ·rename_i hh; exact ⟨hk',by simpa using hh⟩
      ·rename_i hh; intro _; simpa using hh
     ·have:=of_decide_eq_false hd
      simp
      intro hk'; omega
    ·intro q hq
     refine ae (fun e => ?_) (fun e => ?_)
     ·subst e
      simp only [if_true] at hq
      have hk':=hq.1
      have hne : s[k] ≠ 46:=by have:=hq.2; rw [Gq hk'] at this; exact fun e => this (by rw [e])
      refine aa ?_
      dsimp only
      rw [cat46 k hk',if_neg hne,if_neg (by omega)]
      exact ⟨h0,by omega,by omega,h3,h4,fun x _ => h5 x (by omega),fun x => by omega⟩
     ·subst e
      simp only [Bool.false_eq_true,if_false] at hq
      have hsl : Gv (slc s a (k : Int)) fun m => m = (s.take k).drop a.toNat:=by
       have:=tW (l:=s) (a:=a) (b:=(k : Int)) h0 (by omega) (by omega)
       rw [Int.toNat_natCast] at this
       exact this
      have hlen : ((s.take k).drop a.toNat).length = k - a.toNat:=by rw [List.length_drop,List.length_take]; omega
      refine ad (P:=fun q1 => q1 = false → k - a.toNat ≤ 12 ∧ (n = 0 → s.take k = root)) ?_ ?_
      ·refine ad hsl ?_
       rintro _ rfl
       refine ad (zH (by omega)) ?_
       intro x hx
       refine ae (fun _ => aa (by simp)) (fun e => ?_)
       have hx:=hx (by simpa using e)
       rw [hlen] at hx
       refine ae (fun e0 => ?_) (fun e0 => aa fun _ => ⟨hx.2,fun e1 => by simp [e1] at e0⟩)
       refine ad hsl ?_
       rintro _ rfl
       refine aa fun e2 => ⟨hx.2,fun e1 => ?_⟩
       have : a = 0:=h4 e1
       subst this
       simpa using e2
      ·intro q1 hq1
       refine ae (fun _ => aa rfl) (fun e => aa ?_)
       obtain ⟨b1,b2⟩:=hq1 e
       dsimp only
       rw [aj (by omega) (by omega),aj (by omega) (by omega)]
       by_cases hk' : k < s.length
       ·have h46:=hq hk'
        have e46 : s[k] = 46:=by rw [Gq hk'] at h46; exact Option.some.inj h46
        rw [cat46 k hk',if_pos e46,if_neg (by omega)]
        refine ⟨by omega,by omega,by omega,by omega,by omega,fun x _ => ?_,fun x => by omega⟩
        by_cases hn : n = 0
        ·exact hroot k (b2 hn) hk' h46
        ·exact h5 (by omega) (by omega)
       ·have hk2 : k = s.length:=by omega
        subst hk2
        rw [if_pos rfl,List.take_of_length_le (by omega)]
        rw [List.take_length] at h2 b2
        refine ⟨by omega,by omega,by omega,by omega,by omega,fun x y => by omega,fun _ => ?_⟩
        by_cases hn : 4 < n + 1
        ·exact .inr hn
        ·refine .inl ⟨by omega,by omega,?_⟩
         by_cases hn : n = 0
         ·exact .inl (b2 hn)
         ·exact .inr (h5 (by omega) (by omega))
   ·rintro (⟨a',n'⟩ | b) hr
    ·exact aa (.inl ⟨(a',n'),rfl,by simpa using hr⟩)
    ·exact aa (.inr ⟨_,rfl,hr⟩)
  ·rintro ⟨a,n⟩ ⟨h0,h1,h2,h3,h4,h5,h6⟩
   unfold bz
   dsimp only at h6 ⊢
   rw [decide_eq_false (by omega)]
   refine aa ⟨_,rfl,fun hn => ?_⟩
   rcases h6 rfl with h | h
   ·exact h
   ·omega
 ·rintro (b | n) hr
  ·exact aa fun e => by simp only at hr; rw [hr] at e; cases e
  ·exact aa fun e => hr (of_decide_eq_true e)
end Go.Fx.D
