/-
  The reference manager: what holds of its state after every script. Conditions: none.
-/
import Derived.Test.YtmpaebhomokjmaaGreatS6
namespace Go.Fx.D
open Go Go.Fx
set_option linter.unusedVariables false
set_option linter.unusedSimpArgs false
def gV (a : Vec) (bp : Int) : Vec:=⟨a.Mem * bp / 10000,a.Cores * bp / 10000⟩
instance (n : Int) (v : Vec) : Decidable (VB n v):=by unfold VB; exact inferInstance
theorem tp (a : Vec) : bN a = some (decide (VB 1125899906842624 a)):=by
 unfold bN kF
 have e : decide (VB 1125899906842624 a) = ((decide (a.Mem ≥ 0) && decide (a.Mem ≤ 1125899906842624)) && (decide (a.Cores ≥ 0) && decide (a.Cores ≤ 1125899906842624))):=by
  rw [Bool.eq_iff_iff,decide_eq_true_iff]
  simp only [Bool.and_eq_true,decide_eq_true_eq,VB,ge_iff_le]
 rw [e]
 cases decide (a.Mem ≥ 0) <;> cases decide (a.Mem ≤ 1125899906842624) <;> cases decide (a.Cores ≥ 0) <;> cases decide (a.Cores ≤ 1125899906842624) <;> rfl
theorem oK {n bp N B : Int} (h0 : 0 ≤ n) (h1 : n ≤ N) (b0 : 0 ≤ bp) (b1 : bp ≤ B) : 0 ≤ n * bp ∧ n * bp ≤ N * B :=
 ⟨Int.mul_nonneg h0 b0,Int.le_trans (Int.mul_le_mul_of_nonneg_right h1 b0) (Int.mul_le_mul_of_nonneg_left b1 (by omega))⟩
theorem y7 {n bp : Int} (h0 : 0 ≤ n) (h1 : n ≤ 1099511627776) (b0 : 0 ≤ bp) (b1 : bp ≤ 1000000) : fH n bp = some (n * bp / 10000) ∧ 0 ≤ n * bp / 10000 ∧ n * bp / 10000 ≤ 109951162777600:=by
 unfold fH
 have e1 : Int.tdiv n 10000 = n / 10000:=Int.tdiv_eq_ediv_of_nonneg h0
 have e2 : Int.tmod n 10000 = n % 10000:=Int.tmod_eq_emod_of_nonneg h0
 rw [e1,e2]
 have q1 : 0 ≤ n / 10000 ∧ n / 10000 ≤ 109951162:=by omega
 have q2 : 0 ≤ n % 10000 ∧ n % 10000 ≤ 9999:=by omega
 have m1:=oK q1.1 q1.2 b0 b1
 have m2:=oK q2.1 q2.2 b0 b1
 have m3:=oK h0 h1 b0 b1
 have key : n * bp / 10000 = n / 10000 * bp + n % 10000 * bp / 10000:=by
  have : n * bp = n % 10000 * bp + 10000 * (n / 10000 * bp):=by
   conv => lhs; rw [← Int.emod_add_mul_ediv n 10000]
   rw [Int.add_mul,Int.mul_assoc]
  rw [this,Int.add_mul_ediv_left _ _ (by decide),Int.add_comm]
 rw [ao (x:=n / 10000) (by omega) (by omega)]
 generalize n / 10000 * bp = A at m1 key ⊢
 generalize n % 10000 * bp = B at m2 key ⊢
 rw [ao (x:=A) (by omega) (by omega),ao (x:=B) (by omega) (by omega),Int.tdiv_eq_ediv_of_nonneg m2.1,ao (x:=B / 10000) (by omega) (by omega),ao (by omega) (by omega),key]
 exact ⟨rfl,by omega,by omega⟩
theorem zh {a : Vec} {bp : Int} (ha : VB 1099511627776 a) (b0 : 0 ≤ bp) (b1 : bp ≤ 1000000) : fr a bp = some (gV a bp,0) ∧ VB 109951162777600 (gV a bp):=by
 have ha':=ha
 unfold VB at ha'
 obtain ⟨e1,p1,p2⟩:=y7 ha'.1.1 ha'.1.2 b0 b1
 obtain ⟨e2,p3,p4⟩:=y7 ha'.2.1 ha'.2.2 b0 b1
 have hv : VB 109951162777600 (gV a bp):=⟨⟨p1,p2⟩,p3,p4⟩
 refine ⟨?_,hv⟩
 unfold fr
 rw [tp,decide_eq_true (ha.mono (by omega))]
 simp only [Jw,Bool.not_true,cond_false]
 rw [decide_eq_false (by omega),decide_eq_false (by omega)]
 simp only [Jw,cond_false]
 rw [e1,e2]
 simp only [Jw]
 have : (⟨a.Mem * bp / 10000,a.Cores * bp / 10000⟩ : Vec) = gV a bp:=rfl
 rw [this,tp,decide_eq_true (hv.mono (by omega))]
 rfl
theorem uv {n : Int} {a : Vec} {bp : Int} (ha : VB n a) (b0 : 0 ≤ bp) (b1 : bp ≤ 10000) : VB n (gV a bp):=by
 unfold VB at *
 have m1:=oK ha.1.1 (Int.le_refl a.Mem) b0 b1
 have m2:=oK ha.2.1 (Int.le_refl a.Cores) b0 b1
 unfold gV
 dsimp only
 generalize a.Mem * bp = A at m1 ⊢
 generalize a.Cores * bp = B at m2 ⊢
 omega
def capAt (c : Conf) (k : Int) (p : Str) : Cap:=((pFind c p).bind fun q => q.Caps[k.toNat]?).getD ⟨0,0⟩
def bpOf (c : Conf) (k : Int) (least : Bool) (p : Str) : Int:=bif least then (capAt c k p).Least else (capAt c k p).Most
def E7 (s : State) (label : Int) (least : Bool) (l : List Str) : Vec:=l.foldl (fun v p => gV v (bpOf s.Conf label least p)) (iO s label)
def pDown (s : State) (path : Str) (label : Int) (least : Bool) : Vec :=
 if (pFind s.Conf path).isSome = true ∧ 0 ≤ label ∧ label < s.Conf.Labels.length then E7 s label least (pUp path).dropLast.reverse else ⟨0,0⟩
theorem pX {c : Conf} (h : ConfOk c) : ∀ (n : Nat) (p : Str),p.length ≤ n → (pFind c p).isSome = true → ∀ x ∈ pUp p,(pFind c x).isSome = true
 | n,p,hn,hf,x,hx => by
  by_cases hp : p = []
  ·subst hp; simp [mU] at hx
  ·rw [ls hp] at hx
   rcases List.mem_cons.1 hx with rfl | hx
   ·exact hf
   ·obtain ⟨q,hq⟩:=Option.isSome_iff_exists.1 hf
    obtain ⟨hm,rfl⟩:=mv hq
    obtain ⟨i,hi,rfl⟩:=List.getElem_of_mem hm
    by_cases hi0 : 0 < i
    ·match n with
     | 0 => simp at hn; exact absurd hn hp
     | n + 1 => exact pX h n _ (by have:=fh hp; omega) ((h.q i hi).up hi0) x hx
    ·have : i = 0:=by omega
     subst this
     obtain ⟨q0,h1,h2,_⟩:=h.root
     rw [Jx hi] at h1
     cases h1
     rw [h2] at hx
     simp [aV,mU] at hx
theorem ve {c : Conf} (h : ConfOk c) {p : Str} (hf : (pFind c p).isSome = true) {k : Int} (h0 : 0 ≤ k) (h1 : k < c.Labels.length) :
  ∃ q,pFind c p = some q ∧ k.toNat < q.Caps.length ∧ q.Caps[k.toNat]? = some (capAt c k p) ∧ CapOk (capAt c k p):=by
 obtain ⟨q,hq⟩:=Option.isSome_iff_exists.1 hf
 obtain ⟨hm,_⟩:=mv hq
 obtain ⟨i,hi,rfl⟩:=List.getElem_of_mem hm
 have hc:=(h.q i hi).caps
 have hlt : k.toNat < c.Queues[i].Caps.length:=by omega
 refine ⟨_,hq,hlt,?_,?_⟩
 ·unfold capAt
  rw [hq,Jw,Jx hlt]
  rfl
 ·unfold capAt
  rw [hq,Jw,Jx hlt]
  exact (h.q i hi).cap _ (List.getElem_mem hlt)
theorem zy {c : Conf} (h : ConfOk c) {p : Str} (hf : (pFind c p).isSome = true) {k : Int} (h0 : 0 ≤ k) (h1 : k < c.Labels.length) (least : Bool) : 0 ≤ bpOf c k least p ∧ bpOf c k least p ≤ 10000:=by
 obtain ⟨q,_,_,_,hc⟩:=ve h hf h0 h1
 unfold CapOk at hc
 unfold bpOf
 cases least <;> simp only [cond_true,cond_false] <;> omega
theorem Hg {s : State} (h : SB s) (hc : ConfOk s.Conf) {label : Int} (h0 : 0 ≤ label) (h1 : label < s.Conf.Labels.length) (least : Bool) {l : List Str} (hl : ∀ p ∈ l,(pFind s.Conf p).isSome = true) :
  VB (s.Nodes.length * 1073741824) (E7 s label least l):=by
 have key : ∀ (l : List Str),(∀ p ∈ l,(pFind s.Conf p).isSome = true) → ∀ v,VB (s.Nodes.length * 1073741824) v → VB (s.Nodes.length * 1073741824) (l.foldl (fun v p => gV v (bpOf s.Conf label least p)) v):=by
  intro l
  induction l with
  | nil => intro _ v hv; exact hv
  | cons p l ih =>
   intro hl v hv
   have hb:=zy hc (hl p (by simp)) h0 h1 least
   exact ih (fun p hp => hl p (by simp [hp])) _ (uv hv hb.1 hb.2)
 exact key l hl _ (pF h label)
theorem Cy {s : State} (h : SB s) (hc : ConfOk s.Conf) (hn : s.Nodes.length ≤ 100) {path : Str} (hp : path.length ≤ 1000000) (label : Int) (least : Bool) :
  gS s path label least = some (pDown s path label least):=by
 unfold gS pDown
 rw [qR h.cf]
 cases hf : pFind s.Conf path with
 | none => simp
 | some q =>
  simp only [Option.elim_some,Jw,Bool.not_true,cond_false,Option.isSome_some,true_and]
  by_cases h0 : label < 0
  ·rw [decide_eq_true h0,if_neg (by omega)]; rfl
  ·rw [decide_eq_false h0]
   simp only [cond_false,Jw]
   by_cases h1 : label < s.Conf.Labels.length
   ·rw [decide_eq_false (by omega),if_pos ⟨by omega,h1⟩,pL h,Dr hp]
    simp only [cond_false,Jw]
    have hfound:=pX hc path.length path (Nat.le_refl _) (by rw [hf]; rfl)
    have hul:=vr path
    have hpos : 0 < (pUp path).length:=by
     have : path ≠ []:=by
      intro e
      obtain ⟨hm,hpe⟩:=mv hf
      obtain ⟨i,hi,rfl⟩:=List.getElem_of_mem hm
      have:=(hc.q i hi).path.root
      rw [hpe,e] at this
      simp at this
     rw [ls this]; simp
    rw [ao (by omega) (by omega)]
    have key : ∀ m,m ≤ (pUp path).length → ∀ v,VB (s.Nodes.length * 1073741824) v → loop (iB s label least (pUp path)) (v,(m : Int) - 1) = some (((pUp path).take m).reverse.foldl (fun v p => gV v (bpOf s.Conf label least p)) v):=by
     intro m
     induction m with
     | zero =>
      intro _ v _
      rw [cM]
      rfl
     | succ m ih =>
      intro hm v hv
      have hs : iB s label least (pUp path) (v,((m + 1 : Nat) : Int) - 1) = some (.inl (gV v (bpOf s.Conf label least (pUp path)[m]),(m : Int) - 1)):=by
       unfold iB
       dsimp only
       rw [show ((m + 1 : Nat) : Int) - 1 = (m : Int) by omega,decide_eq_true (by omega),aM (show m < (pUp path).length by omega)]
       simp only [cond_true,Jw,Jx (show m < (pUp path).length by omega)]
       have hfm:=hfound _ (List.getElem_mem (show m < (pUp path).length by omega))
       obtain ⟨q',e1,e2,e3,e4⟩:=ve hc hfm (by omega : 0 ≤ label) h1
       have hbp:=zy hc hfm (by omega : 0 ≤ label) h1 least
       rw [qR h.cf,e1]
       simp only [Option.elim_some,Jw]
       have hin : inb label q'.Caps.length = some label.toNat:=by
        unfold inb
        rw [if_pos ⟨by omega,e2⟩]
       rw [hin]
       simp only [Jw,e3]
       have hsc:=(zh (a:=v) (bp:=bpOf s.Conf label least (pUp path)[m]) (hv.mono (by omega)) hbp.1 (by omega)).1
       have : (bif least then some (capAt s.Conf label (pUp path)[m]).Least else some (capAt s.Conf label (pUp path)[m]).Most) = some (bpOf s.Conf label least (pUp path)[m]):=by
        unfold bpOf; cases least <;> rfl
       rw [this,Jw,hsc,Jw,ao (by omega) (by omega)]
      rw [cM,hs]
      dsimp only
      have hfm:=hfound _ (List.getElem_mem (show m < (pUp path).length by omega))
      have hbp:=zy hc hfm (by omega : 0 ≤ label) h1 least
      rw [ih (by omega) _ (uv hv hbp.1 hbp.2),List.take_succ_eq_append_getElem (by omega),List.reverse_append]
      rfl
    have:=key ((pUp path).length - 1) (by omega) _ (pF h label)
    rw [show (((pUp path).length - 1 : Nat) : Int) - 1 = ((pUp path).length : Int) - 2 by omega] at this
    rw [this,List.dropLast_eq_take]
    rfl
   ·rw [decide_eq_true (by omega),if_neg (by omega)]
    rfl
end Go.Fx.D
