/-
  The law over plain data: true at all inputs. Conditions: none.
-/
import Derived.Test.YteodpoelbdakgaaGreatS18
import Derived.Lib.Mul64
import Derived.WalkKit
namespace Go.Fx.D
open Go Go.Fx
set_option linter.unusedVariables false
set_option linter.unusedSimpArgs false
theorem lV (a : Vec) : aR a = some (decide (VB 1125899906842624 a)) := by
 unfold aR
 have e : decide (VB 1125899906842624 a) = ((decide (a.Mem ≥ 0) && decide (a.Mem ≤ 1125899906842624)) && (decide (a.Cores ≥ 0) && decide (a.Cores ≤ 1125899906842624))) := by
  rw [Bool.eq_iff_iff, decide_eq_true_iff]
  simp only [Bool.and_eq_true, decide_eq_true_eq, VB, ge_iff_le]
 rw [e]
 cases decide (a.Mem ≥ 0) <;> cases decide (a.Mem ≤ 1125899906842624) <;> cases decide (a.Cores ≥ 0) <;> cases decide (a.Cores ≤ 1125899906842624) <;> rfl
theorem rS {a : Vec} (h : VB 1125899906842624 a) : jJ a = some (a, 0) := by
 unfold jJ
 rw [lV, decide_eq_true h]
 rfl
theorem mK {a b : Vec} {n m : Int} (ha : VB n a) (hb : VB m b) (h : n + m ≤ 1125899906842624) : gm a b = some (vplus a b, 0) := by
 have hn : 0 ≤ n ∧ 0 ≤ m := by unfold VB at ha hb; omega
 have hs := rH ha hb
 unfold gm
 rw [lV, lV, decide_eq_true (ha.mono (by omega)), decide_eq_true (hb.mono (by omega))]
 simp only [Ba, Bool.not_true, cond_false]
 have e : (⟨w64 (a.Mem + b.Mem), w64 (a.Cores + b.Cores)⟩ : Vec) = vplus a b := by
  unfold VB vplus at hs
  dsimp only at hs
  rw [aB (by omega) (by omega), aB (by omega) (by omega)]
  rfl
 rw [e, rS (hs.mono h)]
 rfl
theorem vr (a b : Vec) : vplus a b = vplus b a := by unfold vplus; congr 1 <;> omega
theorem tU (a b c : Vec) : vplus (vplus a b) c = vplus a (vplus b c) := by unfold vplus; dsimp only; congr 1 <;> omega
theorem pb (a : Vec) : vplus ⟨0, 0⟩ a = a := by cases a; simp [vplus]
theorem ub (l : List Vec) (z : Vec) : l.foldl vplus z = vplus z (vsum l) := by
 induction l generalizing z with
 | nil => rw [yh, vr, pb]; rfl
 | cons x l ih => rw [List.foldl_cons, ih, jI, tU]
theorem wT {l : List Vec} (hl : l.length ≤ 1000) (h : ∀ v ∈ l, VB 1099511627776 v) : jL l = some (vsum l) := by
 unfold jL
 rw [(dN (fun v i => (v, i)) l vplus (fun k v => VB (1099511627776 * k) v) (fun v => v) (step := iF l) (by omega) ?_ ?_ (s := (⟨0, 0⟩ : Vec)) (by simp [VB])).1]
 ·rw [ub, pb]; rfl
 ·intro k hk s hs
  have hb := h _ (List.getElem_mem hk)
  refine ⟨?_, (rH hs hb).mono (by omega)⟩
  unfold iF
  rw [au hk, ax hk]
  simp only [cond_true, Ba]
  rw [mK hs hb (by omega)]
  rfl
 ·intro s _
  unfold iF
  rw [aD]
  rfl
theorem u64w (x : Int) : IntKind.u64.wrap x = x % 18446744073709551616 := by rw [IntKind.wrap_u64]
theorem u64id {x : Int} (h : 0 ≤ x) (h2 : x < 18446744073709551616) : IntKind.u64.wrap x = x := by rw [u64w]; omega
theorem shr32 (x : Int) : shrK .u64 x 32 = x / 4294967296 := by
 show x.fdiv (2 ^ min (32 : Int).toNat IntKind.u64.bits) = _
 rw [show (2 ^ min (32 : Int).toNat IntKind.u64.bits : Int) = 4294967296 from by decide, Int.fdiv_eq_ediv_of_nonneg _ (by decide)]
theorem andN (a b : Nat) (ha : a < 18446744073709551616) (hb : b < 18446744073709551616) : andK .u64 (a : Int) (b : Int) = ((a &&& b : Nat) : Int) := by
 show IntKind.u64.wrap ((BitVec.ofInt 64 (a : Int) &&& BitVec.ofInt 64 (b : Int)).toNat) = _
 have e : ((BitVec.ofInt 64 (a : Int) &&& BitVec.ofInt 64 (b : Int)).toNat) = a &&& b := by
  rw [BitVec.toNat_and, BitVec.toNat_ofInt, BitVec.toNat_ofInt]
  congr 1 <;> omega
 rw [e]
 have : a &&& b ≤ a := Nat.and_le_left
 exact u64id (by omega) (by omega)
theorem and32 (a : Nat) (ha : a < 18446744073709551616) : andK .u64 (a : Int) 4294967295 = ((a % 4294967296 : Nat) : Int) := by
 have := andN a 4294967295 ha (by omega)
 rw [show ((4294967295 : Nat) : Int) = 4294967295 from rfl] at this
 rw [this, show (4294967295 : Nat) = 2 ^ 32 - 1 from rfl, Nat.and_two_pow_sub_one_eq_mod]
theorem oA (x y : Nat) (hx : x < 18446744073709551616) (hy : y < 18446744073709551616) :
  gB (x : Int) (y : Int) = some (((x * y / 18446744073709551616 : Nat) : Int), ((x * y % 18446744073709551616 : Nat) : Int)) := by
 obtain ⟨h1, h2, h3, h4⟩ := Lib.mul64_hi x y hx hy
 have a1 := Lib.half_mul_le (a := x / 4294967296) (b := y / 4294967296) (by omega) (by omega)
 have a2 := Lib.half_mul_le (a := x / 4294967296) (b := y % 4294967296) (by omega) (by omega)
 have a3 := Lib.half_mul_le (a := x % 4294967296) (b := y / 4294967296) (by omega) (by omega)
 have a4 := Lib.half_mul_le (a := x % 4294967296) (b := y % 4294967296) (by omega) (by omega)
 have w : ∀ a : Nat, a < 18446744073709551616 → IntKind.u64.wrap (a : Int) = (a : Int) := fun a ha => u64id (by omega) (by omega)
 have d : ∀ a : Nat, (a : Int) / 4294967296 = ((a / 4294967296 : Nat) : Int) := fun a => by omega
 have m : ∀ a b : Nat, (a : Int) * (b : Int) = ((a * b : Nat) : Int) := fun a b => (Int.natCast_mul a b).symm
 have p : ∀ a b : Nat, (a : Int) + (b : Int) = ((a + b : Nat) : Int) := fun a b => (Int.natCast_add a b).symm
 unfold gB
 simp only [shr32, d]
 rw [and32 y hy, and32 x hx]
 simp only [m, p]
 rw [w _ (Nat.lt_of_le_of_lt a1 (by omega)), w _ (Nat.lt_of_le_of_lt a2 (by omega)), w _ (Nat.lt_of_le_of_lt a3 (by omega)), w _ (Nat.lt_of_le_of_lt a4 (by omega))]
 simp only [d, p]
 rw [w _ h2]
 simp only [d, p]
 rw [and32 _ h2]
 simp only [p]
 rw [w _ h3]
 simp only [d]
 have hq : x * y / 18446744073709551616 < 18446744073709551616 := by
  have : x * y < 18446744073709551616 * 18446744073709551616 := Nat.mul_lt_mul_of_lt_of_lt hx hy
  omega
 have hs : x / 4294967296 * (y / 4294967296) + (x / 4294967296 * (y % 4294967296) + x % 4294967296 * (y % 4294967296) / 4294967296) / 4294967296 < 18446744073709551616 := by omega
 rw [w _ hs]
 simp only [p]
 rw [h4, w _ hq, u64w]
 simp
theorem uW {n bp : Int} (h0 : 0 ≤ n) (h1 : n ≤ 1099511627776) (b0 : 0 ≤ bp) (b1 : bp ≤ 1000000) : jG n bp = some (n * bp / 10000) ∧ 0 ≤ n * bp / 10000 ∧ n * bp / 10000 ≤ 109951162777600 := by
 obtain ⟨a, rfl⟩ := Int.eq_ofNat_of_zero_le h0
 obtain ⟨b, rfl⟩ := Int.eq_ofNat_of_zero_le b0
 have m3 := jC h0 h1 b0 b1
 have hm : (a : Int) * (b : Int) = ((a * b : Nat) : Int) := (Int.natCast_mul a b).symm
 rw [hm] at m3 ⊢
 refine ⟨?_, by omega, by omega⟩
 unfold jG
 rw [u64id (by omega) (by omega), u64id (by omega) (by omega), oA _ _ (by omega) (by omega)]
 generalize a * b = c at m3 ⊢
 have e1 : c / 18446744073709551616 = 0 := by omega
 have e2 : c % 18446744073709551616 = c := by omega
 rw [e1, e2]
 simp only [Ba]
 unfold mh
 have n0 : nz 10000 = some () := rfl
 have c1 : ((10000 : Int) == 0) = false := rfl
 have c2 : decide ((10000 : Int) ≤ ((0 : Nat) : Int)) = false := rfl
 have c3 : (((0 : Nat) : Int) == 0) = true := rfl
 simp only [c1, c2, c3, n0, cond_true, cond_false, Ba]
 rw [Int.tdiv_eq_ediv_of_nonneg (by omega), u64id (by omega) (by omega), aB (by omega) (by omega)]
theorem m7 {a : Vec} {bp : Int} (ha : VB 1099511627776 a) (b0 : 0 ≤ bp) (b1 : bp ≤ 1000000) : iD a bp = some (a5 a bp, 0) := by
 have ha' := ha
 unfold VB at ha'
 obtain ⟨e1, p1, p2⟩ := uW ha'.1.1 ha'.1.2 b0 b1
 obtain ⟨e2, p3, p4⟩ := uW ha'.2.1 ha'.2.2 b0 b1
 have hv : VB 109951162777600 (a5 a bp) := ⟨⟨p1, p2⟩, p3, p4⟩
 unfold iD
 rw [lV, decide_eq_true (ha.mono (by omega))]
 simp only [Ba, Bool.not_true, cond_false]
 rw [decide_eq_false (by omega), decide_eq_false (by omega)]
 simp only [Ba, cond_false]
 rw [e1, e2]
 simp only [Ba]
 have : (⟨a.Mem * bp / 10000, a.Cores * bp / 10000⟩ : Vec) = a5 a bp := rfl
 rw [this, rS (hv.mono (by omega))]
 rfl
theorem q_ {s : State} (h : SC s) (label : Int) : g6 s label = some (pTotal s label) := by
 unfold g6
 have hn := h.n
 rw [dL (fun (l : List Vec) i => (l, i)) s.Nodes (fun n => n.Up && n.Label == label) (·.Cap) (step := gO s label) (by omega) ?_ ?_]
 ·rw [Ba, wT]
  ·rfl
  ·rw [List.length_map]
   have := List.length_filter_le (fun n : Node => n.Up && n.Label == label) s.Nodes
   omega
  ·intro v hv
   obtain ⟨n, hn, rfl⟩ := List.mem_map.1 hv
   exact (h.b.nc n (List.mem_filter.1 hn).1).mono (by omega)
 ·intro k hk l hl
  unfold gO
  rw [au hk, ax hk]
  simp only [cond_true, Ba]
  rw [ay (by simp; omega) (by omega)]
  cases s.Nodes[k].Up <;> cases s.Nodes[k].Label == label <;> rfl
 ·intro l
  unfold gO
  rw [aD]
  rfl
theorem xH {s : State} (h : SC s) (hp : s.Plans.length ≤ 100) (label : Int) : jP s label = some (pKept s label) := by
 unfold jP
 rw [dL (fun (l : List Vec) i => (l, i)) s.Plans (fun p => p.Label == label && decide (p.From ≤ s.Now) && decide (s.Now < p.Until)) (·.Need) (step := hJ s label) (by omega) ?_ ?_]
 ·rw [Ba, wT]
  ·rfl
  ·rw [List.length_map]
   have := List.length_filter_le (fun p : Plan => p.Label == label && decide (p.From ≤ s.Now) && decide (s.Now < p.Until)) s.Plans
   omega
  ·intro v hv
   obtain ⟨n, hn, rfl⟩ := List.mem_map.1 hv
   exact (h.b.pn n (List.mem_filter.1 hn).1).mono (by omega)
 ·intro k hk l hl
  unfold hJ
  rw [au hk, ax hk]
  simp only [cond_true, Ba]
  rw [ay (by simp; omega) (by omega)]
  cases s.Plans[k].Label == label <;> cases decide (s.Plans[k].From ≤ s.Now) <;> cases decide (s.Now < s.Plans[k].Until) <;> rfl
 ·intro l
  unfold hJ
  rw [aD]
  rfl
theorem oY {α τ ρ : Type} (mk : Int → τ) (l : List α) (p : α → Bool) (g : Int → ρ) (z : ρ) {step : τ → Option (τ ⊕ ρ)} (hn : l.length < 1000000000)
  (h1 : ∀ k (hk : k < l.length), p l[k] = false → step (mk (k : Int)) = some (.inl (mk (w64 ((k : Int) + 1)))))
  (h2 : ∀ k (hk : k < l.length), p l[k] = true → step (mk (k : Int)) = some (.inr (g (k : Int))))
  (h3 : step (mk (l.length : Int)) = some (.inr z)) : (∃ k, ∃ (hk : k < l.length), l.find? p = some l[k] ∧ loop step (mk 0) = some (g (k : Int))) ∨ (l.find? p = none ∧ loop step (mk 0) = some z) := by
 have h := gu (σ := Unit) (Q := fun x => (∃ k, ∃ (hk : k < l.length), l.find? p = some l[k] ∧ x = g (k : Int)) ∨ (l.find? p = none ∧ x = z)) (fun _ i => mk i) l.length (fun k _ => (l.take k).find? p = none) (step := step) hn ?_ ?_ (s := ()) rfl
 ·obtain ⟨x, e, h⟩ := h
  rcases h with ⟨k, hk, h1, rfl⟩ | ⟨h1, rfl⟩
  ·exact .inl ⟨k, hk, h1, e⟩
  ·exact .inr ⟨h1, e⟩
 ·intro k hk _ hs
  cases hp : p l[k] with
  | false =>
   refine fm (h1 k hk hp) (.inl ⟨(), rfl, ?_⟩)
   rw [List.take_succ_eq_append_getElem hk, List.find?_append, hs]
   simp [hp]
  | true =>
   refine fm (h2 k hk hp) (.inr ⟨_, rfl, .inl ⟨k, hk, ?_, rfl⟩⟩)
   conv => lhs; rw [← List.take_append_drop k l]
   rw [List.find?_append, hs, Option.none_or, List.drop_eq_getElem_cons hk, List.find?_cons_of_pos hp]
 ·intro _ hs
  rw [List.take_length] at hs
  exact fm h3 ⟨_, rfl, .inr ⟨hs, rfl⟩⟩
theorem oR {c : Conf} (h : CSmall c) (p : Str) : ii c p = some ((pFind c p).elim (noQ, false) fun q => (q, true)) := by
 unfold ii l7
 have hq := h.q
 have e := oY (fun i => i) c.Queues (fun q => q.Path == p) (fun i => (.inl i : Int ⊕ Unit)) (.inr ()) (step := fH c.Queues fun a' => gZ a'.1 p) (by omega) ?_ ?_ ?_
 ·unfold pFind
  rcases e with ⟨k, hk, e1, e2⟩ | ⟨e1, e2⟩
  ·rw [e1, e2]
   simp only [Ba, Option.elim_some]
   rw [decide_eq_false (by omega), ax hk]
   simp only [cond_false, Ba]
   unfold kC
   rw [ay (by have := h.c _ (List.getElem_mem hk); simp; omega) (by omega)]
   rfl
  ·rw [e1, e2]
   rfl
 ·intro k hk hf
  unfold fH gZ
  rw [au hk, ax hk]
  simp only [cond_true, Ba, hf, cond_false]
 ·intro k hk hf
  unfold fH gZ
  rw [au hk, ax hk]
  simp only [cond_true, Ba, hf]
 ·unfold fH
  rw [aD]
  rfl
theorem qO (p : Str) (hp : p.length < 1000000000) : ∀ m, m ≤ p.length → loop (bZ p 46) ((m : Int) - 1) = some (if ((p.take m).reverse.dropWhile (· != 46)).length = 0 then .inr () else .inl ((((p.take m).reverse.dropWhile (· != 46)).length : Int) - 1)) := by
 intro m
 induction m with
 | zero =>
  intro _
  rw [aN]
  rfl
 | succ m ih =>
  intro hm
  rw [aN]
  have e0 : ((m + 1 : Nat) : Int) - 1 = (m : Int) := by omega
  rw [e0]
  unfold bZ
  rw [decide_eq_true (by omega), ax (show m < p.length by omega)]
  have hb : ((p[m].toNat : Int) == 46) = !(p[m] != 46) := by
   rw [Bool.eq_iff_iff, beq_iff_eq, Bool.not_eq_true', bne_eq_false_iff_eq]
   refine ⟨fun h => ?_, fun h => by rw [h]; rfl⟩
   exact UInt8.toNat_inj.1 (by have : (46 : UInt8).toNat = 46 := rfl; omega)
  have ht : (p.take (m + 1)).reverse = p[m] :: (p.take m).reverse := by rw [List.take_succ_eq_append_getElem (by omega), List.reverse_append]; rfl
  rw [ht, List.dropWhile_cons]
  simp only [cond_true, Ba, hb]
  cases h : (p[m] != 46) with
  | true =>
   simp only [Bool.not_true, cond_false, if_true]
   rw [aB (by omega) (by omega)]
   exact ih (by omega)
  | false =>
   simp only [Bool.not_false, cond_true, Bool.false_eq_true, if_false, List.length_cons, List.length_reverse, List.length_take]
   rw [if_neg (by omega)]
   congr 2
   omega
theorem wk {p : Str} (hp : p.length < 1000000000) : ∃ b, fp p = some (aJ p, b) := by
 have e : cg p [46] = aC p 46 := by
  unfold cg
  rw [show ((([46] : List UInt8).length : Int) == 0) = false from rfl, show ((([46] : List UInt8).length : Int) == 1) = true from rfl]
  simp only [cond_true, cond_false]
  rw [show idx ([46] : List UInt8) 0 = some 46 from rfl, Ba]
  show (aC p 46).bind some = _
  cases aC p 46 <;> rfl
 unfold fp
 rw [e]
 unfold aC
 dsimp only
 rw [aB (by omega) (by omega), qO p hp p.length (Nat.le_refl _), List.take_length, gY]
 have hle := (List.dropWhile_suffix (· != 46) (l := p.reverse)).length_le
 rw [List.length_reverse] at hle
 generalize (p.reverse.dropWhile (· != 46)).length = n at hle ⊢
 by_cases h : n = 0
 ·subst h; exact ⟨false, rfl⟩
 ·rw [if_neg h]
  simp only [Ba]
  rw [decide_eq_false (by omega)]
  unfold slc
  simp only [cond_false]
  rw [if_pos ⟨by omega, by omega, by omega⟩]
  simp only [Ba, Int.toNat_zero, List.drop_zero]
  refine ⟨true, ?_⟩
  congr 3
  omega
theorem sE : ∀ (n : Nat) (p : Str) (l : List Str), p.length ≤ n → p.length + l.length ≤ 1000000 → loop iK (p, l) = some (l ++ pUp p)
 | n, p, l, h1, h2 => by
  by_cases h : p = []
  ·subst h
   rw [aN]
   simp [iK, gA]
  ·have hl := dF h
   have hb : (p == []) = false := by simp [h]
   have hs : iK (p, l) = some (.inl (aJ p, l ++ [p])) := by
    unfold iK
    simp only [hb, Bool.not_false, cond_true]
    obtain ⟨b, e⟩ := wk (p := p) (by omega)
    rw [ay (by simp; omega) (by omega), e]
    rfl
   rw [aN, hs]
   dsimp only
   match n with
   | 0 => omega
   | n + 1 =>
    rw [sE n (aJ p) (l ++ [p]) (by omega) (by simp; omega), fw h]
    simp
theorem wv {p : Str} (h : p.length ≤ 1000000) : lM p = some (pUp p) := by
 unfold lM
 rw [sE p.length p [] (Nat.le_refl _) (by simpa using h)]
 rfl
theorem sF {s : State} (h : SC s) {path : Str} (hp : path.length ≤ 1000000) {label : Int} (h0 : 0 ≤ label) (h1 : label < s.Conf.Labels.length) (least : Bool) {part : TupT fam [.st 1] → Option Int}
  (hpart : ∀ c : Cap, part (c, ()) = some (bif least then c.Least else c.Most)) : iN s path label part = some (pDown s path label least) := by
 have hn := h.n
 unfold iN pDown
 rw [wv hp, Ba, oR h.b.cf]
 cases hf : pFind s.Conf path with
 | none => simp
 | some q =>
  simp only [Option.elim_some, Ba, Bool.not_true, cond_false, Option.isSome_some, true_and]
  rw [if_pos ⟨h0, h1⟩, q_ h, Ba]
  have hfound := ju h.c path.length path (Nat.le_refl _) (by rw [hf]; rfl)
  have hul := lK path
  have hpos : 0 < (pUp path).length := by
   have : path ≠ [] := by
    intro e
    obtain ⟨hm, hq⟩ := f_ hf
    obtain ⟨i, hi, rfl⟩ := List.getElem_of_mem hm
    have := (h.c.q i hi).path.root
    rw [hq, e] at this
    simp at this
   rw [fw this]
   simp
  rw [aB (by omega) (by omega)]
  have key : ∀ m, m ≤ (pUp path).length → ∀ v, VB (s.Nodes.length * 1073741824) v → loop (hS s label part (pUp path)) ((⟨0, 0⟩ : Vec), v, (m : Int) - 1) = some (.inr (⟨0, 0⟩, ((pUp path).take m).reverse.foldl (fun v p => a5 v (bpOf s.Conf label least p)) v)) := by
   intro m
   induction m with
   | zero =>
    intro _ v _
    rw [aN]
    rfl
   | succ m ih =>
    intro hm v hv
    have hfm := hfound _ (List.getElem_mem (show m < (pUp path).length by omega))
    have hbp := rC h.c hfm h0 h1 least
    have hs : hS s label part (pUp path) ((⟨0, 0⟩ : Vec), v, ((m + 1 : Nat) : Int) - 1) = some (.inl (⟨0, 0⟩, a5 v (bpOf s.Conf label least (pUp path)[m]), (m : Int) - 1)) := by
     unfold hS
     dsimp only
     rw [show ((m + 1 : Nat) : Int) - 1 = (m : Int) by omega, decide_eq_true (by omega), aH (show m < (pUp path).length by omega)]
     simp only [cond_true, Ba, Bb (show m < (pUp path).length by omega)]
     obtain ⟨q', e1, e2, e3, e4⟩ := nA h.c hfm h0 h1
     rw [oR h.b.cf, e1]
     simp only [Option.elim_some, Ba, Bool.not_true, cond_false]
     rw [decide_eq_false (show ¬ label < 0 by omega), decide_eq_false (show ¬ label ≥ (q'.Caps.length : Int) by omega)]
     simp only [cond_false, Ba]
     have hin : inb label q'.Caps.length = some label.toNat := by
      unfold inb
      rw [if_pos ⟨by omega, e2⟩]
     rw [hin]
     simp only [Ba, e3]
     rw [hpart]
     simp only [Ba]
     rw [show (bif least then (capAt s.Conf label (pUp path)[m]).Least else (capAt s.Conf label (pUp path)[m]).Most) = bpOf s.Conf label least (pUp path)[m] from rfl]
     rw [m7 (hv.mono (by omega)) hbp.1 (by omega), Ba, aB (by omega) (by omega)]
    rw [aN, hs]
    dsimp only
    rw [ih (by omega) _ (mF hv hbp.1 hbp.2), List.take_succ_eq_append_getElem (by omega), List.reverse_append]
    rfl
  have := key ((pUp path).length - 1) (by omega) _ (kq h.b label)
  rw [show (((pUp path).length - 1 : Nat) : Int) - 1 = ((pUp path).length : Int) - 2 by omega] at this
  rw [this, List.dropLast_eq_take]
  rfl
theorem mD {s : State} (h : SC s) {path : Str} (hp : path.length ≤ 1000000) {label : Int} (h0 : 0 ≤ label) (h1 : label < s.Conf.Labels.length) : fJ s path label = some (pDown s path label true) := by
 unfold fJ; rw [sF h hp h0 h1 true (fun c => rfl)]; rfl
theorem yc {s : State} (h : SC s) {path : Str} (hp : path.length ≤ 1000000) {label : Int} (h0 : 0 ≤ label) (h1 : label < s.Conf.Labels.length) : jW s path label = some (pDown s path label false) := by
 unfold jW; rw [sF h hp h0 h1 false (fun c => rfl)]; rfl
theorem zm {s : State} (h : SC s) {path : Str} (hp : path.length ≤ 1000000) {label : Int} (h0 : 0 ≤ label) (h1 : label < s.Conf.Labels.length) : jR s path label = some (pUser s path label) := by
 unfold jR pUser
 have hn := h.n
 rw [oR h.b.cf, Ba, mD h hp h0 h1, Ba]
 cases hf : pFind s.Conf path with
 | none =>
  have : pDown s path label true = ⟨0, 0⟩ := by unfold pDown; rw [if_neg (by rw [hf]; simp)]
  rw [this]
  simp only [Option.elim_none]
  rw [m7 (by unfold VB; simp) (by unfold noQ; decide) (by unfold noQ; decide)]
  rfl
 | some q =>
  have hu := oT h.c hf
  simp only [Option.elim_some]
  rw [m7 ((h.down_bd label true).mono (by omega)) (by omega) hu.2]
  rfl
theorem nh : ∀ a : Str, Op.bytesLess a a = false
 | [] => rfl
 | x :: a => by
  unfold Op.bytesLess
  rw [nh a]
  have : ¬ x < x := by rw [UInt8.lt_iff_toNat_lt]; omega
  simp [this]
theorem oS : ∀ {a b c : Str}, Op.bytesLess a b = true → Op.bytesLess b c = true → Op.bytesLess a c = true
 | _, [], _, h, _ => by simp [Op.bytesLess] at h
 | _, _ :: _, [], _, h => by simp [Op.bytesLess] at h
 | [], y :: b, z :: c, _, _ => by simp [Op.bytesLess]
 | x :: a, y :: b, z :: c, h1, h2 => by
  unfold Op.bytesLess at *
  simp only [Bool.or_eq_true, decide_eq_true_eq, Bool.and_eq_true, beq_iff_eq] at *
  simp only [UInt8.lt_iff_toNat_lt] at *
  rcases h1 with h1 | ⟨rfl, h1⟩
  ·rcases h2 with h2 | ⟨rfl, h2⟩
   ·left; omega
   ·left; exact h1
  ·rcases h2 with h2 | ⟨rfl, h2⟩
   ·left; exact h2
   ·right; exact ⟨rfl, oS h1 h2⟩
theorem rW : ∀ {a b : Str}, Op.bytesLess a b = false → a ≠ b → Op.bytesLess b a = true
 | [], [], _, h => absurd rfl h
 | [], _ :: _, h, _ => by simp [Op.bytesLess] at h
 | _ :: _, [], _, _ => by simp [Op.bytesLess]
 | x :: a, y :: b, h, hn => by
  unfold Op.bytesLess at *
  simp only [Bool.or_eq_false_iff, decide_eq_false_iff_not, Bool.and_eq_false_iff, beq_eq_false_iff_ne, Bool.or_eq_true, decide_eq_true_eq, Bool.and_eq_true, beq_iff_eq] at *
  simp only [UInt8.lt_iff_toNat_lt] at *
  by_cases hx : x = y
  ·subst hx
   right
   refine ⟨rfl, rW ?_ (fun e => hn (by rw [e]))⟩
   rcases h.2 with h | h
   ·exact absurd rfl h
   ·exact h
  ·left
   have : x.toNat ≠ y.toNat := fun e => hx (UInt8.toNat_inj.1 e)
   omega
theorem v7 {c : Conf} (h : ConfOk c) : (c.Queues.map (·.Path)).Pairwise fun x y => Op.bytesLess x y = true := by
 have hn : ∀ j (hj : j + 1 < c.Queues.length), Op.bytesLess c.Queues[j].Path c.Queues[j + 1].Path = true := by
  intro j hj
  have := (h.q (j + 1) hj).less c.Queues[j] (by omega) (by simp)
  unfold strLe at this
  rw [Bool.or_eq_false_iff, beq_eq_false_iff_ne] at this
  exact rW this.1 this.2
 have key : ∀ j i (hij : i < j) (hj : j < c.Queues.length), Op.bytesLess (c.Queues[i]'(by omega)).Path c.Queues[j].Path = true := by
  intro j
  induction j with
  | zero => intro i hij; omega
  | succ j ih =>
   intro i hij hj
   by_cases he : i = j
   ·subst he; exact hn i hj
   ·exact oS (ih i (by omega) (by omega)) (hn j hj)
 rw [List.pairwise_iff_getElem]
 intro i j hi hj hij
 rw [List.getElem_map, List.getElem_map]
 exact key j i hij (by simpa using hj)
theorem uf {c : Conf} (h : ConfOk c) : (c.Queues.map (·.Path)).Nodup :=
 (v7 h).imp fun hab e => by rw [e, nh] at hab; cases hab
theorem vY {c : Conf} (h : ConfOk c) (p : Str) : (pKids c p).Nodup := by
 unfold pKids
 split
 ·exact List.nodup_nil
 ·exact (List.filter_sublist.map _).nodup (uf h)
theorem tC (q : Str) : (46 ∉ q ∧ aJ q = []) ∨ ∃ r, 46 ∉ r ∧ q = aJ q ++ 46 :: r := by
 have h0 : q.reverse.takeWhile (· != 46) ++ q.reverse.dropWhile (· != 46) = q.reverse := List.takeWhile_append_dropWhile
 have h1 : 46 ∉ (q.reverse.takeWhile (· != 46)).reverse := by
  intro h
  have := List.all_eq_true.1 (List.all_takeWhile (p := (· != 46)) (l := q.reverse)) _ (List.mem_reverse.1 h)
  simp at this
 have h2 : q = (q.reverse.dropWhile (· != 46)).reverse ++ (q.reverse.takeWhile (· != 46)).reverse := by rw [← List.reverse_append, h0, List.reverse_reverse]
 cases hd : q.reverse.dropWhile (· != 46) with
 | nil =>
  left
  rw [hd] at h2
  refine ⟨?_, by unfold aJ; rw [hd]; rfl⟩
  rw [h2]
  simpa using h1
 | cons x d =>
  right
  have hx : x = 46 := by
   have : (q.reverse.dropWhile (· != 46)).head? = some x := by rw [hd]; rfl
   have := List.head?_dropWhile_not (· != 46) q.reverse
   rw [hd] at this
   simpa using this
  refine ⟨(q.reverse.takeWhile (· != 46)).reverse, h1, ?_⟩
  unfold aJ
  rw [hd]
  conv => lhs; rw [h2, hd, hx]
  simp
theorem AE {p u r : Str} (hr : 46 ∉ r) : (p ++ [46]) <+: (u ++ 46 :: r) ↔ p = u ∨ (p ++ [46]) <+: u := by
 constructor
 ·intro h
  by_cases h1 : p.length < u.length
  ·right
   exact List.prefix_of_prefix_length_le h (List.prefix_append _ _) (by simp; omega)
  ·by_cases h2 : p.length = u.length
   ·left
    have := List.prefix_of_prefix_length_le (List.IsPrefix.trans (List.prefix_append p [46]) h) (List.prefix_append u _) (by omega)
    exact List.IsPrefix.eq_of_length this h2
   ·exfalso
    have hp : u ++ [46] <+: p := by
     refine List.prefix_of_prefix_length_le (l₃ := u ++ 46 :: r) ⟨r, by simp⟩ (List.IsPrefix.trans (List.prefix_append p [46]) h) (by simp; omega)
    obtain ⟨z, rfl⟩ := hp
    obtain ⟨y, hy⟩ := h
    have : z ++ [46] ++ y = r := by
     have : u ++ (46 :: (z ++ [46] ++ y)) = u ++ (46 :: r) := by rw [← hy]; simp
     have := List.append_cancel_left this
     simpa using this
    exact hr (by rw [← this]; simp)
 ·rintro (rfl | h)
  ·exact ⟨r, by simp⟩
  ·exact List.IsPrefix.trans h (List.prefix_append _ _)
theorem wo {p : Str} (hp : p ≠ []) : ∀ (n : Nat) (q : Str), q.length ≤ n → (p ∈ pUp q ↔ p = q ∨ (p ++ [46]) <+: q)
 | n, q, hn => by
  by_cases hq : q = []
  ·subst hq
   rw [gA]
   constructor
   ·intro h; cases h
   ·rintro (h | h)
    ·exact absurd h hp
    ·have := h.length_le; simp at this
  ·rw [fw hq, List.mem_cons]
   refine or_congr Iff.rfl ?_
   have ha := dF hq
   match n with
   | 0 => omega
   | n + 1 =>
    rw [wo hp n (aJ q) (by omega)]
    rcases tC q with ⟨h1, h2⟩ | ⟨r, h1, h2⟩
    ·rw [h2]
     constructor
     ·rintro (h | h)
      ·exact absurd h hp
      ·have := h.length_le; simp at this
     ·intro h
      exact absurd (h.subset (by simp)) h1
    ·conv => rhs; rw [h2]
     rw [AE h1]
def pHasP (q p : Str) : Bool := q == p || (p ++ [46]).isPrefixOf q
theorem Av {q : Str} (hq : PathOk q) (p : Str) : pHasP q p = a8 q p := by
 have hqn : q ≠ [] := by
  intro e
  have := hq.root
  rw [e] at this
  simp at this
 unfold pHasP a8
 rw [Bool.eq_iff_iff, Bool.or_eq_true, beq_iff_eq, List.isPrefixOf_iff_prefix, List.contains_iff_mem]
 by_cases hp : p = []
 ·subst hp
  constructor
  ·rintro (h | h)
   ·exact absurd h hqn
   ·exfalso
    rcases hq.root with h1 | h1
    ·rw [h1] at h; revert h; decide
    ·obtain ⟨z, rfl⟩ := h1
     obtain ⟨y, hy⟩ := h
     have := congrArg List.head? hy
     simp at this
  ·intro h
   exfalso
   have key : ∀ (n : Nat) (x : Str), x.length ≤ n → [] ∉ pUp x := by
    intro n
    induction n with
    | zero =>
     intro x hx
     have : x = [] := List.length_eq_zero_iff.1 (by omega)
     subst this
     simp [gA]
    | succ n ih =>
     intro x hx
     by_cases h : x = []
     ·subst h; simp [gA]
     ·have := dF h
      rw [fw h]
      simp only [List.mem_cons, not_or]
      exact ⟨fun e => h e.symm, ih _ (by omega)⟩
   exact key _ _ (Nat.le_refl _) h
 ·rw [wo hp q.length q (Nat.le_refl _)]
  constructor
  ·rintro (rfl | h)
   ·exact .inl rfl
   ·exact .inr h
  ·rintro (rfl | h)
   ·exact .inl rfl
   ·exact .inr h
theorem w8 (s p : Str) : eG s p = some (p.isPrefixOf s) := by
 unfold eG eX
 by_cases h : p.length ≤ s.length
 ·rw [decide_eq_true (by omega)]
  unfold slc
  simp only [cond_true]
  rw [if_pos ⟨by omega, by omega, by omega⟩]
  simp only [Ba, Int.toNat_zero, List.drop_zero, Int.toNat_natCast]
  congr 1
  rw [Bool.eq_iff_iff, beq_iff_eq, List.isPrefixOf_iff_prefix, List.prefix_iff_eq_take]
  exact eq_comm
 ·rw [decide_eq_false (by omega)]
  have : p.isPrefixOf s = false := by
   rw [Bool.eq_false_iff]
   intro hc
   have := (List.isPrefixOf_iff_prefix.1 hc).length_le
   omega
  rw [this]
  rfl
theorem A3 {v : View} {a : App} (hp : v.path.length ≤ 1000000) (ha : PathOk a.Queue) : gN v a = some (a8 a.Queue v.path && (v.user == (-1) || a.User == v.user)) := by
 unfold gN
 rw [ze (by simp; omega), Ba, w8, ← Av ha]
 unfold pHasP
 cases a.Queue == v.path <;> cases (v.path ++ [46]).isPrefixOf a.Queue <;> cases v.user == (-1) <;> rfl
theorem yK {v : View} (h : v.s.Apps.length ≤ 100000) (c : Cont) : fq v c = some ((appAt v.s c.App).elim (noA, false) fun x => (x, true)) := by
 unfold fq
 have e := cT (fun i => (noA, i)) v.s.Apps (fun x => x.Id == c.App) (fun x => (.inl (x, true) : (App × Bool) ⊕ App)) (.inr noA) (step := cD v c) (by omega) ?_ ?_ ?_
 ·unfold noA at e
  rw [e]
  unfold appAt noA
  cases v.s.Apps.find? fun x => x.Id == c.App <;> rfl
 ·intro k hk hf
  unfold cD
  rw [au hk, ax hk]
  simp only [cond_true, Ba, hf, cond_false]
 ·intro k hk hf
  unfold cD
  rw [au hk, ax hk]
  simp only [cond_true, Ba, hf]
 ·unfold cD
  rw [aD]
  rfl
theorem tI {N : Nat} {s : State} (h : Inv N s) {path : Str} (hp : path.length ≤ 1000000) (label user : Int) : d9 ⟨s, path, label, user⟩ = some (pUsed s path label (user == (-1)) user) := by
 have hcl := h.cl
 have hal := h.al
 unfold d9
 rw [fe (fun v i => (v, i)) s.Conts (pHas s path label (user == (-1)) user) (·.Size) (step := d_ ⟨s, path, label, user⟩) (by omega) (fun c hc _ => ((h.sb.cs c hc).mono (by omega))) ?_ ?_]
 ·rfl
 ·intro k hk v hv
  unfold d_
  dsimp only
  rw [au hk]
  simp only [ax hk, cond_true, Ba]
  rw [yK (by dsimp only; omega), Ba, mK hv (h.sb.cs _ (List.getElem_mem hk)) (by omega)]
  unfold pHas
  dsimp only
  cases ha : appAt s s.Conts[k].App with
  | none => simp
  | some a =>
   simp only [Option.elim_some, Ba, cond_true]
   rw [A3 (by dsimp only; omega) (h.ak a (fh (id := fun x : App => x.Id) ha).1).path]
   dsimp only
   rcases Bool.eq_false_or_eq_true (a8 a.Queue path) with hb | hb <;> simp only [hb] <;> cases s.Conts[k].Label == label <;> cases user == (-1) <;> cases a.User == user <;> rfl
 ·intro v
  unfold d_
  dsimp only
  rw [aD]
  rfl
theorem xf (s : State) (path : Str) (label u w : Int) : pUsed s path label true u = pUsed s path label true w := by
 have : pHas s path label true u = pHas s path label true w := by
  funext c
  unfold pHas
  cases appAt s c.App <;> simp
 unfold pUsed
 rw [this]
theorem oQ {N : Nat} {s : State} (h : Inv N s) {path : Str} (hp : path.length ≤ 1000000) (label : Int) : gz s path label = some (pUsed s path label true 0) := by
 unfold gz
 have := tI h hp label (-1)
 rw [show ((-1 : Int) == -1) = true from rfl, xf s path label (-1) 0] at this
 rw [this]
 rfl
theorem yV {N : Nat} {s : State} (h : Inv N s) {path : Str} (hp : path.length ≤ 1000000) (label : Int) {user : Int} (hu : 0 ≤ user) : gF s path label user = some (pUsed s path label false user) := by
 unfold gF
 have hb : (user == -1) = false := by simp only [beq_eq_false_iff_ne]; omega
 have := tI h hp label user
 rw [hb] at this
 rw [hb, cond_false, this]
 rfl
theorem i_ (a b : Vec) : ee a b = some (vfits a b) := by
 unfold ee vfits
 cases decide (a.Mem ≤ b.Mem) <;> rfl
theorem yQ {s : State} (h : SC s) {k : Int} (h0 : 0 ≤ k) (h1 : k < s.Conf.Labels.length) (least : Bool) : pDown s root k least = pTotal s k := by
 unfold pDown
 rw [if_pos ⟨pE h.c, h0, h1⟩]
 rfl
theorem xS {N : Nat} {s : State} (h : Inv N s) {path : Str} (hp : path.length ≤ 1000000) {label : Int} (h0 : 0 ≤ label) (h1 : label < s.Conf.Labels.length) {size : Vec} (hs : VB 1073741824 size) : jU s path label size = some (pRoom s path label size) := by
 have hl := lK path
 have hcl := h.cl
 have hnl := h.nl
 have hpl := h.pl
 have sc := h.sc
 unfold jU
 rw [wv hp, Ba]
 have st : ∀ k (hk : k < (pUp path).length), fE s label size (pUp path) (k : Int) = some (bif dP s label size (pUp path)[k] then .inl (w64 ((k : Int) + 1)) else .inr (.inl false)) := by
  intro k hk
  unfold fE dP
  rw [au hk, aH hk]
  simp only [cond_true, Ba, Bb hk]
  have hx : (pUp path)[k].length ≤ 1000000 := by have := sg (List.getElem_mem hk); omega
  rw [oQ h hx, Ba, mK (lG sc.b _ label true 0) hs (by omega), Ba]
  simp only [show ((0 : Int) != 0) = false from rfl, cond_false]
  rw [yc sc hx h0 h1, Ba, i_, Ba, Ba]
  have hT := kq sc.b label
  have hK := uN sc.b label
  have e1 : (⟨imax (w64 ((pTotal s label).Mem - (pKept s label).Mem)) 0, imax (w64 ((pTotal s label).Cores - (pKept s label).Cores)) 0⟩ : Vec) = vless (pTotal s label) (pKept s label) := by
   unfold VB at hT hK
   unfold vless
   rw [aB (by omega) (by omega), aB (by omega) (by omega)]
  cases hb : vfits (vplus (pUsed s (pUp path)[k] label true 0) size) (pDown s (pUp path)[k] label false) with
  | false => rfl
  | true =>
   simp only [Bool.not_true, cond_false, Bool.true_and]
   rw [q_ sc, xH sc (by omega)]
   simp only [Ba]
   rw [e1]
   by_cases hr : (pUp path)[k] = root
   ·have hm : (vless (pTotal s label) (pKept s label)).Mem = imax (w64 ((pTotal s label).Mem - (pKept s label).Mem)) 0 := by rw [← e1]
    have hc : (vless (pTotal s label) (pKept s label)).Cores = imax (w64 ((pTotal s label).Cores - (pKept s label).Cores)) 0 := by rw [← e1]
    rw [← hm, ← hc]
    rw [hr, yQ sc h0 h1] at hb
    rw [hr]
    generalize vless (pTotal s label) (pKept s label) = F
    generalize vplus (pUsed s root label true 0) size = V at hb ⊢
    generalize pTotal s label = T at hb ⊢
    simp only [show ((root : Str) == [114, 111, 111, 116]) = true from rfl, cond_true, Bool.not_true, Bool.false_or]
    cases hq : (F.Mem == T.Mem) && (F.Cores == T.Cores) with
    | true =>
     have : F = T := by
      rw [Bool.and_eq_true, beq_iff_eq, beq_iff_eq] at hq
      cases F; cases T; simp at hq; simp [hq]
     rw [this, hb]
     rfl
    | false =>
     simp only [Bool.not_false, cond_true, i_, Ba]
     cases vfits V F <;> rfl
   ·have : ((pUp path)[k] == ([114, 111, 111, 116] : Str)) = false := by simpa using hr
    simp only [this, cond_false, Ba, Bool.not_false, Bool.true_or, cond_true]
 have e := cT (fun i => i) (pUp path) (fun x => !(dP s label size x)) (fun q => (.inl false : Bool ⊕ Unit)) (.inr ()) (step := fE s label size (pUp path)) (by omega) ?_ ?_ ?_
 ·rw [e]
  unfold pRoom
  rw [← sN]
  cases (pUp path).find? fun x => !(dP s label size x) <;> rfl
 ·intro k hk hf
  rw [st k hk]
  simp only [Bool.not_eq_false'] at hf
  rw [hf]; rfl
 ·intro k hk hf
  rw [st k hk]
  simp only [Bool.not_eq_true'] at hf
  rw [hf]; rfl
 ·unfold fE
  rw [aD]
  rfl
def Ok (v : Vec) : Prop := 0 ≤ v.Mem ∧ v.Mem ≤ 1125899906842624 ∧ 0 ≤ v.Cores ∧ v.Cores ≤ 1125899906842624
instance (v : Vec) : Decidable (Ok v) := by unfold Ok; exact inferInstance
theorem xX (v : Vec) : aR v = some (decide (Ok v)) := by
 unfold aR Ok
 by_cases h1 : 0 ≤ v.Mem <;> by_cases h2 : v.Mem ≤ 1125899906842624 <;> by_cases h3 : 0 ≤ v.Cores <;> by_cases h4 : v.Cores ≤ 1125899906842624 <;> simp [h1, h2, h3, h4]
theorem Aw (v : Vec) : aS v = some (decide (Ok v)) := by
 unfold aS eO Ok
 by_cases h1 : 0 ≤ v.Mem <;> by_cases h2 : v.Mem ≤ 1125899906842624 <;> by_cases h3 : 0 ≤ v.Cores <;> by_cases h4 : v.Cores ≤ 1125899906842624 <;> simp [h1, h2, h3, h4]
def rcmp (n a m b : Int) : Int := if a = 0 then (if b = 0 then 0 else 1) else if b = 0 then -1 else if n * b < m * a then -1 else if n * b = m * a then 0 else 1
theorem pF (r q : Ratio) (h1 : 0 ≤ r.n ∧ r.n ≤ 1125899906842624) (h2 : 0 ≤ r.of ∧ r.of ≤ 1125899906842624) (h3 : 0 ≤ q.n ∧ q.n ≤ 1125899906842624) (h4 : 0 ≤ q.of ∧ q.of ≤ 1125899906842624) :
  cJ r q = some (rcmp r.n r.of q.n q.of) := by
 obtain ⟨n, a⟩ := r
 obtain ⟨m, b⟩ := q
 dsimp only at *
 obtain ⟨n, rfl⟩ := Int.eq_ofNat_of_zero_le h1.1
 obtain ⟨a, rfl⟩ := Int.eq_ofNat_of_zero_le h2.1
 obtain ⟨m, rfl⟩ := Int.eq_ofNat_of_zero_le h3.1
 obtain ⟨b, rfl⟩ := Int.eq_ofNat_of_zero_le h4.1
 unfold cJ rcmp
 dsimp only
 rw [oA n b (by omega) (by omega), oA m a (by omega) (by omega)]
 by_cases ha : a = 0
 ·subst ha
  by_cases hb : b = 0
  ·subst hb; rfl
  ·have e : (((b : Nat) : Int) == 0) = false := by rw [beq_eq_false_iff_ne]; omega
   rw [if_pos (show (((0 : Nat) : Int)) = 0 from rfl), if_neg (show ¬ ((b : Nat) : Int) = 0 by omega)]
   simp [e]
 ·have ea : (((a : Nat) : Int) == 0) = false := by rw [beq_eq_false_iff_ne]; omega
  rw [if_neg (show ¬ ((a : Nat) : Int) = 0 by omega)]
  by_cases hb : b = 0
  ·subst hb
   rw [if_pos (show (((0 : Nat) : Int)) = 0 from rfl)]
   simp [ea]
  ·have eb : (((b : Nat) : Int) == 0) = false := by rw [beq_eq_false_iff_ne]; omega
   rw [if_neg (show ¬ ((b : Nat) : Int) = 0 by omega)]
   simp only [ea, eb, cond_false, Ba]
   rw [← Int.natCast_mul, ← Int.natCast_mul]
   generalize n * b = X
   generalize m * a = Y
   rcases Nat.lt_trichotomy X Y with h | h | h
   ·rw [if_pos (by omega)]
    by_cases hh : X / 18446744073709551616 < Y / 18446744073709551616
    ·have : decide (((X / 18446744073709551616 : Nat) : Int) < ((Y / 18446744073709551616 : Nat) : Int)) = true := by rw [decide_eq_true_eq]; omega
     simp only [this, cond_true, Ba]
    ·have e1 : decide (((X / 18446744073709551616 : Nat) : Int) < ((Y / 18446744073709551616 : Nat) : Int)) = false := by rw [decide_eq_false_iff_not]; omega
     have e2 : (((X / 18446744073709551616 : Nat) : Int) == ((Y / 18446744073709551616 : Nat) : Int)) = true := by rw [beq_iff_eq]; omega
     have e3 : decide (((X % 18446744073709551616 : Nat) : Int) < ((Y % 18446744073709551616 : Nat) : Int)) = true := by rw [decide_eq_true_eq]; omega
     simp only [e1, e2, e3, cond_true, cond_false, Ba]
   ·subst h
    rw [if_neg (by omega), if_pos rfl]
    have e1 : ∀ x : Int, decide (x < x) = false := fun x => by rw [decide_eq_false_iff_not]; omega
    simp only [e1, beq_self_eq_true, cond_true, cond_false, Ba]
   ·rw [if_neg (by omega), if_neg (by omega)]
    by_cases hh : Y / 18446744073709551616 < X / 18446744073709551616
    ·have e1 : decide (((X / 18446744073709551616 : Nat) : Int) < ((Y / 18446744073709551616 : Nat) : Int)) = false := by rw [decide_eq_false_iff_not]; omega
     have e2 : (((X / 18446744073709551616 : Nat) : Int) == ((Y / 18446744073709551616 : Nat) : Int)) = false := by rw [beq_eq_false_iff_ne]; omega
     simp only [e1, e2, cond_true, cond_false, Ba]
    ·have e1 : decide (((X / 18446744073709551616 : Nat) : Int) < ((Y / 18446744073709551616 : Nat) : Int)) = false := by rw [decide_eq_false_iff_not]; omega
     have e2 : (((X / 18446744073709551616 : Nat) : Int) == ((Y / 18446744073709551616 : Nat) : Int)) = true := by rw [beq_iff_eq]; omega
     have e3 : decide (((X % 18446744073709551616 : Nat) : Int) < ((Y % 18446744073709551616 : Nat) : Int)) = false := by rw [decide_eq_false_iff_not]; omega
     have e4 : (((X % 18446744073709551616 : Nat) : Int) == ((Y % 18446744073709551616 : Nat) : Int)) = false := by rw [beq_eq_false_iff_ne]; omega
     simp only [e1, e2, e3, e4, cond_true, cond_false, Ba]
theorem shr25 (x : Int) : shrK .i64 x 25 = x / 33554432 := by
 show x.fdiv (2 ^ min (25 : Int).toNat IntKind.i64.bits) = _
 rw [show (2 ^ min (25 : Int).toNat IntKind.i64.bits : Int) = 33554432 from by decide, Int.fdiv_eq_ediv_of_nonneg _ (by decide)]
theorem shr50 (x : Int) : shrK .i64 x 50 = x / 1125899906842624 := by
 show x.fdiv (2 ^ min (50 : Int).toNat IntKind.i64.bits) = _
 rw [show (2 ^ min (50 : Int).toNat IntKind.i64.bits : Int) = 1125899906842624 from by decide, Int.fdiv_eq_ediv_of_nonneg _ (by decide)]
theorem shl25 (x : Int) : shlK .i64 x 25 = w64 (x * 33554432) := by
 show IntKind.i64.wrap (x * 2 ^ min (25 : Int).toNat IntKind.i64.bits) = _
 rw [show (2 ^ min (25 : Int).toNat IntKind.i64.bits : Int) = 33554432 from by decide]
theorem andI (a b : Nat) (ha : a < 9223372036854775808) (hb : b < 9223372036854775808) : andK .i64 (a : Int) (b : Int) = ((a &&& b : Nat) : Int) := by
 show IntKind.i64.wrap ((BitVec.ofInt 64 (a : Int) &&& BitVec.ofInt 64 (b : Int)).toNat) = _
 have e : ((BitVec.ofInt 64 (a : Int) &&& BitVec.ofInt 64 (b : Int)).toNat) = a &&& b := by
  rw [BitVec.toNat_and, BitVec.toNat_ofInt, BitVec.toNat_ofInt]
  congr 1 <;> omega
 rw [e]
 have : a &&& b ≤ a := Nat.and_le_left
 exact aB (by omega) (by omega)
theorem and25 (a : Nat) (ha : a < 9223372036854775808) : andK .i64 (a : Int) 33554431 = ((a % 33554432 : Nat) : Int) := by
 have := andI a 33554431 ha (by omega)
 rw [show ((33554431 : Nat) : Int) = 33554431 from rfl] at this
 rw [this, show (33554431 : Nat) = 2 ^ 25 - 1 from rfl, Nat.and_two_pow_sub_one_eq_mod]
theorem and50 (a : Nat) (ha : a < 9223372036854775808) : andK .i64 (a : Int) 1125899906842623 = ((a % 1125899906842624 : Nat) : Int) := by
 have := andI a 1125899906842623 ha (by omega)
 rw [show ((1125899906842623 : Nat) : Int) = 1125899906842623 from rfl] at this
 rw [this, show (1125899906842623 : Nat) = 2 ^ 50 - 1 from rfl, Nat.and_two_pow_sub_one_eq_mod]
theorem u0 (a b : Nat) (ha : a ≤ 1125899906842624) (hb : b ≤ 1125899906842624) : eH (a : Int) (b : Int) = some (((a * b / 1125899906842624 : Nat) : Int), ((a * b % 1125899906842624 : Nat) : Int)) := by
 have le : ∀ {x y X Y : Nat}, x ≤ X → y ≤ Y → x * y ≤ X * Y := fun h k => Nat.mul_le_mul h k
 have p1 := le (show a / 33554432 ≤ 33554432 by omega) (show b / 33554432 ≤ 33554432 by omega)
 have p2 := le (show a / 33554432 ≤ 33554432 by omega) (show b % 33554432 ≤ 33554432 by omega)
 have p3 := le (show a % 33554432 ≤ 33554432 by omega) (show b / 33554432 ≤ 33554432 by omega)
 have p4 := le (show a % 33554432 ≤ 33554432 by omega) (show b % 33554432 ≤ 33554432 by omega)
 have hab : a * b = a / 33554432 * (b / 33554432) * 1125899906842624 + (a / 33554432 * (b % 33554432) + a % 33554432 * (b / 33554432)) * 33554432 + a % 33554432 * (b % 33554432) := by
  have e1 : a = a / 33554432 * 33554432 + a % 33554432 := by omega
  have e2 : b = b / 33554432 * 33554432 + b % 33554432 := by omega
  have := Lib.split_mul (a / 33554432) (a % 33554432) (b / 33554432) (b % 33554432) 33554432
  rw [← e1, ← e2] at this
  rw [this]
 have w : ∀ x : Nat, x ≤ 9223372036854775807 → w64 (x : Int) = (x : Int) := fun x hx => aB (by omega) (by omega)
 have d : ∀ x : Nat, (x : Int) / 33554432 = ((x / 33554432 : Nat) : Int) := fun x => by omega
 have d5 : ∀ x : Nat, (x : Int) / 1125899906842624 = ((x / 1125899906842624 : Nat) : Int) := fun x => by omega
 have m : ∀ x y : Nat, (x : Int) * (y : Int) = ((x * y : Nat) : Int) := fun x y => (Int.natCast_mul x y).symm
 have m5 : ∀ x : Nat, (x : Int) * 33554432 = ((x * 33554432 : Nat) : Int) := fun x => by omega
 have p : ∀ x y : Nat, (x : Int) + (y : Int) = ((x + y : Nat) : Int) := fun x y => (Int.natCast_add x y).symm
 unfold eH
 simp only [shr25, shr50, shl25, d]
 rw [and25 a (by omega), and25 b (by omega)]
 simp only [m]
 rw [hab]
 generalize a / 33554432 * (b / 33554432) = X1 at *
 generalize a / 33554432 * (b % 33554432) = X2 at *
 generalize a % 33554432 * (b / 33554432) = X3 at *
 generalize a % 33554432 * (b % 33554432) = X4 at *
 rw [w X1 (by omega), w X2 (by omega), w X3 (by omega), w X4 (by omega)]
 simp only [p]
 rw [w (X2 + X3) (by omega), and25 (X2 + X3) (by omega)]
 simp only [d, m5]
 rw [w ((X2 + X3) % 33554432 * 33554432) (by omega)]
 simp only [p]
 rw [w (X1 + (X2 + X3) / 33554432) (by omega), w (X4 + (X2 + X3) % 33554432 * 33554432) (by omega), and50 _ (by omega)]
 simp only [d5, p]
 rw [w _ (by omega)]
 congr 2
 ·congr 1; omega
 ·congr 1; omega
def nm (n a : Int) : Int := if n = 0 then 1 else a
theorem xy (X Y : Nat) : (((bif decide (((X / 1125899906842624 : Nat) : Int) < ((Y / 1125899906842624 : Nat) : Int)) then some true else
  bif ((X / 1125899906842624 : Nat) : Int) == ((Y / 1125899906842624 : Nat) : Int) then some (decide (((X % 1125899906842624 : Nat) : Int) < ((Y % 1125899906842624 : Nat) : Int))) else some false) : Option Bool) = some (decide (X < Y))) ∧
  (((bif ((X / 1125899906842624 : Nat) : Int) == ((Y / 1125899906842624 : Nat) : Int) then some (((X % 1125899906842624 : Nat) : Int) == ((Y % 1125899906842624 : Nat) : Int)) else some false) : Option Bool) = some (decide (X = Y))) := by
 have t1 : ((((X / 1125899906842624 : Nat) : Int) == ((Y / 1125899906842624 : Nat) : Int))) = decide (X / 1125899906842624 = Y / 1125899906842624) := by
  rw [Bool.eq_iff_iff, beq_iff_eq, decide_eq_true_eq]; omega
 have t2 : ((((X % 1125899906842624 : Nat) : Int) == ((Y % 1125899906842624 : Nat) : Int))) = decide (X % 1125899906842624 = Y % 1125899906842624) := by
  rw [Bool.eq_iff_iff, beq_iff_eq, decide_eq_true_eq]; omega
 rw [t1, t2]
 constructor
 ·by_cases h : X / 1125899906842624 < Y / 1125899906842624
  ·rw [decide_eq_true (by omega : ((X / 1125899906842624 : Nat) : Int) < ((Y / 1125899906842624 : Nat) : Int)), decide_eq_true (by omega : X < Y)]; rfl
  ·rw [decide_eq_false (by omega : ¬ ((X / 1125899906842624 : Nat) : Int) < ((Y / 1125899906842624 : Nat) : Int))]
   by_cases k : X / 1125899906842624 = Y / 1125899906842624
   ·rw [decide_eq_true k]
    simp only [cond_true, cond_false, Option.some.injEq, decide_eq_decide]
    omega
   ·rw [decide_eq_false k, decide_eq_false (by omega : ¬ X < Y)]; rfl
 ·by_cases k : X / 1125899906842624 = Y / 1125899906842624
  ·rw [decide_eq_true k]
   simp only [cond_true, Option.some.injEq, decide_eq_decide]
   omega
  ·rw [decide_eq_false k, decide_eq_false (by omega : ¬ X = Y)]; rfl
theorem vF (x a y b : Nat) (hx : x ≤ 1125899906842624) (ha : a ≤ 1125899906842624) (hy : y ≤ 1125899906842624) (hb : b ≤ 1125899906842624) :
  bf ⟨(x : Int), (a : Int)⟩ ⟨(y : Int), (b : Int)⟩ = some (rcmp x (nm x a) y (nm y b)) := by
 unfold bf
 have n1 : ((bif ((x : Int) == 0) then some (⟨(x : Int), 1⟩ : Frac) else some ⟨(x : Int), (a : Int)⟩) : Option Frac) = some ⟨(x : Int), nm x a⟩ := by
  unfold nm
  by_cases h : (x : Int) = 0
  ·rw [if_pos h, (beq_iff_eq.2 h : ((x : Int) == 0) = true)]; rfl
  ·rw [if_neg h, (beq_eq_false_iff_ne.2 h : ((x : Int) == 0) = false)]; rfl
 have n2 : ((bif ((y : Int) == 0) then some (⟨(y : Int), 1⟩ : Frac) else some ⟨(y : Int), (b : Int)⟩) : Option Frac) = some ⟨(y : Int), nm y b⟩ := by
  unfold nm
  by_cases h : (y : Int) = 0
  ·rw [if_pos h, (beq_iff_eq.2 h : ((y : Int) == 0) = true)]; rfl
  ·rw [if_neg h, (beq_eq_false_iff_ne.2 h : ((y : Int) == 0) = false)]; rfl
 dsimp only
 rw [n1, n2]
 obtain ⟨a', ha', ea⟩ : ∃ k : Nat, k ≤ 1125899906842624 ∧ nm x a = (k : Int) := by
  unfold nm
  split
  ·exact ⟨1, by omega, rfl⟩
  ·exact ⟨a, ha, rfl⟩
 obtain ⟨b', hb', eb⟩ : ∃ k : Nat, k ≤ 1125899906842624 ∧ nm y b = (k : Int) := by
  unfold nm
  split
  ·exact ⟨1, by omega, rfl⟩
  ·exact ⟨b, hb, rfl⟩
 rw [ea, eb]
 dsimp only [Ba]
 unfold rcmp
 by_cases h0 : a' = 0
 ·subst h0
  by_cases k0 : b' = 0
  ·subst k0; rfl
  ·have e : (((b' : Nat) : Int) == 0) = false := by rw [beq_eq_false_iff_ne]; omega
   rw [if_pos (show (((0 : Nat) : Int)) = 0 from rfl), if_neg (show ¬ ((b' : Nat) : Int) = 0 by omega)]
   simp [e]
 ·have e0 : (((a' : Nat) : Int) == 0) = false := by rw [beq_eq_false_iff_ne]; omega
  rw [if_neg (show ¬ ((a' : Nat) : Int) = 0 by omega)]
  by_cases k0 : b' = 0
  ·subst k0
   rw [if_pos (show (((0 : Nat) : Int)) = 0 from rfl)]
   simp [e0]
  ·have e1 : (((b' : Nat) : Int) == 0) = false := by rw [beq_eq_false_iff_ne]; omega
   rw [if_neg (show ¬ ((b' : Nat) : Int) = 0 by omega), u0 x b' hx hb', u0 y a' hy ha', ← Int.natCast_mul, ← Int.natCast_mul]
   simp only [e0, e1, cond_false, Ba]
   obtain ⟨w1, w2⟩ := xy (x * b') (y * a')
   rw [w1, w2]
   generalize x * b' = X
   generalize y * a' = Y
   simp only [Ba]
   rcases Nat.lt_trichotomy X Y with h | h | h
   ·rw [decide_eq_true h, if_pos (by omega)]; rfl
   ·rw [decide_eq_false (by omega : ¬ X < Y), decide_eq_true h, if_neg (by omega), if_pos (by omega)]; rfl
   ·rw [decide_eq_false (by omega : ¬ X < Y), decide_eq_false (by omega : ¬ X = Y), if_neg (by omega), if_neg (by omega)]; rfl
theorem AK (a p : Vec) (ha : Ok a) (hp : Ok p) : jf a p (fun a => iI a.1) = some ⟨a.Mem, nm a.Mem p.Mem⟩ := by
 unfold jf iI nm
 simp only [Ba]
 unfold Ok at ha hp
 by_cases h : a.Mem = 0
 ·rw [if_pos h, (beq_iff_eq.2 h : (a.Mem == 0) = true), h]; rfl
 ·rw [if_neg h, (beq_eq_false_iff_ne.2 h : (a.Mem == 0) = false), u64id (by omega) (by omega), u64id (by omega) (by omega)]; rfl
theorem yA (a p : Vec) (ha : Ok a) (hp : Ok p) : jf a p (fun a => gM a.1) = some ⟨a.Cores, nm a.Cores p.Cores⟩ := by
 unfold jf gM nm
 simp only [Ba]
 unfold Ok at ha hp
 by_cases h : a.Cores = 0
 ·rw [if_pos h, (beq_iff_eq.2 h : (a.Cores == 0) = true), h]; rfl
 ·rw [if_neg h, (beq_eq_false_iff_ne.2 h : (a.Cores == 0) = false), u64id (by omega) (by omega), u64id (by omega) (by omega)]; rfl
theorem rB {n a : Int} (h : 0 ≤ a ∧ a ≤ 1125899906842624) : 0 ≤ nm n a ∧ nm n a ≤ 1125899906842624 := by unfold nm; split <;> omega
def ld (a p : Vec) : Int × Int := if rcmp a.Mem (nm a.Mem p.Mem) a.Cores (nm a.Cores p.Cores) < 0 then (a.Cores, nm a.Cores p.Cores) else (a.Mem, nm a.Mem p.Mem)
theorem pq {a p : Vec} (ha : Ok a) (hp : Ok p) : (0 ≤ (ld a p).1 ∧ (ld a p).1 ≤ 1125899906842624) ∧ (0 ≤ (ld a p).2 ∧ (ld a p).2 ≤ 1125899906842624) := by
 have h1 := rB (n := a.Mem) (a := p.Mem) ⟨hp.1, hp.2.1⟩
 have h2 := rB (n := a.Cores) (a := p.Cores) ⟨hp.2.2.1, hp.2.2.2⟩
 unfold ld
 unfold Ok at ha
 split
 ·exact ⟨⟨ha.2.2.1, ha.2.2.2⟩, h2⟩
 ·exact ⟨⟨ha.1, ha.2.1⟩, h1⟩
theorem uE {a p : Vec} (ha : Ok a) (hp : Ok p) : jE a p = some ⟨(ld a p).1, (ld a p).2⟩ := by
 unfold jE
 rw [AK a p ha hp, yA a p ha hp]
 have h1 := rB (n := a.Mem) (a := p.Mem) ⟨hp.1, hp.2.1⟩
 have h2 := rB (n := a.Cores) (a := p.Cores) ⟨hp.2.2.1, hp.2.2.2⟩
 simp only [Ba]
 rw [pF _ _ ⟨ha.1, ha.2.1⟩ h1 ⟨ha.2.2.1, ha.2.2.2⟩ h2]
 unfold ld
 simp only [Ba]
 by_cases h : rcmp a.Mem (nm a.Mem p.Mem) a.Cores (nm a.Cores p.Cores) < 0
 ·rw [if_pos h, decide_eq_true h]; rfl
 ·rw [if_neg h, decide_eq_false h]; rfl
theorem ox (a p b q : Vec) : gC a p b q = some (if Ok a ∧ Ok p ∧ Ok b ∧ Ok q then rcmp (ld a p).1 (ld a p).2 (ld b q).1 (ld b q).2 else 0) := by
 unfold gC
 simp only [xX]
 by_cases h1 : Ok a <;> by_cases h2 : Ok p <;> by_cases h3 : Ok b <;> by_cases h4 : Ok q <;> simp only [h1, h2, h3, h4, decide_true, decide_false, Ba, Bool.not_true, Bool.not_false, cond_true, cond_false, and_self, and_true, and_false, false_and, if_true, if_false]
 rw [uE h1 h2, uE h3 h4]
 simp only [Ba]
 rw [pF _ _ (pq h1 h2).1 (pq h1 h2).2 (pq h3 h4).1 (pq h3 h4).2]
 rfl
theorem qp (x y : Frac) (h1 : 0 ≤ x.A ∧ x.A ≤ 1125899906842624) (h2 : 0 ≤ x.P ∧ x.P ≤ 1125899906842624) (h3 : 0 ≤ y.A ∧ y.A ≤ 1125899906842624) (h4 : 0 ≤ y.P ∧ y.P ≤ 1125899906842624) :
  bf x y = some (rcmp x.A (nm x.A x.P) y.A (nm y.A y.P)) := by
 obtain ⟨n, a⟩ := x
 obtain ⟨m, b⟩ := y
 dsimp only at *
 obtain ⟨n, rfl⟩ := Int.eq_ofNat_of_zero_le h1.1
 obtain ⟨a, rfl⟩ := Int.eq_ofNat_of_zero_le h2.1
 obtain ⟨m, rfl⟩ := Int.eq_ofNat_of_zero_le h3.1
 obtain ⟨b, rfl⟩ := Int.eq_ofNat_of_zero_le h4.1
 exact vF n a m b (by omega) (by omega) (by omega) (by omega)
theorem ny (a p b q : Vec) : bg a p b q = gC a p b q := by
 rw [ox]
 have key : ∀ {a p : Vec}, Ok a → Ok p → ∃ f : Frac, cj a p = some f ∧ (0 ≤ f.A ∧ f.A ≤ 1125899906842624) ∧ (0 ≤ f.P ∧ f.P ≤ 1125899906842624) ∧ (ld a p).1 = f.A ∧ (ld a p).2 = nm f.A f.P := by
  intro a p ha hp
  unfold cj ld
  rw [qp _ _ ⟨ha.1, ha.2.1⟩ ⟨hp.1, hp.2.1⟩ ⟨ha.2.2.1, ha.2.2.2⟩ ⟨hp.2.2.1, hp.2.2.2⟩]
  simp only [Ba]
  by_cases h : rcmp a.Mem (nm a.Mem p.Mem) a.Cores (nm a.Cores p.Cores) < 0
  ·rw [if_pos h, decide_eq_true h]
   exact ⟨_, rfl, ⟨ha.2.2.1, ha.2.2.2⟩, ⟨hp.2.2.1, hp.2.2.2⟩, rfl, rfl⟩
  ·rw [if_neg h, decide_eq_false h]
   exact ⟨_, rfl, ⟨ha.1, ha.2.1⟩, ⟨hp.1, hp.2.1⟩, rfl, rfl⟩
 unfold bg
 simp only [Aw]
 by_cases h1 : Ok a <;> by_cases h2 : Ok p <;> by_cases h3 : Ok b <;> by_cases h4 : Ok q <;> simp only [h1, h2, h3, h4, decide_true, decide_false, Ba, Bool.not_true, Bool.not_false, cond_true, cond_false, and_self, and_true, and_false, false_and, if_true, if_false]
 obtain ⟨f, e1, f1, f2, f3, f4⟩ := key h1 h2
 obtain ⟨k, e2, k1, k2, k3, k4⟩ := key h3 h4
 rw [e1, e2]
 simp only [Ba]
 rw [qp f k f1 f2 k1 k2, f3, f4, k3, k4]
 rfl
theorem pY {n a m b : Int} (h1 : 0 ≤ a) (h2 : 0 ≤ b) : rcmp n a m b < 0 ↔ (b = 0 ∧ a ≠ 0) ∨ (a ≠ 0 ∧ b ≠ 0 ∧ n * b < m * a) := by
 unfold rcmp
 repeat' split
 all_goals omega
theorem sw {n a m b : Int} (h1 : 0 ≤ a) (h2 : 0 ≤ b) : rcmp n a m b ≤ 0 ↔ b = 0 ∨ (a ≠ 0 ∧ b ≠ 0 ∧ n * b ≤ m * a) := by
 unfold rcmp
 repeat' split
 all_goals omega
theorem wM {n a m b k c : Int} (ha : 0 < a) (hb : 0 < b) (hc : 0 < c) (h1 : n * b ≤ m * a) (h2 : m * c ≤ k * b) : n * c ≤ k * a ∧ (n * b < m * a ∨ m * c < k * b → n * c < k * a) ∧ (n * b = m * a → m * c = k * b → n * c = k * a) := by
 have e1 : n * c * b = n * b * c := by rw [Int.mul_assoc, Int.mul_comm c b, ← Int.mul_assoc]
 have e2 : m * a * c = m * c * a := by rw [Int.mul_assoc, Int.mul_comm a c, ← Int.mul_assoc]
 have e3 : k * b * a = k * a * b := by rw [Int.mul_assoc, Int.mul_comm b a, ← Int.mul_assoc]
 have l1 : n * b * c ≤ m * a * c := Int.mul_le_mul_of_nonneg_right h1 (by omega)
 have l2 : m * c * a ≤ k * b * a := Int.mul_le_mul_of_nonneg_right h2 (by omega)
 refine ⟨?_, ?_, ?_⟩
 ·apply Int.le_of_mul_le_mul_right _ hb
  omega
 ·rintro (h | h)
  ·have l3 : n * b * c < m * a * c := Int.mul_lt_mul_of_pos_right h hc
   apply Int.lt_of_mul_lt_mul_right _ (Int.le_of_lt hb)
   omega
  ·have l3 : m * c * a < k * b * a := Int.mul_lt_mul_of_pos_right h ha
   apply Int.lt_of_mul_lt_mul_right _ (Int.le_of_lt hb)
   omega
 ·intro h h'
  have : n * c * b = k * a * b := by rw [e1, h, e2, h', e3]
  exact Int.eq_of_mul_eq_mul_right (by omega) this
theorem wF {n a m b k c : Int} (h1 : 0 ≤ a) (h2 : 0 ≤ b) (h3 : 0 ≤ c) (x : rcmp n a m b ≤ 0) (y : rcmp m b k c ≤ 0) : rcmp n a k c ≤ 0 ∧ (rcmp n a k c < 0 ↔ rcmp n a m b < 0 ∨ rcmp m b k c < 0) := by
 rw [sw h1 h2] at x
 rw [sw h2 h3] at y
 rw [sw h1 h3, pY h1 h3, pY h1 h2, pY h2 h3]
 by_cases hc : c = 0
 ·subst hc
  refine ⟨.inl rfl, ?_⟩
  constructor
  ·rintro (⟨_, h⟩ | ⟨_, h, _⟩)
   ·by_cases hb : b = 0
    ·exact .inl (.inl ⟨hb, h⟩)
    ·exact .inr (.inl ⟨rfl, hb⟩)
   ·exact absurd rfl h
  ·rintro ((⟨_, h⟩ | ⟨h, _, _⟩) | (⟨_, h⟩ | ⟨_, h, _⟩))
   ·exact .inl ⟨rfl, h⟩
   ·exact .inl ⟨rfl, h⟩
   ·rcases x with x | ⟨x, _⟩
    ·exact absurd x h
    ·exact .inl ⟨rfl, x⟩
   ·exact absurd rfl h
 ·rcases y with y | ⟨y1, _, y2⟩
  ·exact absurd y hc
  ·rcases x with x | ⟨x1, _, x2⟩
   ·exact absurd x y1
   ·obtain ⟨k1, k2, k3⟩ := wM (by omega : 0 < a) (by omega : 0 < b) (by omega : 0 < c) x2 y2
    refine ⟨.inr ⟨x1, hc, k1⟩, ?_⟩
    constructor
    ·rintro (⟨h, _⟩ | ⟨_, _, h⟩)
     ·exact absurd h hc
     ·by_cases e1 : n * b < m * a
      ·exact .inl (.inr ⟨x1, y1, e1⟩)
      ·by_cases e2 : m * c < k * b
       ·exact .inr (.inr ⟨y1, hc, e2⟩)
       ·have := k3 (by omega) (by omega)
        omega
    ·rintro ((⟨h, _⟩ | ⟨_, _, h⟩) | (⟨h, _⟩ | ⟨_, _, h⟩))
     ·exact absurd h y1
     ·exact .inr ⟨x1, hc, k2 (.inl h)⟩
     ·exact absurd h hc
     ·exact .inr ⟨x1, hc, k2 (.inr h)⟩
structure SO {α : Type} (lt : α → α → Bool) (l : List α) : Prop where
 irr : ∀ x ∈ l, lt x x = false
 tr : ∀ x ∈ l, ∀ y ∈ l, ∀ z ∈ l, lt x y = true → lt y z = true → lt x z = true
 tot : ∀ x ∈ l, ∀ y ∈ l, x ≠ y → lt x y = true ∨ lt y x = true
theorem SO.sub {α : Type} {lt : α → α → Bool} {l m : List α} (h : SO lt l) (hm : ∀ x ∈ m, x ∈ l) : SO lt m :=
 ⟨fun x hx => h.irr x (hm x hx), fun x hx y hy z hz => h.tr x (hm x hx) y (hm y hy) z (hm z hz), fun x hx y hy => h.tot x (hm x hx) y (hm y hy)⟩
theorem SO.asm {α : Type} {lt : α → α → Bool} {l : List α} (h : SO lt l) {x y : α} (hx : x ∈ l) (hy : y ∈ l) (hl : lt x y = true) : lt y x = false := by
 cases e : lt y x with
 | false => rfl
 | true =>
  have h1 := h.tr x hx y hy x hx hl e
  rw [h.irr x hx] at h1
  exact h1.symm
theorem SO.uniq {α : Type} {lt : α → α → Bool} {l l1 l2 : List α} (h : SO lt l) (p1 : l1.Perm l) (p2 : l2.Perm l) (s1 : l1.Pairwise fun a b => lt a b = true) (s2 : l2.Pairwise fun a b => lt a b = true) : l1 = l2 :=
 List.Perm.eq_of_pairwise (fun a b ha hb h1 h2 => by
  have := h.asm (p1.mem_iff.1 ha) (p2.mem_iff.1 hb) h1
  rw [this] at h2
  cases h2) s1 s2 (p1.trans p2.symm)
theorem SO.isort_pw {α : Type} {lt : α → α → Bool} : ∀ {l : List α}, SO lt l → l.Nodup → (isort lt l).Pairwise fun a b => lt a b = true
 | [], _, _ => .nil
 | x :: l, h, hn => by
  have hn' := List.nodup_cons.1 hn
  have ih := SO.isort_pw (h.sub fun y hy => List.mem_cons_of_mem x hy) hn'.2
  have hp : (isort lt l).Perm l := fk
  unfold isort
  have gen : ∀ m : List α, (∀ y ∈ m, y ∈ l) → m.Pairwise (fun a b => lt a b = true) → (Fx.insG lt x m).Pairwise fun a b => lt a b = true := by
   intro m
   induction m with
   | nil => intro _ _; exact List.pairwise_singleton _ _
   | cons y m ihm =>
    intro hm hs
    have hs' := List.pairwise_cons.1 hs
    have hy : y ∈ l := hm y (by simp)
    unfold Fx.insG
    split
    ·rename_i hyx
     refine List.pairwise_cons.2 ⟨fun z hz => ?_, ihm (fun z hz => hm z (by simp [hz])) hs'.2⟩
     rcases Fx.mem_insG.1 hz with rfl | hz
     ·exact hyx
     ·exact hs'.1 z hz
    ·rename_i hyx
     have hxy : lt x y = true := by
      rcases h.tot x (by simp) y (by simp [hy]) (fun e => hn'.1 (e ▸ hy)) with h1 | h1
      ·exact h1
      ·exact absurd h1 hyx
     refine List.pairwise_cons.2 ⟨fun z hz => ?_, hs⟩
     rcases List.mem_cons.1 hz with rfl | hz'
     ·exact hxy
     ·exact h.tr x (by simp) y (by simp [hy]) z (by simp [hm z hz]) hxy (hs'.1 z hz')
  exact gen _ (fun y hy => hp.mem_iff.1 hy) ih
theorem SO.insB_pw {α : Type} {lt : α → α → Bool} {l : List α} (h : SO lt l) (hn : l.Nodup) : (l.foldl (insB lt) []).Pairwise fun a b => lt a b = true := by
 have gen : ∀ (m out : List α), (∀ y ∈ m, y ∈ l) → (∀ y ∈ out, y ∈ l) → m.Nodup → (∀ y ∈ m, y ∉ out) → out.Pairwise (fun a b => lt a b = true) → (m.foldl (insB lt) out).Pairwise fun a b => lt a b = true := by
  intro m
  induction m with
  | nil => intro out _ _ _ _ h; exact h
  | cons x m ih =>
   intro out hm ho hnd hd hs
   have hnd' := List.nodup_cons.1 hnd
   have hx : x ∈ l := hm x (by simp)
   rw [List.foldl_cons]
   refine ih _ (fun y hy => hm y (by simp [hy])) (fun y hy => ?_) hnd'.2 (fun y hy hy2 => ?_) ?_
   ·rcases lZ.1 hy with rfl | hy
    ·exact hx
    ·exact ho y hy
   ·rcases lZ.1 hy2 with rfl | hy2
    ·exact hnd'.1 hy
    ·exact hd y (by simp [hy]) hy2
   ·have hxo : x ∉ out := hd x (by simp)
    unfold insB
    have hcat := List.takeWhile_append_dropWhile (p := fun y => !lt x y) (l := out)
    have hs2 : (out.takeWhile (fun y => !lt x y) ++ out.dropWhile fun y => !lt x y).Pairwise fun a b => lt a b = true := by rw [hcat]; exact hs
    have hs3 := List.pairwise_append.1 hs2
    have hdw : ∀ y ∈ out.dropWhile (fun y => !lt x y), lt x y = true := by
     intro y hy
     cases e : out.dropWhile (fun y => !lt x y) with
     | nil => rw [e] at hy; cases hy
     | cons z r =>
      have hz : lt x z = true := by
       have := List.head?_dropWhile_not (fun y => !lt x y) out
       rw [e] at this
       simpa using this
      have hzo : z ∈ out := List.dropWhile_subset _ (by rw [e]; simp)
      rw [e] at hy
      rcases List.mem_cons.1 hy with rfl | hy'
      ·exact hz
      ·have := hs3.2.1
       rw [e] at this
       exact h.tr x hx z (ho z hzo) y (ho y (List.dropWhile_subset _ (by rw [e]; exact hy))) hz ((List.pairwise_cons.1 this).1 y hy')
    have htw : ∀ y ∈ out.takeWhile (fun y => !lt x y), lt y x = true := by
     intro y hy
     have h1 : lt x y = false := by simpa using tc hy
     have hyo : y ∈ out := (List.takeWhile_sublist _).subset hy
     rcases h.tot x hx y (ho y hyo) (fun e => hxo (e ▸ hyo)) with h2 | h2
     ·rw [h1] at h2; cases h2
     ·exact h2
    refine List.pairwise_append.2 ⟨hs3.1, List.pairwise_cons.2 ⟨hdw, hs3.2.1⟩, fun a ha b hb => ?_⟩
    rcases List.mem_cons.1 hb with rfl | hb
    ·exact htw a ha
    ·exact hs3.2.2 a ha b hb
 exact gen l [] (fun _ h => h) (by simp) hn (by simp) .nil
theorem SO.isort_eq {α : Type} {lt : α → α → Bool} {l : List α} (h : SO lt l) (hn : l.Nodup) : isort lt l = l.foldl (insB lt) [] :=
 h.uniq fk (jg lt l) (h.isort_pw hn) (h.insB_pw hn)
theorem lg {α : Type} {lt lt' : α → α → Bool} {l : List α} (h : ∀ x ∈ l, ∀ y ∈ l, lt x y = lt' x y) : isort lt l = isort lt' l := by
 have gi : ∀ (x : α) (m : List α), (∀ y ∈ m, lt y x = lt' y x) → Fx.insG lt x m = Fx.insG lt' x m := by
  intro x m
  induction m with
  | nil => intro _; rfl
  | cons y m ih =>
   intro hm
   unfold Fx.insG
   rw [hm y (by simp), ih fun z hz => hm z (by simp [hz])]
 induction l with
 | nil => rfl
 | cons x l ih =>
  unfold isort
  rw [ih fun a ha b hb => h a (by simp [ha]) b (by simp [hb])]
  exact gi x _ fun y hy => h y (by simp [(fk (lt := lt') (l := l)).mem_iff.1 hy]) x (by simp)
theorem zq {α : Type} {φ : α → α → Option Int} {lt : α → α → Bool} {l : List α} (hφ : ∀ x ∈ l, ∀ y ∈ l, ∃ c, φ x y = some c ∧ decide (c < 0) = lt x y) (h : SO lt l) (hn : l.Nodup) (hl : l.length < 1000000000) :
  sortA φ l = some (l.foldl (insB lt) []) := by
 have hlt : ∀ x ∈ l, ∀ y ∈ l, ltG φ x y = lt x y := by
  intro x hx y hy
  obtain ⟨c, e, h2⟩ := hφ x hx y hy
  unfold ltG
  rw [e]
  exact h2
 cases l with
 | nil => rfl
 | cons x l =>
  show (if okG (cG φ (x :: l) x) (l.length + 1) && decide (l.length < 1000000000) then some (isort (ltG φ) (x :: l)) else none) = _
  have hl' : l.length + 1 < 1000000000 := hl
  rw [lg hlt, h.isort_eq hn]
  generalize hL : x :: l = L at *
  have hlen : l.length + 1 = L.length := by rw [← hL]; rfl
  rw [hlen]
  have gd : ∀ i (hi : i < L.length), getG L x i = L[i] := fun i hi => by
   unfold getG
   rw [List.getD_eq_getElem?_getD, Bb hi]
   rfl
  have key : okG (cG φ L x) L.length = true := by
   unfold okG
   simp only [List.all_eq_true, List.mem_range]
   intro i hi j hj
   unfold cG
   rw [gd i hi, gd j hj]
   have mi := List.getElem_mem hi
   have mj := List.getElem_mem hj
   obtain ⟨a, ea, ha⟩ := hφ _ mi _ mj
   obtain ⟨b, eb, hb⟩ := hφ _ mj _ mi
   rw [ea, eb]
   dsimp only
   rw [Bool.and_eq_true]
   constructor
   ·split
    ·rename_i e
     subst e
     rw [ha, h.irr _ mi]
     rfl
    ·rename_i e
     rw [ha, hb]
     have hne : L[i] ≠ L[j] := fun e2 => e ((List.getElem_inj hn).1 e2)
     rcases h.tot _ mi _ mj hne with h1 | h1
     ·rw [h1, h.asm mi mj h1]; rfl
     ·rw [h1, h.asm mj mi h1]; rfl
   ·rw [List.all_eq_true]
    intro k hk
    have hk := List.mem_range.1 hk
    rw [gd k hk]
    have mk := List.getElem_mem hk
    obtain ⟨c, ec, hc⟩ := hφ _ mj _ mk
    obtain ⟨d, ed, hd⟩ := hφ _ mi _ mk
    rw [ec, ed]
    dsimp only
    rw [ha, hc, hd]
    cases h1 : lt L[i] L[j] with
    | false => rfl
    | true =>
     cases h2 : lt L[j] L[k] with
     | false => rfl
     | true => rw [h.tr _ mi _ mj _ mk h1 h2]; rfl
  rw [key, decide_eq_true (by omega : l.length < 1000000000)]
  rfl
theorem tX (a p b q : Vec) : pOrder a p b q = if Ok a ∧ Ok p ∧ Ok b ∧ Ok q then rcmp (ld a p).1 (ld a p).2 (ld b q).1 (ld b q).2 else 0 := by
 unfold pOrder
 rw [ny, ox]
 rfl
theorem VB.ok {n : Int} {v : Vec} (h : VB n v) (hn : n ≤ 1125899906842624) : Ok v := by
 unfold VB at h; unfold Ok; omega
def j9 (a p : Vec) (x : Str) (b q : Vec) (y : Str) : Bool := decide (pOrder a p b q < 0) || (pOrder a p b q == 0 && Op.bytesLess x y)
theorem xB {n a m b : Int} (h1 : 0 ≤ a) (h2 : 0 ≤ b) : rcmp n a m b < 0 ∨ rcmp m b n a < 0 ∨ (rcmp n a m b = 0 ∧ rcmp m b n a = 0) := by
 unfold rcmp
 repeat' split
 all_goals omega
theorem wH (n a : Int) : rcmp n a n a = 0 := by
 unfold rcmp
 repeat' split
 all_goals omega
theorem wN {α : Type} (f : α → Vec) (g : α → Vec) (nm : α → Str) {l : List α} (hn : ∀ x ∈ l, ∀ y ∈ l, nm x = nm y → x = y) (hf : ∀ x ∈ l, Ok (f x)) (hg : ∀ x ∈ l, Ok (g x)) : SO (fun x y => j9 (f x) (g x) (nm x) (f y) (g y) (nm y)) l := by
 have ho : ∀ x ∈ l, ∀ y ∈ l, pOrder (f x) (g x) (f y) (g y) = rcmp (ld (f x) (g x)).1 (ld (f x) (g x)).2 (ld (f y) (g y)).1 (ld (f y) (g y)).2 := fun x hx y hy => by
  rw [tX, if_pos ⟨hf x hx, hg x hx, hf y hy, hg y hy⟩]
 have hb : ∀ x ∈ l, 0 ≤ (ld (f x) (g x)).2 := fun x hx => (pq (hf x hx) (hg x hx)).2.1
 refine ⟨fun x hx => ?_, fun x hx y hy z hz h1 h2 => ?_, fun x hx y hy hne => ?_⟩
 ·unfold j9
  rw [ho x hx x hx, wH, nh]
  rfl
 ·unfold j9 at h1 h2 ⊢
  rw [ho x hx y hy] at h1
  rw [ho y hy z hz] at h2
  rw [ho x hx z hz]
  simp only [Bool.or_eq_true, Bool.and_eq_true, decide_eq_true_eq, beq_iff_eq] at h1 h2 ⊢
  have c1 : rcmp (ld (f x) (g x)).1 (ld (f x) (g x)).2 (ld (f y) (g y)).1 (ld (f y) (g y)).2 ≤ 0 := by rcases h1 with h | ⟨h, _⟩ <;> omega
  have c2 : rcmp (ld (f y) (g y)).1 (ld (f y) (g y)).2 (ld (f z) (g z)).1 (ld (f z) (g z)).2 ≤ 0 := by rcases h2 with h | ⟨h, _⟩ <;> omega
  obtain ⟨k1, k2⟩ := wF (hb x hx) (hb y hy) (hb z hz) c1 c2
  rcases h1 with h1 | ⟨h1, b1⟩
  ·exact .inl (k2.2 (.inl h1))
  ·rcases h2 with h2 | ⟨h2, b2⟩
   ·exact .inl (k2.2 (.inr h2))
   ·by_cases h3 : rcmp (ld (f x) (g x)).1 (ld (f x) (g x)).2 (ld (f z) (g z)).1 (ld (f z) (g z)).2 < 0
    ·exact .inl h3
    ·exact .inr ⟨by omega, oS b1 b2⟩
 ·unfold j9
  rw [ho x hx y hy, ho y hy x hx]
  simp only [Bool.or_eq_true, Bool.and_eq_true, decide_eq_true_eq, beq_iff_eq]
  rcases xB (n := (ld (f x) (g x)).1) (m := (ld (f y) (g y)).1) (hb x hx) (hb y hy) with h | h | ⟨h1, h2⟩
  ·exact .inl (.inl h)
  ·exact .inr (.inl h)
  ·cases e : Op.bytesLess (nm x) (nm y) with
   | true => exact .inl (.inr ⟨h1, rfl⟩)
   | false => exact .inr (.inr ⟨h2, rW e fun e2 => hne (hn x hx y hy e2)⟩)
theorem xa {p : Str} (h : PathOk p) : fp p = some (aJ p, !(aJ p == [])) := by
 have hp : p.length < 1000000000 := by have := h.len; omega
 have e : cg p [46] = aC p 46 := by
  unfold cg
  rw [show ((([46] : List UInt8).length : Int) == 0) = false from rfl, show ((([46] : List UInt8).length : Int) == 1) = true from rfl]
  simp only [cond_true, cond_false]
  rw [show idx ([46] : List UInt8) 0 = some 46 from rfl, Ba]
  show (aC p 46).bind some = _
  cases aC p 46 <;> rfl
 have hhead : ∀ r, p ≠ 46 :: r := by
  intro r er
  rcases h.root with h1 | h1
  ·rw [h1] at er; cases er
  ·obtain ⟨t, h1⟩ := h1
   rw [er] at h1; cases h1
 unfold fp
 rw [e]
 unfold aC
 dsimp only
 rw [aB (by omega) (by omega), qO p hp p.length (Nat.le_refl _), List.take_length, gY]
 have hle := (List.dropWhile_suffix (· != 46) (l := p.reverse)).length_le
 rw [List.length_reverse] at hle
 have hone : (p.reverse.dropWhile (· != 46)).length ≠ 1 := by
  intro h1
  rcases tC p with ⟨h2, _⟩ | ⟨r, h2, h3⟩
  ·cases hd : p.reverse.dropWhile (· != 46) with
   | nil => rw [hd] at h1; cases h1
   | cons x d =>
    have := List.head?_dropWhile_not (fun y : UInt8 => y != 46) p.reverse
    rw [hd] at this
    have hx : x = 46 := by simpa using this
    have hm : x ∈ p.reverse := List.dropWhile_subset _ (by rw [hd]; simp)
    exact h2 (hx ▸ List.mem_reverse.1 hm)
  ·rw [gY, h1] at h3
   exact hhead r (by simpa using h3)
 generalize (p.reverse.dropWhile (· != 46)).length = n at hle hone ⊢
 by_cases h : n = 0
 ·subst h; rfl
 ·rw [if_neg h]
  simp only [Ba]
  rw [decide_eq_false (by omega)]
  unfold slc
  simp only [cond_false]
  rw [if_pos ⟨by omega, by omega, by omega⟩]
  simp only [Ba, Int.toNat_zero, List.drop_zero]
  have hne : (p.take (n - 1) == []) = false := by
   rw [beq_eq_false_iff_ne]
   intro e0
   have := congrArg List.length e0
   rw [List.length_take, List.length_nil] at this
   omega
  have e1 : ((n : Int) - 1).toNat = n - 1 := by omega
  rw [e1, hne]
  rfl
theorem yk {c : Conf} (h : ConfOk c) (p : Str) : kS c p = some (pKids c p) := by
 have hq := h.qs
 have e := dL (fun (l : List Str) i => (l, i)) c.Queues (fun q => !(aJ q.Path == []) && aJ q.Path == p) (·.Path) (step := iw c p) (by omega) ?_ ?_
 ·unfold kS
  rw [e, Ba]
  unfold pKids
  by_cases hp : p = []
  ·subst hp
   rw [if_pos rfl, List.filter_eq_nil_iff.2 (by simp)]
   rfl
  ·rw [if_neg hp]
   congr 2
   refine List.filter_congr fun q _ => ?_
   by_cases e1 : aJ q.Path = p
   ·have : aJ q.Path ≠ [] := by rw [e1]; exact hp
    rw [beq_eq_false_iff_ne.2 this]; simp
   ·rw [beq_eq_false_iff_ne.2 e1]; simp
 ·intro k hk l hl
  unfold iw
  rw [au hk, cond_true]
  dsimp only
  rw [ax hk, Ba, xa (jp h (List.getElem_mem hk)), Ba]
  dsimp only
  cases e1 : (aJ c.Queues[k].Path == []) with
  | true => simp
  | false =>
   cases e2 : (aJ c.Queues[k].Path == p) with
   | false => simp
   | true =>
    simp only [Bool.not_false, cond_true, Ba, Bool.and_self, if_true]
    rw [ay (by simp; omega) (by omega)]
    rfl
 ·intro l
  unfold iw
  rw [aD]
  rfl
theorem zb {α β : Type} (f : α → β) (lt : β → β → Bool) (out : List α) (x : α) : (insB (fun a b => lt (f a) (f b)) out x).map f = insB lt (out.map f) (f x) := by
 unfold insB
 rw [List.map_append, List.map_cons, List.takeWhile_map, List.dropWhile_map]
 rfl
theorem my {α β : Type} (f : α → β) (lt : β → β → Bool) : ∀ (l out : List α), (l.foldl (insB fun a b => lt (f a) (f b)) out).map f = (l.map f).foldl (insB lt) (out.map f)
 | [], _ => rfl
 | x :: l, out => by rw [List.foldl_cons, my f lt l, zb, List.map_cons, List.foldl_cons]
def iu (s : State) (label : Int) (x : Str) : Load := ⟨x, pUsed s x label true 0, pDown s x label true⟩
theorem wD (x y : Str) : dY x y = some (if Op.bytesLess x y then -1 else if strLe x y then 0 else 1) := by
 unfold dY eL
 have h1 : (x == x) = true := by simp
 have h2 : (y == y) = true := by simp
 rw [h1, h2]
 cases Op.bytesLess x y <;> cases strLe x y <;> rfl
theorem or2 (a b : Int) : g8 [a, b] = some (if a ≠ 0 then a else b) := by
 unfold g8
 rw [aN]
 by_cases ha : a = 0
 ·subst ha
  rw [show eU [0, b] 0 = some (.inl 1) from rfl]
  dsimp only
  rw [aN]
  by_cases hb : b = 0
  ·subst hb
   rw [show eU [0, 0] 1 = some (.inl 2) from rfl]
   dsimp only
   rw [aN]
   rfl
  ·have e : (b != 0) = true := by simp [hb]
   have : eU [0, b] 1 = some (.inr (.inl b)) := by
    show (bif (b != 0) then _ else _) = _
    rw [e]; rfl
   rw [this]
   rfl
 ·have e : (a != 0) = true := by simp [ha]
  have : eU [a, b] 0 = some (.inr (.inl a)) := by
   show (bif (a != 0) then _ else _) = _
   rw [e]; rfl
  rw [this]
  simp [ha]
theorem rJ (x y : Load) : ∃ c, bi x y = some c ∧ decide (c < 0) = j9 x.used x.least x.path y.used y.least y.path := by
 unfold bi
 have e : gC x.used x.least y.used y.least = some (pOrder x.used x.least y.used y.least) := by rw [← ny, rZ]
 rw [e, Ba, wD, Ba, or2, Ba]
 refine ⟨_, rfl, ?_⟩
 unfold j9
 generalize pOrder x.used x.least y.used y.least = o
 by_cases h : o = 0
 ·subst h
  rw [if_neg (by simp)]
  cases Op.bytesLess x.path y.path
  ·cases strLe x.path y.path <;> rfl
  ·rfl
 ·rw [if_pos h, beq_eq_false_iff_ne.2 h]
  simp
theorem wl (K : List Load) (hK : K.length ≤ 1000) : ((mkl 16 (K.length : Int) (K.length : Int) ([] : Str)).bind fun l2 => (loop (fG K) (l2, 0)).bind fun out => some out) = some (K.map (·.path)) := by
 have hmk : mkl 16 (K.length : Int) (K.length : Int) ([] : Str) = some (List.replicate K.length []) := by
  unfold mkl
  rw [if_pos ⟨by omega, by omega, by unfold maxLen; omega, by omega⟩]
  rfl
 rw [hmk, Ba]
 generalize hM : K.map (·.path) = M
 have hml : M.length = K.length := by rw [← hM, List.length_map]
 have g := gu (Q := fun x => x = M) (fun (out : List Str) i => (out, i)) K.length (fun k out => out = M.take k ++ List.replicate (K.length - k) []) (step := fG K) (by omega) ?_ ?_ (s := List.replicate K.length []) (by simp)
 ·obtain ⟨x, ex, rfl⟩ := g
  rw [ex]; rfl
 ·rintro k hk out rfl
  have hol : (M.take k ++ List.replicate (K.length - k) ([] : Str)).length = K.length := by simp; omega
  refine fm (a := .inl (M.take (k + 1) ++ List.replicate (K.length - (k + 1)) [], w64 ((k : Int) + 1))) ?_ (.inl ⟨_, rfl, rfl⟩)
  unfold fG
  dsimp only
  rw [au hk, cond_true, aH hk, Ba, Bb hk, Ba, hol]
  have i1 : inS (k : Int) (K.length : Int) K.length = some (k, K.length - k) := by unfold inS; rw [if_pos ⟨by omega, by omega, by omega⟩]; simp
  rw [i1, Ba]
  dsimp only
  have ec : cpy (M.take k ++ List.replicate (K.length - k) ([] : Str)) k (K.length - k) [K[k].path] = M.take (k + 1) ++ List.replicate (K.length - (k + 1)) [] := by
   unfold cpy
   have hk1 : K.length - k = (K.length - (k + 1)) + 1 := by omega
   have hpk : K[k].path = M[k]'(by omega) := by simp [← hM]
   have htl : (M.take k).length = k := by rw [List.length_take]; omega
   rw [List.take_append_of_le_length (by omega), List.take_take, Nat.min_self, hk1, List.take_of_length_le (l := [K[k].path]) (by simp)]
   have : min (K.length - (k + 1) + 1) [K[k].path].length = 1 := by simp
   rw [this, List.replicate_succ, List.drop_append, htl, List.drop_of_length_le (by omega), show k + 1 - k = 1 by omega, List.take_succ_eq_append_getElem (by omega), hpk]
   simp
  rw [ec]
 ·rintro out rfl
  refine fm (a := .inr M) ?_ ⟨_, rfl, rfl⟩
  unfold fG
  dsimp only
  rw [aD, ← hml]
  simp
def ltL (x y : Load) : Bool := j9 x.used x.least x.path y.used y.least y.path
theorem An {l : List Load} (hn : ∀ x ∈ l, ∀ y ∈ l, x.path = y.path → x = y) (hf : ∀ x ∈ l, Ok x.used) (hg : ∀ x ∈ l, Ok x.least) : SO ltL l := wN Load.used Load.least Load.path hn hf hg
theorem s_ {L : List Load} (hso : SO ltL L) (hnd : L.Nodup) (hl : L.length < 1000000000) : jw L (fun a' => bi a'.1 a'.2.1) = some (L.foldl (insB ltL) []) :=
 zq (α := Load) (φ := bi) (fun x _ y _ => rJ x y) hso hnd hl
theorem zV (s : State) (label : Int) (K : List Str) : (K.map (iu s label)).map (·.path) = K := by
 rw [List.map_map]
 exact (List.map_congr_left (fun x _ => rfl)).trans (List.map_id K)
theorem wO {N : Nat} {s : State} (h : Inv N s) (label : Int) {K : List Str} (hn : K.Nodup) (hK : K.length ≤ 1000) :
  jw (K.map (iu s label)) (fun a' => bi a'.1 a'.2.1) = some ((K.foldl (insB fun a b => bF s a b label) []).map (iu s label)) := by
 have okU : ∀ x, Ok (pUsed s x label true 0) := fun x => (lG h.sb x label true 0).ok (by have := h.cl; omega)
 have okD : ∀ x, Ok (pDown s x label true) := fun x => (h.sc.down_bd label true).ok (by have := h.nl; omega)
 have hnd : (K.map (iu s label)).Nodup := List.pairwise_map.2 (hn.imp fun {a b} hab e => hab (congrArg Load.path e))
 have hso : SO ltL (K.map (iu s label)) := by
  refine An ?_ ?_ ?_
  ·intro x hx y hy e
   obtain ⟨a, _, rfl⟩ := List.mem_map.1 hx
   obtain ⟨b, _, rfl⟩ := List.mem_map.1 hy
   have : a = b := e
   rw [this]
  ·intro x hx
   obtain ⟨a, _, rfl⟩ := List.mem_map.1 hx
   exact okU a
  ·intro x hx
   obtain ⟨a, _, rfl⟩ := List.mem_map.1 hx
   exact okD a
 rw [s_ hso hnd (by rw [List.length_map]; omega)]
 have e3 := my (iu s label) ltL K []
 rw [List.map_nil] at e3
 rw [← e3]
 rfl
theorem th {N : Nat} {s : State} (h : Inv N s) (path : Str) {label : Int} (h0 : 0 ≤ label) (h1 : label < s.Conf.Labels.length) : jQ s path label = some (pOKids s path label) := by
 have hc := h.cf
 have hq := hc.qs
 have hkl := kV s.Conf path
 have hkp : ∀ x ∈ pKids s.Conf path, PathOk x := fun x hx => xh hc hx
 unfold jQ
 rw [yk hc, Ba]
 have e1 := dL (fun (l : List Load) i => (l, i)) (pKids s.Conf path) (fun _ => true) (iu s label) (step := fC s label (pKids s.Conf path)) (by omega) ?_ ?_
 ·have e1' : loop (fC s label (pKids s.Conf path)) ([], 0) = some ((pKids s.Conf path).map (iu s label)) := by
   rw [e1, List.filter_eq_self.2 (by simp)]
  rw [e1', Ba]
  rw [wO h label (vY hc path) (by omega), Ba]
  have e4 : (pKids s.Conf path).foldl (insB fun a b => bF s a b label) [] = pOKids s path label := rfl
  rw [e4]
  have hlen : (pOKids s path label).length = (pKids s.Conf path).length := (fI s path label).length_eq
  generalize hK : pOKids s path label = K at *
  have hc2 := wl (K.map (iu s label)) (by rw [List.length_map]; omega)
  have hm2 := zV s label K
  rw [hm2] at hc2
  exact hc2
 ·intro k hk l hl
  have hx := hkp _ (List.getElem_mem hk)
  have hxl := hx.len
  unfold fC
  rw [au hk, cond_true]
  dsimp only
  rw [aH hk, Ba, Bb hk, Ba, oQ h (by omega), Ba, mD h.sc (by omega) h0 h1, Ba, ay (by simp; omega) (by omega)]
  rfl
 ·intro l
  unfold fC
  rw [aD]
  rfl
theorem wU {N : Nat} {s : State} (h : Inv N s) {label : Int} (h0 : 0 ≤ label) (h1 : label < s.Conf.Labels.length) : ∀ (d n : Nat) (path : Str), 3 ≤ path.count 46 + d → d ≤ n → d ≤ 3 →
  cm (n + 1) s path label (4 - (d : Int)) = some (pLeavesN d s path label) := by
 intro d
 induction d with
 | zero =>
  intro n path hc _ _
  have hk : pKids s.Conf path = [] := by
   cases hk : pKids s.Conf path with
   | nil => rfl
   | cons x l =>
    have hx : x ∈ pKids s.Conf path := by rw [hk]; simp
    obtain ⟨hp, q, hq, rfl, ha⟩ := gv hx
    have h1 := fK hp ha
    have h2 := (jp h.cf hq).deep
    omega
  show fB _ s path label _ = _
  unfold fB
  have hp : pOKids s path label = [] := by have := fI s path label; rw [hk] at this; exact this.eq_nil
  rw [th h path h0 h1, Ba, hp]
  rfl
 | succ d ih =>
  intro n path hc hn hd3
  obtain ⟨n, rfl⟩ : ∃ m, n = m + 1 := ⟨n - 1, by omega⟩
  have hperm := fI s path label
  have hlen := hperm.length_eq
  have hkl := kV s.Conf path
  have hq := h.cf.qs
  have e0 : (pKids s.Conf path = []) ↔ pOKids s path label = [] := ⟨fun e => by rw [e] at hperm; exact hperm.eq_nil, fun e => by rw [e] at hperm; exact hperm.symm.eq_nil⟩
  have hkid : ∀ x ∈ pOKids s path label, cm (n + 1) s x label (4 - (d : Int)) = some (pLeavesN d s x label) ∧ (pLeavesN d s x label).length ≤ 16 ^ d := by
   intro x hx
   obtain ⟨hp, q, hq', rfl, ha⟩ := gv (hperm.mem_iff.1 hx)
   have h1 := fK hp ha
   exact ⟨ih n q.Path (by omega) (by omega) (by omega), (ma h.sc label d n q.Path (by omega) (by omega) (by omega)).2⟩
  show fB (cm (n + 1)) s path label _ = _
  unfold fB
  rw [th h path h0 h1, Ba]
  unfold pLeavesN
  by_cases hk : pKids s.Conf path = []
  ·rw [if_pos hk, e0.1 hk]; rfl
  ·rw [if_neg hk]
   have hne : pOKids s path label ≠ [] := fun e => hk (e0.2 e)
   have hpos : 0 < (pOKids s path label).length := List.length_pos_iff.2 hne
   have e1 : (((pOKids s path label).length : Int) == 0) = false := by
    rw [beq_eq_false_iff_ne]; omega
   rw [e1, cond_false, Ba, decide_eq_false (by omega), cond_false]
   have hpow : 16 ^ d ≤ 16 ^ 3 := Nat.pow_le_pow_right (by omega) (by omega)
   have e := (dN (fun (out : List Str) i => (out, i)) (pOKids s path label) (fun out x => out ++ pLeavesN d s x label) (fun k out => out.length ≤ k * 16 ^ d) (fun out => out)
    (step := fx s label (4 - ((d + 1 : Nat) : Int)) (cm (n + 1)) (pOKids s path label)) (by omega) ?_ ?_ (s := []) (by simp)).1
   ·rw [e, Ba]
    have gen : ∀ (l z : List Str), l.foldl (fun out x => out ++ pLeavesN d s x label) z = z ++ l.flatMap fun x => pLeavesN d s x label := by
     intro l
     induction l with
     | nil => intro z; simp
     | cons x l ihl => intro z; rw [List.foldl_cons, ihl, List.flatMap_cons, List.append_assoc]
    rw [gen]
    rfl
   ·intro k hk out ho
    obtain ⟨k1, k2⟩ := hkid _ (List.getElem_mem hk)
    have hmul : k * 16 ^ d ≤ 16 * 16 ^ 3 := Nat.mul_le_mul (by omega) hpow
    refine ⟨?_, by rw [Bd, Nat.succ_mul]; omega⟩
    unfold fx
    rw [au hk, cond_true]
    dsimp only
    have ew : w64 (4 - ((d + 1 : Nat) : Int) + 1) = 4 - (d : Int) := by rw [aB (by omega) (by omega)]; omega
    rw [aH hk, Ba, Bb hk, Ba, ew, k1, Ba, ay (by omega) (by omega), Ba]
   ·intro out _
    unfold fx
    rw [aD]
    rfl
theorem vM {N : Nat} {s : State} (h : Inv N s) {label : Int} (h0 : 0 ≤ label) (h1 : label < s.Conf.Labels.length) : iG s label = some (bc s label) := by
 unfold iG lk
 have := wU h h0 h1 3 63 root (by decide) (by omega) (by omega)
 show (cm 64 s root label 1).bind _ = _
 rw [show (1 : Int) = 4 - ((3 : Nat) : Int) by rfl, this]
 rfl
theorem aZ {τ σ : Type} {step : τ → Option (τ ⊕ σ)} {t : τ} {r : σ} (h : step t = some (.inr r)) : loop step t = some r := by
 rw [aN, h]
theorem cK {τ σ : Type} {step : τ → Option (τ ⊕ σ)} {t t' : τ} (h : step t = some (.inl t')) : loop step t = loop step t' := by
 rw [aN, h]
theorem mS {k n : Nat} (h : k < n) : inb (k : Int) n = some k := aH h
theorem mG {k : Nat} (h : k < 1000000000) : w64 ((k : Int) + 1) = ((k + 1 : Nat) : Int) := p9 h
def LtA (a b : App) : Prop := b.Prio < a.Prio ∨ (b.Prio = a.Prio ∧ a.Id < b.Id)
theorem qL {a b c : App} (h : LtA a b) (k : LtA b c) : LtA a c := by unfold LtA at *; omega
theorem ri {a b : App} (h : a.Id ≠ b.Id) (k : ¬ LtA a b) : LtA b a := by unfold LtA at *; omega
theorem cmpI (x y : Int) : dR x y = some (if x < y then -1 else if x > y then 1 else 0) := by
 unfold dR gD
 have h1 : (x != x) = false := by simp
 have h2 : (y != y) = false := by simp
 simp only [h1, h2, Ba, cond_false]
 by_cases h : x < y
 ·simp [h]
 ·by_cases k : x > y
  ·simp [h, k]
  ·simp [h, k]
theorem ord1 (a b : App) : ∃ r, e_ a b = some r ∧ (r < 0 ↔ LtA a b) := by
 unfold e_
 rw [cmpI, cmpI]
 simp only [Ba]
 rw [or2]
 refine ⟨_, rfl, ?_⟩
 unfold LtA
 rcases Int.lt_trichotomy b.Prio a.Prio with h | h | h
 ·simp [h]
 ·have h1 : ¬ b.Prio < a.Prio := by omega
  have h2 : ¬ b.Prio > a.Prio := by omega
  rcases Int.lt_trichotomy a.Id b.Id with k | k | k
  ·simp [h1, h2, h, k]
  ·have k1 : ¬ a.Id < b.Id := by omega
   have k2 : ¬ a.Id > b.Id := by omega
   simp [h1, h2, h, k]
  ·have k1 : ¬ a.Id < b.Id := by omega
   simp [h1, h2, h, k, k1]
 ·have h1 : ¬ b.Prio < a.Prio := by omega
  have h2 : b.Prio > a.Prio := by omega
  have h3 : ¬ b.Prio = a.Prio := by omega
  simp [h1, h2, h3]
noncomputable abbrev cmpF : TupT fam [.st 6, .st 6] → Option Int := fun a' => e_ a'.1 a'.2.1
theorem in0 (x : App) (T : List App) : dH 0 cmpF (x :: T, 0) = some (.inr (x :: T)) := by
 unfold dH
 rfl
theorem inS_ (B T : List App) (x y : App) (hbig : B.length < 1000000000) : (LtA x y → dH 0 cmpF (B ++ y :: x :: T, ((B.length + 1 : Nat) : Int)) = some (.inl (B ++ x :: y :: T, (B.length : Int)))) ∧
  (¬ LtA x y → dH 0 cmpF (B ++ y :: x :: T, ((B.length + 1 : Nat) : Int)) = some (.inr (B ++ y :: x :: T))) := by
 obtain ⟨r, hr, hlt⟩ := ord1 x y
 have hL : (B ++ y :: x :: T).length = B.length + (T.length + 2) := by simp
 have g1 : (B ++ y :: x :: T)[B.length + 1]? = some x := by rw [List.getElem?_append_right (by omega)]; simp
 have g0 : (B ++ y :: x :: T)[B.length]? = some y := by rw [List.getElem?_append_right (by omega)]; simp
 have w1 : w64 (((B.length + 1 : Nat) : Int) - 1) = (B.length : Int) := by rw [aB (by omega) (by omega)]; omega
 have i1 : inb (((B.length + 1 : Nat) : Int)) (B ++ y :: x :: T).length = some (B.length + 1) := mS (by omega)
 have i0 : inb ((B.length : Int)) (B ++ y :: x :: T).length = some B.length := mS (by omega)
 have e1 : List.set (B ++ y :: x :: T) (B.length + 1) y = B ++ y :: y :: T := by
  rw [List.set_append_right _ _ (by omega)]; simp
 have i2 : inb ((B.length : Int)) (B ++ y :: y :: T).length = some B.length := mS (by simp)
 have g2 : (B ++ y :: y :: T)[B.length]? = some y := by rw [List.getElem?_append_right (by omega)]; simp
 have e2 : List.set (B ++ y :: y :: T) B.length x = B ++ x :: y :: T := by
  rw [List.set_append_right _ _ (by omega)]; simp
 have d1 : decide (((B.length + 1 : Nat) : Int) > 0) = true := by rw [decide_eq_true_iff]; omega
 constructor
 ·intro h
  unfold dH
  simp only [d1, cond_true, i1, i0, w1, Ba, g1, g0, hr, decide_eq_true (hlt.2 h), e1, i2, g2, e2]
 ·intro h
  unfold dH
  simp only [d1, cond_true, i1, i0, w1, Ba, g1, g0, hr, decide_eq_false (fun k => h (hlt.1 k)), cond_false]
theorem inner : ∀ (n : Nat) (B : List App), B.length = n → n < 1000000000 → ∀ (x : App) (T : List App), ∃ B1 B2, B = B1 ++ B2 ∧ loop (dH 0 cmpF) (B ++ x :: T, (B.length : Int)) = some (B1 ++ x :: (B2 ++ T)) ∧ (∀ y ∈ B2, LtA x y) ∧ (∀ C y, B1 = C ++ [y] → ¬ LtA x y)
 | 0, B, hn, _, x, T => by
  have : B = [] := List.length_eq_zero_iff.1 hn
  subst this
  exact ⟨[], [], rfl, aZ (in0 x T), by simp, fun C y h => by simp at h⟩
 | n + 1, B, hn, hb, x, T => by
  rcases List.eq_nil_or_concat B with h | ⟨B', y, h⟩
  ·subst h; simp at hn
  ·have h : B = B' ++ [y] := by simpa using h
   subst h
   have hl : B'.length = n := by simp at hn; exact hn
   have e : B' ++ [y] ++ x :: T = B' ++ y :: x :: T := by simp
   have el : ((B' ++ [y]).length : Int) = ((B'.length + 1 : Nat) : Int) := by simp
   obtain ⟨q1, q2⟩ := inS_ B' T x y (by omega)
   rw [e, el]
   by_cases hlt : LtA x y
   ·rw [cK (q1 hlt)]
    obtain ⟨B1, B2, k1, k2, k3, k4⟩ := inner n B' hl (by omega) x (y :: T)
    refine ⟨B1, B2 ++ [y], by rw [k1]; simp, by rw [k2]; simp, ?_, k4⟩
    intro z hz
    rcases List.mem_append.1 hz with h | h
    ·exact k3 z h
    ·rw [Be.1 h]; exact hlt
   ·refine ⟨B' ++ [y], [], by simp, by rw [aZ (q2 hlt)]; simp, by simp, ?_⟩
    intro C z hz
    have := List.append_inj' hz rfl
    rw [← (List.cons.inj this.2).1]; exact hlt
theorem outer (n : Nat) (hn : n < 1000000000) : ∀ (R A : List App), (A ++ R).length = n → A.Pairwise LtA → (A ++ R).Pairwise (fun a b => a.Id ≠ b.Id) →
  ∃ r, loop (fL 0 (n : Int) cmpF) (A ++ R, (A.length : Int)) = some r ∧ r.Perm (A ++ R) ∧ r.Pairwise LtA
 | [], A, hl, hs, hd => by
  have hl' : A.length = n := by simpa using hl
  refine ⟨A, ?_, by simp, hs⟩
  refine aZ ?_
  unfold fL
  have : decide ((A.length : Int) < (n : Int)) = false := by rw [decide_eq_false_iff_not]; omega
  simp only [this, cond_false, List.append_nil]
 | x :: R, A, hl, hs, hd => by
  have hl' : A.length + (R.length + 1) = n := by simpa using hl
  obtain ⟨B1, B2, k1, k2, k3, k4⟩ := inner A.length A rfl (by omega) x R
  have d1 : decide ((A.length : Int) < (n : Int)) = true := by rw [decide_eq_true_iff]; omega
  have hst : fL 0 (n : Int) cmpF (A ++ x :: R, (A.length : Int)) = some (.inl ((B1 ++ x :: B2) ++ R, (((B1 ++ x :: B2).length : Nat) : Int))) := by
   unfold fL
   simp only [d1, cond_true, k2, Ba]
   rw [mG (by omega)]
   have : (B1 ++ x :: B2).length = A.length + 1 := by rw [k1]; simp; omega
   rw [this]
   simp
  have hp : ((B1 ++ x :: B2) ++ R).Perm (A ++ x :: R) := by
   rw [k1]
   have : (B1 ++ x :: B2).Perm (B1 ++ B2 ++ [x]) := by
    refine List.perm_middle.trans ?_
    exact (List.perm_append_singleton x (B1 ++ B2)).symm
   have := this.append_right R
   simpa using this
  have hpA : (B1 ++ x :: B2).Pairwise LtA := by
   rw [k1] at hs
   obtain ⟨s1, s2, s3⟩ := List.pairwise_append.1 hs
   refine List.pairwise_append.2 ⟨s1, List.pairwise_cons.2 ⟨k3, s2⟩, ?_⟩
   have hx : ∀ y ∈ B1, LtA y x := by
    rcases List.eq_nil_or_concat B1 with h | ⟨C, z, h⟩
    ·subst h; simp
    ·have h : B1 = C ++ [z] := by simpa using h
     have hz : LtA z x := by
      refine ri ?_ (k4 C z h)
      rw [k1, h] at hd
      have := (List.pairwise_append.1 hd).2.2 z (by simp) x (by simp)
      exact fun e => this e.symm
     intro y hy
     rw [h] at hy s1
     rcases List.mem_append.1 hy with hy | hy
     ·exact qL ((List.pairwise_append.1 s1).2.2 y hy z (by simp)) hz
     ·rw [Be.1 hy]; exact hz
   intro y hy z hz
   rcases List.mem_cons.1 hz with rfl | hz
   ·exact hx y hy
   ·exact s3 y hy z hz
  obtain ⟨r, r1, r2, r3⟩ := outer n hn R (B1 ++ x :: B2) (by rw [hp.length_eq]; exact hl) hpA (hp.symm.pairwise hd (fun h => fun e => h e.symm))
  exact ⟨r, by rw [cK hst]; exact r1, r2.trans hp, r3⟩
theorem yf (l : List App) (hl : l.length ≤ 19) (hd : l.Pairwise (fun a b => a.Id ≠ b.Id)) : ∃ r, gW l cmpF = some r ∧ r.Perm l ∧ r.Pairwise LtA := by
 have h0 : ∃ r, kn l 0 (l.length : Int) cmpF = some r ∧ r.Perm l ∧ r.Pairwise LtA := by
  unfold kn
  cases l with
  | nil =>
   refine ⟨[], ?_, List.Perm.refl _, List.Pairwise.nil⟩
   have : fL 0 ((([] : List App).length : Nat) : Int) cmpF ([], w64 (0 + 1)) = some (.inr []) := rfl
   rw [aZ this]; rfl
  | cons x l =>
   obtain ⟨r, r1, r2, r3⟩ := outer (x :: l).length (by omega) l [x] (by simp) (by simp) hd
   refine ⟨r, ?_, r2, r3⟩
   have e : ((x :: l : List App), w64 (0 + 1)) = ([x] ++ l, (([x] : List App).length : Int)) := rfl
   rw [e, r1]; rfl
 obtain ⟨r, r1, r2, r3⟩ := h0
 refine ⟨r, ?_, r2, r3⟩
 unfold gW ky
 have e1 : iS (l.length : Int) cmpF (l, 0, 20) = some (.inr (l, 0)) := by
  unfold iS
  have : decide ((20 : Int) ≤ (l.length : Int)) = false := by rw [decide_eq_false_iff_not]; omega
  simp only [this, cond_false]
 have e2 : iP (l.length : Int) cmpF (r, 20) = some (.inr r) := by
  unfold iP
  have : decide ((20 : Int) < (l.length : Int)) = false := by rw [decide_eq_false_iff_not]; omega
  simp only [this, cond_false]
 rw [aZ e1]
 simp only [Ba, r1]
 rw [aZ e2]
 rfl
def ltA (a b : App) : Bool := decide (b.Prio < a.Prio) || (decide (b.Prio = a.Prio) && decide (a.Id < b.Id))
theorem gG {a b : App} : ltA a b = true ↔ LtA a b := by unfold ltA LtA; simp
theorem xq {l : List App} (h : l.Pairwise fun x y => x.Id < y.Id) : SO ltA l := by
 refine ⟨fun x _ => ?_, fun x _ y _ z _ h1 h2 => ?_, fun x hx y hy hne => ?_⟩
 ·cases e : ltA x x with
  | false => rfl
  | true => have := gG.1 e; unfold LtA at this; omega
 ·exact gG.2 (qL (gG.1 h1) (gG.1 h2))
 ·have hid : x.Id ≠ y.Id := fun e => by
   have h1 := qc h hx
   have h2 := qc h hy
   rw [e] at h1
   rw [h1] at h2
   exact hne (Option.some.inj h2)
  by_cases k : LtA x y
  ·exact .inl (gG.2 k)
  ·exact .inr (gG.2 (ri hid k))
theorem vD {l : List App} (h : l.Pairwise fun x y => x.Id < y.Id) : l.Nodup := h.imp fun {a b} hab e => by rw [e] at hab; omega
theorem oc : ∀ (l out : List App), l.Pairwise (fun x y => x.Id < y.Id) → (∀ x ∈ out, ∀ y ∈ l, x.Id < y.Id) → l.foldl lw out = l.foldl (insB ltA) out
 | [], _, _, _ => rfl
 | x :: l, out, h, ho => by
  have h' := List.pairwise_cons.1 h
  have e : lw out x = insB ltA out x := by
   unfold lw insB
   have hc : ∀ y ∈ out, (!(!decide (y.Prio ≥ x.Prio))) = (!ltA x y) := by
    intro y hy
    have := ho y hy x (by simp)
    rw [Bool.eq_iff_iff, Bool.not_not, decide_eq_true_eq, Bool.not_eq_true', ← Bool.not_eq_true, gG]
    unfold LtA
    omega
   have t : ∀ o : List App, (∀ y ∈ o, (!(!decide (y.Prio ≥ x.Prio))) = (!ltA x y)) → (o.takeWhile fun y => !(!decide (y.Prio ≥ x.Prio))) = (o.takeWhile fun y => !ltA x y) ∧ (o.dropWhile fun y => !(!decide (y.Prio ≥ x.Prio))) = (o.dropWhile fun y => !ltA x y) := by
    intro o
    induction o with
    | nil => intro _; exact ⟨rfl, rfl⟩
    | cons y o ih =>
     intro hc
     obtain ⟨i1, i2⟩ := ih fun z hz => hc z (by simp [hz])
     rw [List.takeWhile_cons, List.takeWhile_cons, List.dropWhile_cons, List.dropWhile_cons, hc y (by simp), i1, i2]
     exact ⟨rfl, rfl⟩
   obtain ⟨t1, t2⟩ := t out hc
   rw [t1, t2]
  rw [List.foldl_cons, List.foldl_cons, e]
  refine oc l _ h'.2 fun y hy z hz => ?_
  rcases lZ.1 hy with rfl | hy
  ·exact h'.1 z hz
  ·exact ho y hy z (by simp [hz])
theorem yt {N : Nat} {s : State} (h : Inv N s) (queue : Str) : (fa s queue).Pairwise LtA := by
 have hf : (s.Apps.filter fun a => pLive a && a.Queue == queue).Pairwise fun x y => x.Id < y.Id := h.asr.sublist List.filter_sublist
 unfold fa
 rw [oc _ _ hf (by simp)]
 exact ((xq hf).insB_pw (vD hf)).imp fun {a b} k => gG.1 k
theorem vg (a : App) : jK a = some (pLive a) := by
 unfold jK pLive
 cases a.State == 1 <;> rfl
theorem xb (K : List App) (hK : K.length ≤ 1000) : ((mkl 8 (K.length : Int) (K.length : Int) (0 : Int)).bind fun l3 => (loop (fy K) (l3, 0)).bind fun out => some out) = some (K.map (·.Id)) := by
 have e0 : mkl 8 (K.length : Int) (K.length : Int) (0 : Int) = some (List.replicate K.length 0) := by
  unfold mkl
  rw [if_pos ⟨by omega, by omega, by unfold maxLen; omega, by omega⟩]
  simp
 rw [e0, Ba]
 have h := gu (Q := fun x => x = K.map (·.Id)) (fun (l : List Int) i => (l, i)) K.length (fun k l => l = (K.take k).map (·.Id) ++ List.replicate (K.length - k) 0) (step := fy K) (by omega) ?_ ?_ (s := List.replicate K.length 0) (by simp)
 ·obtain ⟨x, e, rfl⟩ := h
  rw [e]; rfl
 ·rintro k hk l rfl
  have hlen : ((K.take k).map (·.Id) ++ List.replicate (K.length - k) (0 : Int)).length = K.length := by simp; omega
  have hr : List.replicate (K.length - k) (0 : Int) = 0 :: List.replicate (K.length - (k + 1)) 0 := by
   rw [show K.length - k = (K.length - (k + 1)) + 1 by omega, List.replicate_succ]
  have htl : ((K.take k).map (·.Id)).length = k := by simp; omega
  refine fm (a := .inl ((K.take (k + 1)).map (·.Id) ++ List.replicate (K.length - (k + 1)) 0, w64 ((k : Int) + 1))) ?_ (.inl ⟨_, rfl, rfl⟩)
  unfold fy
  dsimp only
  rw [au hk, cond_true, aH hk, Ba, Bb hk, Ba, hlen, aH hk, Ba, Bb (by omega), Ba]
  congr 3
  rw [List.set_append_right _ _ (by omega), htl, Nat.sub_self, hr, List.set_cons_zero, List.take_succ_eq_append_getElem hk, List.map_append]
  simp
 ·rintro l rfl
  refine fm (a := .inr _) ?_ ⟨_, rfl, rfl⟩
  unfold fy
  dsimp only
  rw [aD, cond_false]
  simp
theorem yn {N : Nat} {s : State} (h : Inv N s) (queue : Str) : jO s queue = some (pApps s queue) := by
 unfold jO
 have hal := h.al
 have hf : (s.Apps.filter fun a => pLive a && a.Queue == queue).Pairwise fun x y => x.Id < y.Id := h.asr.sublist List.filter_sublist
 have hfl : (s.Apps.filter fun a => pLive a && a.Queue == queue).length ≤ 16 := Nat.le_trans (List.length_filter_le _ _) hal
 have e1 := dL (fun (l : List App) i => (l, i)) s.Apps (fun a => pLive a && a.Queue == queue) (fun x => x) (step := hC s queue) (by omega) ?_ ?_
 ·rw [List.map_id'] at e1
  rw [e1, Ba]
  generalize hL : (s.Apps.filter fun a => pLive a && a.Queue == queue) = L at *
  obtain ⟨r, r1, r2, r3⟩ := yf L (by omega) (hf.imp fun {a b} hab => by omega)
  have er : r = fa s queue := by
   have h2 := yt h queue
   have h3 := lj s queue
   rw [hL] at h3
   have so := xq hf
   have cv : ∀ {m : List App}, m.Pairwise LtA → m.Pairwise fun a b => ltA a b = true := fun hm => hm.imp fun {a b} k => gG.2 k
   exact so.uniq r2 h3 (cv r3) (cv h2)
  rw [show gW L (fun a' => e_ a'.1 a'.2.1) = some r from r1, Ba]
  have := xb r (by have := r2.length_eq; omega)
  rw [this, er]
  rfl
 ·intro k hk l hl
  unfold hC
  dsimp only
  rw [au hk, cond_true, ax hk, Ba, vg, Ba]
  cases pLive s.Apps[k] with
  | false => rfl
  | true =>
   rw [cond_true, Ba, Bool.true_and]
   cases s.Apps[k].Queue == queue with
   | false => rfl
   | true =>
    rw [cond_true, ay (by simp; omega) (by omega)]
    rfl
 ·intro l
  unfold hC
  dsimp only
  rw [aD]
  rfl
theorem rU {τ ρ σ : Type} (mk : σ → Int → τ) (step : τ → Option (τ ⊕ ρ)) (n : Nat) (Inv : Nat → σ → Prop) (fin : σ → ρ)
  (h1 : ∀ k, k < n → ∀ s, Inv k s → ∃ s', step (mk s (k : Int)) = some (.inl (mk s' ((k + 1 : Nat) : Int))) ∧ Inv (k + 1) s')
  (h2 : ∀ s, Inv n s → step (mk s (n : Int)) = some (.inr (fin s))) {s : σ} (h0 : Inv 0 s) : ∃ s', loop step (mk s 0) = some (fin s') ∧ Inv n s' := by
 have key : ∀ (m k : Nat), m + k = n → ∀ s, Inv k s → ∃ s', loop step (mk s (k : Int)) = some (fin s') ∧ Inv n s' := by
  intro m
  induction m with
  | zero =>
   intro k hk s hs
   have hk : k = n := by omega
   subst hk
   exact ⟨s, by rw [aN, h2 s hs], hs⟩
  | succ m ih =>
   intro k hk s hs
   obtain ⟨s', e, hs'⟩ := h1 k (by omega) s hs
   rw [aN, e]
   exact ih (k + 1) (by omega) s' hs'
 exact key n 0 rfl s h0
theorem AV {α : Type} {b : Nat} {l m : List α} (h : (l ++ m).length ≤ 1000000) (hb : b ≤ 100000) : app b l m = some (l ++ m) := by
 unfold app
 rw [if_pos]
 have : (l ++ m).length * b ≤ 1000000 * 100000 := Nat.mul_le_mul h hb
 unfold maxLen
 omega
theorem fN {α : Type} {b : Nat} {l : List α} (h : l.length ≤ 1000000) (hb : b ≤ 100000) : app b [] l = some l := by
 have := AV (b := b) (l := []) (m := l) (by simpa using h) hb
 simpa using this
theorem wS {α : Type} {b : Nat} {n : Nat} {z : α} (h : n ≤ 1000000) (hb : b ≤ 100000) : mkl b (n : Int) (n : Int) z = some (List.replicate n z) := by
 unfold mkl
 rw [if_pos]
 ·simp
 ·have : b * n ≤ 100000 * 1000000 := Nat.mul_le_mul hb h
  refine ⟨by omega, by omega, ?_, ?_⟩ <;> simp only [Int.toNat_natCast] <;> unfold maxLen at * <;> omega
theorem uB {α : Type} {l m : List α} (h : l.length = m.length) : cpy l 0 l.length m = m := by
 unfold cpy
 rw [h, List.take_length, Nat.min_self, ← h]
 simp
structure SmallA (a : App) : Prop where
 asks : a.Asks.length ≤ 1000000
 grants : a.Grants.length ≤ 1000000
 kills : a.Kills.length ≤ 1000000
 told : a.Told.length ≤ 1000000
 lost : a.Lost.length ≤ 1000000
structure Small (s : State) : Prop where
 labels : s.Conf.Labels.length ≤ 1000
 queues : s.Conf.Queues.length ≤ 1000
 caps : ∀ q ∈ s.Conf.Queues, q.Caps.length ≤ 1000
 nodes : s.Nodes.length ≤ 1000
 apps : s.Apps.length ≤ 1000
 app : ∀ a ∈ s.Apps, SmallA a
 conts : s.Conts.length ≤ 1000
 slots : s.Slots.length ≤ 1000
 plans : s.Plans.length ≤ 1000
theorem nK {l : List Int} (h : l.length ≤ 1000000) : gx l = some l := by
 unfold gx
 rw [wS (by omega) (by omega)]
 simp only [Ba]
 rw [uB (by simp)]
theorem lH {a : App} (h : SmallA a) : jm a = some a := by
 unfold jm je
 rw [fN (by have := h.asks; omega) (by omega), nK h.grants, nK h.kills, nK h.told, nK h.lost]
 rfl
theorem tv {α : Type} {l : List α} {k : Nat} (h : k < l.length) : l.set k l[k] = l := by simp
theorem r7 {s : State} (h : Small s) : jb s = some s := by
 unfold jb co ji nf jN ng nj kf
 rw [fN (by have := h.labels; omega) (by omega), fN (by have := h.queues; omega) (by omega)]
 simp only [Ba]
 obtain ⟨x, e, hx⟩ := rU (fun (v : List Queue) k => (v, k)) (jr s.Conf.Queues) s.Conf.Queues.length (fun _ v => v = s.Conf.Queues) (fun v => v) (by
  rintro k hk v rfl
  refine ⟨s.Conf.Queues, ?_, rfl⟩
  have hq := h.queues
  have hc := h.caps _ (List.getElem_mem hk)
  unfold jr kC
  rw [decide_eq_true (by dsimp only; omega), mG (by omega)]
  dsimp only
  rw [mS hk]
  simp only [cond_true, Ba, Bb hk]
  rw [fN (by omega) (by omega)]
  simp only [Ba]
  rw [show (⟨s.Conf.Queues[k].Path, s.Conf.Queues[k].Caps, s.Conf.Queues[k].User⟩ : Queue) = s.Conf.Queues[k] from rfl, tv hk]) (by
  rintro v rfl
  unfold jr
  rw [decide_eq_false (by dsimp only; omega)]
  rfl) (s := s.Conf.Queues) rfl
 rw [e, hx]
 simp only [Ba]
 rw [fN (by have := h.nodes; omega) (by omega), fN (by have := h.conts; omega) (by omega), fN (by have := h.slots; omega) (by omega), fN (by have := h.plans; omega) (by omega), fN (by have := h.apps; omega) (by omega)]
 simp only [Ba]
 obtain ⟨y, e, hy⟩ := rU (fun (v : List App) k => (v, k)) (jt s.Apps) s.Apps.length (fun _ v => v = s.Apps) (fun v => v) (by
  rintro k hk v rfl
  refine ⟨s.Apps, ?_, rfl⟩
  have hq := h.apps
  unfold jt
  rw [decide_eq_true (by dsimp only; omega), mG (by omega)]
  dsimp only
  rw [mS hk]
  simp only [cond_true, Ba, Bb hk]
  rw [lH (h.app _ (List.getElem_mem hk))]
  simp only [Ba]
  rw [tv hk]) (by
  rintro v rfl
  unfold jt
  rw [decide_eq_false (by dsimp only; omega)]
  rfl) (s := s.Apps) rfl
 rw [e, hy]
 rfl
theorem uQ {s : State} (h : Small s) : go s [] = some s := by
 unfold go
 rw [r7 h]
 simp only [Ba]
 first
 | rw [show loop (gw []) (s, 0) = some s by rw [aN]; unfold gw; rfl]
 | rw [show loop (gw []) 0 = some () by rw [aN]; unfold gw; rfl]
 simp only [Ba]
 rw [r7 h]
 rfl
theorem Inv.small {N : Nat} {s : State} (h : Inv N s) (hN : N ≤ 1000000) : Small s := by
 have c := h.cf
 have h1 := c.lab
 have h2 := c.qs
 have h3 := h.nl
 have h4 := h.al
 have h5 := h.cl
 have h6 := h.sl
 have h7 := h.pl
 refine ⟨by omega, by omega, ?_, by omega, by omega, ?_, by omega, by omega, by omega⟩
 ·intro q hq
  obtain ⟨i, hi, rfl⟩ := List.getElem_of_mem hq
  have := (c.q i hi).caps
  omega
 ·intro a ha
  have := h.ak a ha
  have k1 := this.al
  have k2 := this.gr
  have k3 := this.ki
  have k4 := this.to
  have k5 := this.lo
  exact ⟨by omega, by omega, by omega, by omega, by omega⟩
def G2 {α β : Type} (m : Option α) (m' : Option β) (R : α → β → Prop) : Prop := ∃ a b, m = some a ∧ m' = some b ∧ R a b
section
variable {α β γ δ τ σ ρ τ' σ' ρ' : Type}
theorem aV {R : α → β → Prop} {a : α} {b : β} (h : R a b) : G2 (some a) (some b) R := ⟨a, b, rfl, rfl, h⟩
theorem jX {m : Option α} {m' : Option β} {f : α → Option γ} {f' : β → Option δ} {P : α → β → Prop} {R : γ → δ → Prop} (h : G2 m m' P) (k : ∀ a b, P a b → G2 (f a) (f' b) R) : G2 (m.bind f) (m'.bind f') R := by
 obtain ⟨a, b, rfl, rfl, hp⟩ := h
 exact k a b hp
theorem lr {b b' : Bool} {x y : Option α} {x' y' : Option β} {R : α → β → Prop} (e : b = b') (h : b = true → G2 x x' R) (k : b = false → G2 y y' R) : G2 (cond b x y) (cond b' x' y') R := by
 subst e
 cases b
 ·exact k rfl
 ·exact h rfl
theorem tj (mk : σ → Int → τ) (mk' : σ' → Int → τ') (n : Nat) (I : Nat → σ → σ' → Prop) {step : τ → Option (τ ⊕ ρ)} {step' : τ' → Option (τ' ⊕ ρ')} {Q : ρ → ρ' → Prop} (hn : n < 1000000000)
  (h1 : ∀ k, k < n → ∀ s s', I k s s' → G2 (step (mk s (k : Int))) (step' (mk' s' (k : Int))) fun r r' => (∃ u u', r = .inl (mk u (w64 ((k : Int) + 1))) ∧ r' = .inl (mk' u' (w64 ((k : Int) + 1))) ∧ I (k + 1) u u') ∨ ∃ x x', r = .inr x ∧ r' = .inr x' ∧ Q x x')
  (h2 : ∀ s s', I n s s' → G2 (step (mk s (n : Int))) (step' (mk' s' (n : Int))) fun r r' => ∃ x x', r = .inr x ∧ r' = .inr x' ∧ Q x x') {s : σ} {s' : σ'} (h0 : I 0 s s') : G2 (loop step (mk s 0)) (loop step' (mk' s' 0)) Q := by
 have key : ∀ (m k : Nat), m + k = n → ∀ s s', I k s s' → G2 (loop step (mk s (k : Int))) (loop step' (mk' s' (k : Int))) Q := by
  intro m
  induction m with
  | zero =>
   intro k hk s s' hs
   have hk : k = n := by omega
   subst hk
   obtain ⟨r, r', e, e', x, x', rfl, rfl, hx⟩ := h2 s s' hs
   rw [aN, e, aN, e']
   exact aV hx
  | succ m ih =>
   intro k hk s s' hs
   obtain ⟨r, r', e, e', hr⟩ := h1 k (by omega) s s' hs
   rw [aN step, e, aN step', e']
   rcases hr with ⟨u, u', rfl, rfl, hu⟩ | ⟨x, x', rfl, rfl, hx⟩
   ·have : w64 ((k : Int) + 1) = ((k + 1 : Nat) : Int) := p9 (by omega)
    rw [this]
    exact ih (k + 1) (by omega) u u' hu
   ·exact aV hx
 exact key n 0 rfl s s' h0
theorem kX (l : List α) (hl : l.length < 1000000000) (g : α → Bool) {step : Int → Option (Int ⊕ (Int ⊕ Unit))}
  (h1 : ∀ k (hk : k < l.length), step (k : Int) = some (bif g l[k] then .inr (.inl (k : Int)) else .inl (w64 ((k : Int) + 1)))) (h2 : step (l.length : Int) = some (.inr (.inr ()))) :
  (∃ k, ∃ (hk : k < l.length), l.find? g = some l[k] ∧ loop step 0 = some (.inl (k : Int))) ∨ (l.find? g = none ∧ loop step 0 = some (.inr ())) :=
 oY (fun i => i) l g (fun i => (.inl i : Int ⊕ Unit)) (.inr ()) hl (fun k hk hf => by rw [h1 k hk, hf]; rfl) (fun k hk hf => by rw [h1 k hk, hf]; rfl) h2
theorem vq {id : α → Int} : ∀ {l : List α} (hs : l.Pairwise fun x y => id x < id y) {k : Nat} (hk : k < l.length) {a : α} (e : id l[k] = id a), l.set k a = putG id l a
 | [], _, k, hk, a, e => absurd hk (by simp)
 | b :: l, hs, 0, hk, a, e => by
  have e : id b = id a := e
  unfold putG
  rw [List.takeWhile_cons_of_neg (by simp; omega), List.dropWhile_cons_of_neg (by simp; omega)]
  simp [e]
 | b :: l, hs, k + 1, hk, a, e => by
  have hk' : k < l.length := by simpa using hk
  have e : id l[k] = id a := e
  have hb := (List.pairwise_cons.1 hs).1 _ (List.getElem_mem hk')
  have ih := vq (List.pairwise_cons.1 hs).2 hk' e
  unfold putG at ih ⊢
  rw [List.takeWhile_cons_of_pos (by simp; omega), List.dropWhile_cons_of_pos (by simp; omega), List.set_cons_succ, ih, List.cons_append]
theorem ve {id : α → Int} {l : List α} (hl : l.length ≤ 1000000) (a : α) : ins l ((l.takeWhile fun x => decide (id x < id a)).length : Int) [a] = some (insG id l a) := by
 have hle := gk (fun x => decide (id x < id a)) l
 have ht := gc (fun x => decide (id x < id a)) l
 unfold ins
 rw [if_pos ⟨by omega, by omega, by simp, hl⟩, Int.toNat_natCast, ht.1, ht.2]
 unfold insG
 simp
theorem w6 {id : α → Int} {l : List α} (h : l.Pairwise fun a b => id a < id b) {k : Nat} (hk : k < l.length) : (l.filter fun p => id p != id l[k]) = l.take k ++ l.drop (k + 1) := by
 have e1 : ((l.take k).filter fun p => id p != id l[k]) = l.take k := by
  refine List.filter_eq_self.2 fun x hx => ?_
  obtain ⟨i, hi, rfl⟩ := List.getElem_of_mem hx
  rw [List.length_take] at hi
  rw [List.getElem_take]
  have := List.pairwise_iff_getElem.1 h i k (by omega) hk (by omega)
  simp; omega
 have e2 : ((l.drop (k + 1)).filter fun p => id p != id l[k]) = l.drop (k + 1) := by
  refine List.filter_eq_self.2 fun x hx => ?_
  obtain ⟨i, hi, rfl⟩ := List.getElem_of_mem hx
  rw [List.length_drop] at hi
  rw [List.getElem_drop]
  have := List.pairwise_iff_getElem.1 h k (k + 1 + i) hk (by omega) (by omega)
  simp; omega
 have e0 : ∀ f : α → Bool, l.filter f = (l.take k).filter f ++ (if f l[k] = true then l[k] :: (l.drop (k + 1)).filter f else (l.drop (k + 1)).filter f) := by
  intro f
  rw [← List.filter_cons, ← List.filter_append, ← List.drop_eq_getElem_cons hk, List.take_append_drop]
 rw [e0, e1, e2]
 simp
theorem xE {l : List α} {k : Nat} (hk : k < l.length) (hl : l.length ≤ 1000000) : del l (k : Int) (w64 ((k : Int) + 1)) = some (l.take k ++ l.drop (k + 1)) := by
 unfold del
 rw [aB (by omega) (by omega), if_pos ⟨by omega, by omega, by omega⟩]
 congr 2
end
theorem xA (l : List App) (hl : l.length ≤ 1000) (f : TupT fam [.st 6] → Option Bool) (g : App → Bool) (hg : ∀ k, f (k, ()) = some (g k)) :
  (∃ k, ∃ (hk : k < l.length), l.find? g = some l[k] ∧ gq l f = some (k : Int)) ∨ (l.find? g = none ∧ gq l f = some (-1)) := by
 unfold gq
 have e := kX l (by omega) g (step := fU l f) ?_ ?_
 ·rcases e with ⟨k, hk, e1, e2⟩ | ⟨e1, e2⟩
  ·exact .inl ⟨k, hk, e1, by rw [e2]; rfl⟩
  ·exact .inr ⟨e1, by rw [e2]; rfl⟩
 ·intro k hk
  unfold fU
  rw [au hk, ax hk]
  simp only [cond_true, Ba, hg]
  cases g l[k] <;> rfl
 ·unfold fU
  rw [aD]
  rfl
theorem l9 (l : List Slot) (hl : l.length ≤ 1000) (f : TupT fam [.st 8] → Option Bool) (g : Slot → Bool) (hg : ∀ k, f (k, ()) = some (g k)) :
  (∃ k, ∃ (hk : k < l.length), l.find? g = some l[k] ∧ dZ l f = some (k : Int)) ∨ (l.find? g = none ∧ dZ l f = some (-1)) := by
 unfold dZ
 have e := kX l (by omega) g (step := ff l f) ?_ ?_
 ·rcases e with ⟨k, hk, e1, e2⟩ | ⟨e1, e2⟩
  ·exact .inl ⟨k, hk, e1, by rw [e2]; rfl⟩
  ·exact .inr ⟨e1, by rw [e2]; rfl⟩
 ·intro k hk
  unfold ff
  rw [au hk, ax hk]
  simp only [cond_true, Ba, hg]
  cases g l[k] <;> rfl
 ·unfold ff
  rw [aD]
  rfl
theorem xv (l : List Ask) (hl : l.length ≤ 1000) (f : TupT fam [.st 5] → Option Bool) (g : Ask → Bool) (hg : ∀ k, f (k, ()) = some (g k)) :
  (∃ k, ∃ (hk : k < l.length), l.find? g = some l[k] ∧ gj l f = some (k : Int)) ∨ (l.find? g = none ∧ gj l f = some (-1)) := by
 unfold gj
 have e := kX l (by omega) g (step := fV l f) ?_ ?_
 ·rcases e with ⟨k, hk, e1, e2⟩ | ⟨e1, e2⟩
  ·exact .inl ⟨k, hk, e1, by rw [e2]; rfl⟩
  ·exact .inr ⟨e1, by rw [e2]; rfl⟩
 ·intro k hk
  unfold fV
  rw [au hk, ax hk]
  simp only [cond_true, Ba, hg]
  cases g l[k] <;> rfl
 ·unfold fV
  rw [aD]
  rfl
theorem vw (l : List Node) (hl : l.length ≤ 1000) (f : TupT fam [.st 4] → Option Bool) (g : Node → Bool) (hg : ∀ k, f (k, ()) = some (g k)) :
  (∃ k, ∃ (hk : k < l.length), l.find? g = some l[k] ∧ fA l f = some (k : Int)) ∨ (l.find? g = none ∧ fA l f = some (-1)) := by
 unfold fA
 have e := kX l (by omega) g (step := ft l f) ?_ ?_
 ·rcases e with ⟨k, hk, e1, e2⟩ | ⟨e1, e2⟩
  ·exact .inl ⟨k, hk, e1, by rw [e2]; rfl⟩
  ·exact .inr ⟨e1, by rw [e2]; rfl⟩
 ·intro k hk
  unfold ft
  rw [au hk, ax hk]
  simp only [cond_true, Ba, hg]
  cases g l[k] <;> rfl
 ·unfold ft
  rw [aD]
  rfl
theorem xG (l : List Slot) (hl : l.length ≤ 1000) (f : TupT fam [.st 8] → Option Bool) (g : Slot → Bool) (hg : ∀ k, f (k, ()) = some (g k)) : hU l f = some (l.find? g).isSome := by
 unfold hU
 rcases l9 l hl f g hg with ⟨k, hk, e1, e2⟩ | ⟨e1, e2⟩
 ·rw [e1, e2]
  simp
 ·rw [e1, e2]
  simp
theorem mM {s : State} (hn : s.Nodes.length ≤ 1000) (i : Int) : iL s i = some ((cQ s i).elim (noN, false) fun x => (x, true)) := by
 unfold iL oF cQ
 rcases vw s.Nodes hn (fun a' => kF i a'.1) (fun x => x.Id == i) (fun k => rfl) with ⟨k, hk, e1, e2⟩ | ⟨e1, e2⟩
 ·rw [e2, e1]
  simp only [Ba, Option.elim_some]
  rw [decide_eq_false (by omega), cond_false, ax hk]
  rfl
 ·rw [e2, e1]
  rfl
theorem tD {N : Nat} {s : State} (h : Inv N s) (i : Int) : jV s i = some (iH s i) := by
 have hcl := h.cl
 unfold jV
 rw [fe (fun v i => (v, i)) s.Conts (fun c => c.Node == i) (·.Size) (step := hP s i) (by omega) (fun c hc _ => ((h.sb.cs c hc).mono (by omega))) ?_ ?_]
 ·rfl
 ·intro k hk v hv
  unfold hP
  dsimp only
  rw [au hk]
  simp only [ax hk, cond_true, Ba]
  rw [mK hv (h.sb.cs _ (List.getElem_mem hk)) (by omega)]
  cases s.Conts[k].Node == i <;> rfl
 ·intro v
  unfold hP
  dsimp only
  rw [aD]
  rfl
theorem tq {N : Nat} {s : State} (h : Inv N s) (i : Int) : jT s i = some (pFree s i) := by
 have hnl := h.nl
 have hcl := h.cl
 unfold jT pFree
 rw [mM (by omega)]
 cases hn : cQ s i with
 | none => rfl
 | some n =>
  have hc := (h.nk n (fh (id := fun x : Node => x.Id) hn).1).1
  simp only [Option.elim_some, Ba, Bool.not_true, cond_false]
  cases hu : n.Up with
  | false => rfl
  | true =>
   simp only [Bool.not_true, cond_false, if_true]
   have hb := sB h.sb i
   rw [tD h, Ba]
   unfold VB at hc hb
   unfold vless
   rw [aB (by omega) (by omega), aB (by omega) (by omega)]
theorem qR {s : State} (hn : s.Apps.length ≤ 1000) (i : Int) : (∃ k, ∃ (hk : k < s.Apps.length), appAt s i = some s.Apps[k] ∧ j1 s i = some (k : Int)) ∨ (appAt s i = none ∧ j1 s i = some (-1)) := by
 unfold j1 appAt
 rcases xA s.Apps hn (fun a' => mL a'.1 i) (fun x => x.Id == i) (fun k => rfl) with ⟨k, hk, e1, e2⟩ | ⟨e1, e2⟩
 ·exact .inl ⟨k, hk, e1, by rw [e2]; rfl⟩
 ·exact .inr ⟨e1, by rw [e2]; rfl⟩
theorem n_ {s : State} (h : Small s) (i : Int) : jy s i = some ((appAt s i).elim (noA, false) fun x => (x, true)) := by
 unfold jy
 rcases qR h.apps i with ⟨k, hk, e1, e2⟩ | ⟨e1, e2⟩
 ·rw [e2, e1]
  simp only [Ba, Option.elim_some]
  rw [decide_eq_false (by omega), cond_false, ax hk, Ba, lH (h.app _ (List.getElem_mem hk))]
  rfl
 ·rw [e2, e1]
  rfl
theorem A6 {s : State} (hn : s.Apps.length ≤ 1000) (hs : s.Apps.Pairwise fun x y => x.Id < y.Id) {a : App} (hb : ∃ b ∈ s.Apps, b.Id = a.Id) : mn s a = some (pPutA s a) := by
 unfold mn
 rcases qR hn a.Id with ⟨k, hk, e1, e2⟩ | ⟨e1, e2⟩
 ·have hid := (fh (id := fun x : App => x.Id) e1).2
  rw [e2, Ba, show decide ((k : Int) ≥ 0) = true from decide_eq_true (by omega), cond_true, aH hk, Ba, Bb hk, Ba, vq (id := fun x : App => x.Id) hs hk hid]
  rfl
 ·obtain ⟨b, hb, e⟩ := hb
  exact absurd e (oK (id := fun x : App => x.Id) e1 b hb)
theorem uD {s : State} (h : Small s) (hs : s.Apps.Pairwise fun x y => x.Id < y.Id) {a : App} (ha : SmallA a) (hb : ∃ b ∈ s.Apps, b.Id = a.Id) : h_ s a = some (pPutA s a) := by
 unfold h_
 rw [r7 h, Ba, lH ha, Ba, A6 h.apps hs hb, Ba]
theorem o7 {l : List Ask} (h : l.length ≤ 1000) : kv l = some l := by
 unfold kv
 rw [wS (by omega) (by omega), Ba, uB (by simp)]
theorem qK {l : List Ask} (hl : l.length ≤ 1000) (p : Int) : (∃ k, ∃ (hk : k < l.length), askAt l p = some l[k] ∧ j5 l p = some (k : Int)) ∨ (askAt l p = none ∧ j5 l p = some (-1)) := by
 unfold j5 askAt
 rcases xv l hl (fun a' => m8 a'.1 p) (fun x => x.Prio == p) (fun k => rfl) with ⟨k, hk, e1, e2⟩ | ⟨e1, e2⟩
 ·exact .inl ⟨k, hk, e1, by rw [e2]; rfl⟩
 ·exact .inr ⟨e1, by rw [e2]; rfl⟩
theorem nO (p : Int) : ∀ {l : List Ask}, (∀ x ∈ l, x.Prio ≠ p) → l.filterMap (takeK p) = l
 | [], _ => rfl
 | x :: l, h => by
  rw [List.filterMap_cons, show takeK p x = some x from if_neg (h x (by simp)), nO p (fun y hy => h y (by simp [hy]))]
theorem mr (p : Int) : ∀ {l : List Ask}, (∀ x ∈ l, x.Prio ≠ p) → l.map (missK p) = l
 | [], _ => rfl
 | x :: l, h => by
  rw [List.map_cons, show missK p x = x from if_neg (h x (by simp)), mr p (fun y hy => h y (by simp [hy]))]
theorem qG {l : List Ask} (hs : l.Pairwise fun x y => x.Prio < y.Prio) {k : Nat} (hk : k < l.length) : (∀ x ∈ l.take k, x.Prio ≠ l[k].Prio) ∧ ∀ x ∈ l.drop (k + 1), x.Prio ≠ l[k].Prio := by
 constructor
 ·intro x hx
  obtain ⟨i, hi, rfl⟩ := List.getElem_of_mem hx
  rw [List.length_take] at hi
  rw [List.getElem_take]
  have := List.pairwise_iff_getElem.1 hs i k (by omega) hk (by omega)
  omega
 ·intro x hx
  obtain ⟨i, hi, rfl⟩ := List.getElem_of_mem hx
  rw [List.length_drop] at hi
  rw [List.getElem_drop]
  have := List.pairwise_iff_getElem.1 hs k (k + 1 + i) hk (by omega) (by omega)
  omega
theorem tK {α : Type} {l : List α} {k : Nat} (hk : k < l.length) : l = l.take k ++ l[k] :: l.drop (k + 1) := by
 rw [← List.drop_eq_getElem_cons hk, List.take_append_drop]
theorem yv {l : List Ask} (hs : l.Pairwise fun x y => x.Prio < y.Prio) {k : Nat} (hk : k < l.length) : pTake l l[k].Prio = l.take k ++ ((takeK l[k].Prio l[k]).toList ++ l.drop (k + 1)) := by
 obtain ⟨h1, h2⟩ := qG hs hk
 unfold pTake
 conv => lhs; arg 2; rw [tK hk]
 rw [List.filterMap_append, List.filterMap_cons, nO _ h1, nO _ h2]
 cases takeK l[k].Prio l[k] <;> rfl
theorem ya {l : List Ask} (hs : l.Pairwise fun x y => x.Prio < y.Prio) {k : Nat} (hk : k < l.length) : pMiss l l[k].Prio = l.take k ++ missK l[k].Prio l[k] :: l.drop (k + 1) := by
 obtain ⟨h1, h2⟩ := qG hs hk
 unfold pMiss
 conv => lhs; arg 2; rw [tK hk]
 rw [List.map_append, List.map_cons, mr _ h1, mr _ h2]
theorem sa {α : Type} {l : List α} {k : Nat} (hk : k < l.length) (a : α) : l.set k a = l.take k ++ a :: l.drop (k + 1) := by
 rw [List.set_eq_take_append_cons_drop, if_pos hk]
theorem zo {l : List Ask} (hl : l.length ≤ 1000) (hs : l.Pairwise fun x y => x.Prio < y.Prio) (hc : ∀ x ∈ l, 0 ≤ x.Count ∧ x.Count ≤ 1000000) (p : Int) : ∃ b, k8 l p = some (pTake l p, b) := by
 unfold k8
 rw [o7 hl, Ba]
 rcases qK hl p with ⟨k, hk, e1, e2⟩ | ⟨e1, e2⟩
 ·have hp : l[k].Prio = p := (k7 e1).2
  have hcx := hc _ (List.getElem_mem hk)
  subst hp
  refine ⟨true, ?_⟩
  have hk' : ∀ y : Ask, k < (l.set k y).length := fun y => by rw [List.length_set]; exact hk
  rw [e2, Ba, decide_eq_false (by omega), cond_false, aH hk, Ba, Bb hk, Ba]
  have hs1 : ∀ y : Ask, inb (k : Int) (l.set k y).length = some k := fun y => aH (hk' y)
  have hs2 : ∀ y : Ask, (l.set k y)[k]? = some y := fun y => List.getElem?_set_self hk
  simp only [hs1, hs2, List.set_set, Ba]
  rw [aB (x := l[k].Count - 1) (by omega) (by omega), yv hs hk]
  unfold takeK
  rw [if_pos rfl]
  by_cases hn : l[k].Count - 1 ≤ 0
  ·rw [decide_eq_true hn, if_pos hn, cond_true]
   unfold kg
   rw [xE (hk' _) (by rw [List.length_set]; omega)]
   simp only [Ba, Option.toList_none, List.nil_append]
   rw [sa hk]
   congr 2
   have h1 : (l.take k).length = k := by rw [List.length_take]; omega
   rw [List.take_append_of_le_length (by omega), List.drop_append, List.take_of_length_le (by omega), h1, List.drop_eq_nil_of_le (by omega)]
   simp
  ·rw [decide_eq_false hn, if_neg hn, cond_false]
   simp only [Ba, Option.toList_some, List.singleton_append]
   rw [sa hk]
 ·refine ⟨false, ?_⟩
  have : pTake l p = l := nO p fun x hx => by
   have := List.find?_eq_none.1 e1 x hx
   simpa using this
  rw [e2, Ba, this]
  rfl
theorem yF {l : List Ask} (hl : l.length ≤ 1000) (hs : l.Pairwise fun x y => x.Prio < y.Prio) (p : Int) : kJ l p = some (pMiss l p) := by
 unfold kJ
 rw [o7 hl, Ba]
 rcases qK hl p with ⟨k, hk, e1, e2⟩ | ⟨e1, e2⟩
 ·have hp : l[k].Prio = p := (k7 e1).2
  subst hp
  rw [e2, Ba, show decide ((k : Int) ≥ 0) = true from decide_eq_true (by omega), cond_true]
  simp only [aH hk, Bb hk, Ba]
  rw [ya hs hk, sa hk]
  unfold missK
  rw [if_pos rfl]
 ·have : pMiss l p = l := mr p fun x hx => by
   have := List.find?_eq_none.1 e1 x hx
   simpa using this
  rw [e2, Ba, this]
  rfl
theorem tO {a : App} (h : a.Asks.length ≤ 100000) (prio : Int) : jv a prio = some ((askAt a.Asks prio).elim (noK, false) fun x => (x, true)) := by
 unfold jv
 have e := cT (fun i => (noK, i)) a.Asks (fun q => q.Prio == prio) (fun q => .inl (q, true)) (.inr noK) (step := eV a prio) (by omega) ?_ ?_ ?_
 ·unfold noK at e
  rw [e]
  unfold askAt noK
  cases a.Asks.find? fun q => q.Prio == prio <;> rfl
 ·intro k hk hp
  unfold eV
  rw [au hk, ax hk]
  simp only [cond_true, Ba, hp, cond_false]
 ·intro k hk hp
  unfold eV
  rw [au hk, ax hk]
  simp only [cond_true, Ba, hp]
 ·unfold eV
  rw [aD]
  rfl
theorem qz (a : Ask) (n : Node) : fR a n = some (eR a n) := by
 have h : fR a n = aO a n := by
  unfold fR aO
  cases n.Up <;> cases (n.Label != a.Label) <;> cases (a.Rack == -1) <;> cases hn : (a.Node == n.Id) <;> cases (a.Node == -1) <;> cases (a.Rack == n.Rack) <;> rfl
 rw [h, ig]
theorem uA (a : Ask) (n : Node) : d4 a n = some (pMay a n) := by
 have h : d4 a n = aY a n := by
  unfold d4 aY
  rw [qz, ig]
 rw [h, lE]
theorem sA {x : Ask} {n : Node} (h : eR x n ≠ 4) : n.Label = x.Label ∧ n.Up = true := by
 have e := ig x n
 unfold aO at e
 cases hu : n.Up with
 | false =>
  rw [hu] at e
  exact absurd (Option.some.inj e).symm h
 | true =>
  rw [hu] at e
  cases hl : (n.Label != x.Label) with
  | true =>
   rw [hl] at e
   exact absurd (Option.some.inj e).symm h
  | false => exact ⟨by simpa using hl, rfl⟩
theorem xx {x : Ask} {n : Node} (h : pMay x n = true) : eR x n ≠ 4 := by
 intro e
 have e2 := lE x n
 unfold aY at e2
 rw [ig, e] at e2
 rw [h] at e2
 exact absurd (Option.some.inj e2) (by decide)
def pDueL (s : State) (lab : Int) (q : Str) (x : Ask) : Bool := vfits (vplus (pUsed s q lab true 0) x.Size) (pDown s q lab true)
section
variable {N : Nat} {s : State} {n : Node} {F : Vec} {a : App} {x : Ask}
theorem due2 (h : Inv N s) (hn : n ∈ s.Nodes) (hq : a.Queue.length ≤ 1000000) (hx : VB 1073741824 x.Size) : cV ⟨s, n, F⟩ a x = some (pDueL s n.Label a.Queue x) := by
 have hk := h.nk n hn
 have hcl := h.cl
 unfold cV pDueL
 dsimp only
 rw [oQ h hq, Ba, mK (lG h.sb a.Queue n.Label true 0) hx (by omega), Ba]
 dsimp only
 rw [show ((0 : Int) == 0) = true from rfl, cond_true, mD h.sc hq hk.2.1 hk.2.2, Ba, i_, Ba]
theorem more2 (h : Inv N s) (hn : n ∈ s.Nodes) (hq : a.Queue.length ≤ 1000000) (hu : 0 ≤ a.User) : cB ⟨s, n, F⟩ a = some (pMore s a.Queue n.Label a.User) := by
 have hk := h.nk n hn
 unfold cB pMore
 dsimp only
 rw [yV h hq n.Label hu, Ba, zm h.sc hq hk.2.1 hk.2.2, Ba, i_, Ba]
theorem room2 (h : Inv N s) (hn : n ∈ s.Nodes) (hq : a.Queue.length ≤ 1000000) (hx : VB 1073741824 x.Size) : cy ⟨s, n, F⟩ a x = some (pRoom s a.Queue n.Label x.Size) := by
 have hk := h.nk n hn
 unfold cy
 dsimp only
 rw [xS h hq hk.2.1 hk.2.2 hx, Ba]
theorem wZ : b8 ⟨s, n, F⟩ x = some ((eR x n != 4) && vfits x.Size n.Cap) := by
 unfold b8
 dsimp only
 rw [qz, Ba, i_]
 cases (eR x n != 4) <;> rfl
theorem fits2 : cE ⟨s, n, F⟩ x = some (vfits x.Size F) := by
 unfold cE
 dsimp only
 rw [i_, Ba]
theorem miss2 (hN : N ≤ 1000000) (h : Inv N s) (ha : a ∈ s.Apps) (p : Int) : dX ⟨s, n, F⟩ a p = some (eY a p, ⟨pPutA s (eY a p), n, F⟩) := by
 have hak := h.ak a ha
 have hsa := (h.small hN).app a ha
 unfold dX
 dsimp only
 rw [yF (by have := hak.al; omega) hak.ap, Ba]
 have e := uD (h.small hN) h.asr (a := eY a p) ⟨by show (a.Asks.map _).length ≤ _; rw [List.length_map]; exact hsa.asks, hsa.grants, hsa.kills, hsa.told, hsa.lost⟩ ⟨a, ha, rfl⟩
 show ((h_ s (eY a p)).bind _) = _
 rw [e]
 rfl
theorem wJ (hN : N + 1 ≤ 1000000) (h : Inv N s) (ha : a ∈ s.Apps) (hl : x.Label = n.Label) : bn ⟨s, n, F⟩ a x = some (gCont s n a x, ⟨bX s n a x, n, F⟩) := by
 have hak := h.ak a ha
 have hsm := h.small (by omega)
 have hsa := hsm.app a ha
 have hsq := h.sq
 have hcl := h.cl
 unfold bn
 dsimp only
 obtain ⟨b, eb⟩ := zo (l := a.Asks) (by have := hak.al; omega) hak.ap (fun y hy => by have := (hak.ask y hy).count; omega) x.Prio
 rw [eb, Ba]
 have e1 : (bif a.State == 1 then some (⟨a.Id, 2, a.Queue, a.User, a.Prio, ⟨a.Master.Mem, a.Master.Cores⟩, [], s.Now, 0, a.Grants, a.Kills, a.Told, a.Lost⟩ : App)
  else (app 8 a.Grants [w64 ((shlK .i64 s.Epoch 20) + (w64 (s.Seq + 1)))]).bind fun l =>
   some (⟨a.Id, a.State, a.Queue, a.User, a.Prio, ⟨a.Master.Mem, a.Master.Cores⟩, (pTake a.Asks x.Prio, b).1, a.Seen, a.Beat, l, a.Kills, a.Told, a.Lost⟩ : App)) = some (gApp s a x) := by
  unfold gApp
  by_cases hs : a.State = 1
  ·rw [if_pos hs, show (a.State == 1) = true by simpa using hs]; rfl
  ·rw [if_neg hs, show (a.State == 1) = false by simpa using hs, cond_false, ay (by have := hak.gr; simp; omega) (by omega), Ba]
   rfl
 rw [e1, Ba]
 have hgid : (gApp s a x).Id = a.Id := by unfold gApp; split <;> rfl
 have hgs : SmallA (gApp s a x) := by
  have ht := (ur hak.ask x.Prio).1
  have h1 := hak.al
  have h2 := hak.gr
  unfold gApp
  split
  ·exact ⟨by simp, hsa.grants, hsa.kills, hsa.told, hsa.lost⟩
  ·exact ⟨by dsimp only; omega, by simp; omega, hsa.kills, hsa.told, hsa.lost⟩
 have e2 : h_ (⟨⟨s.Conf.Labels, s.Conf.Queues⟩, s.Nodes, s.Apps, s.Conts, s.Slots, s.Plans, s.Now, s.Epoch, w64 (s.Seq + 1)⟩ : State) (gApp s a x) = some (pPutA ⟨s.Conf, s.Nodes, s.Apps, s.Conts, s.Slots, s.Plans, s.Now, s.Epoch, s.Seq + 1⟩ (gApp s a x)) := by
  rw [aB (x := s.Seq + 1) (by omega) (by omega)]
  have hs2 : Small ⟨s.Conf, s.Nodes, s.Apps, s.Conts, s.Slots, s.Plans, s.Now, s.Epoch, s.Seq + 1⟩ := ⟨hsm.labels, hsm.queues, hsm.caps, hsm.nodes, hsm.apps, hsm.app, hsm.conts, hsm.slots, hsm.plans⟩
  exact uD (s := ⟨s.Conf, s.Nodes, s.Apps, s.Conts, s.Slots, s.Plans, s.Now, s.Epoch, s.Seq + 1⟩) hs2 h.asr hgs ⟨a, ha, hgid.symm⟩
 rw [e2, Ba]
 have e3 := d8 s.Conts (fun y => decide (y.Id < (gCont s n a x).Id)) (step := cq ⟨s, n, F⟩ (pPutA ⟨s.Conf, s.Nodes, s.Apps, s.Conts, s.Slots, s.Plans, s.Now, s.Epoch, s.Seq + 1⟩ (gApp s a x))) (by omega) ?_ ?_
 ·rw [e3, Ba, hl]
  have e4 : g_ s.Conts ((s.Conts.takeWhile fun y => decide (y.Id < (gCont s n a x).Id)).length : Int) [gCont s n a x] = some (insG (fun c : Cont => c.Id) s.Conts (gCont s n a x)) := ve (id := fun c : Cont => c.Id) (by omega) (gCont s n a x)
  show ((g_ s.Conts ((s.Conts.takeWhile fun y => decide (y.Id < (gCont s n a x).Id)).length : Int) [gCont s n a x]).bind _) = _
  rw [e4]
  rfl
 ·intro k hk
  unfold cq pPutA
  dsimp only
  rw [au hk, aH hk]
  simp only [cond_true, Ba, Bb hk]
  show ((bif decide (s.Conts[k].Id < cid s) then _ else _) : Option _) = some (if decide (s.Conts[k].Id < cid s) = true then _ else _)
  cases decide (s.Conts[k].Id < cid s) <;> rfl
 ·unfold cq pPutA
  dsimp only
  rw [aD]
  rfl
theorem hold2 (h : Inv N s) (i p : Int) : dV ⟨s, n, F⟩ i p = some (bif pKeeps s i p then (false, ⟨s, n, F⟩) else (true, ⟨pHold s ⟨n.Id, i, p⟩, n, F⟩)) := by
 have hsl := h.sl
 unfold dV pKeeps
 dsimp only
 rw [xG s.Slots (by omega) _ (fun x => x.App == i && x.Prio == p) (fun k => by unfold eT; cases k.App == i <;> rfl), Ba]
 cases (s.Slots.find? fun x => x.App == i && x.Prio == p).isSome with
 | true => rfl
 | false =>
  have e3 := d8 s.Slots (fun y => decide (y.Node < n.Id)) (step := cI ⟨s, n, F⟩) (by omega) ?_ ?_
  ·simp only [cond_false]
   rw [e3, Ba]
   have e4 : jM s.Slots ((s.Slots.takeWhile fun y => decide (y.Node < n.Id)).length : Int) [⟨n.Id, i, p⟩] = some (insG (fun c : Slot => c.Node) s.Slots ⟨n.Id, i, p⟩) := ve (id := fun c : Slot => c.Node) (by omega) (⟨n.Id, i, p⟩ : Slot)
   rw [e4]
   rfl
  ·intro k hk
   unfold cI
   dsimp only
   rw [au hk, aH hk]
   simp only [cond_true, Ba, Bb hk]
   cases decide (s.Slots[k].Node < n.Id) <;> rfl
  ·unfold cI
   dsimp only
   rw [aD]
   rfl
end
structure OneF (s : State) (r : State × Int × Cont) : Prop where
 g : r.2.1 = 1 → r.1.Seq = s.Seq + 1 ∧ r.2.2.Id = cid s
 o : r.2.1 ≠ 1 → r.1.Seq = s.Seq
 e : r.1.Epoch = s.Epoch
 n : r.1.Nodes = s.Nodes
theorem wQ {N : Nat} {s : State} (h : Inv N s) {n : Node} {F : Vec} (hx : jH s n.Id = none) : ba ⟨s, n, F⟩ = some (0, noC, false, ⟨s, n, F⟩) := by
 have hsl := h.sl
 unfold ba
 dsimp only
 rcases l9 s.Slots (by omega) (fun a' => c_ a'.1 ⟨s, n, F⟩) (fun y => y.Node == n.Id) (fun k => rfl) with ⟨k, hk, e1, e2⟩ | ⟨e1, e2⟩
 ·exact absurd (hx.symm.trans e1) (by simp)
 ·rw [e2]
  rfl
theorem yX {N : Nat} (hN : N + 1 ≤ 1000000) {s : State} (h : Inv N s) {n : Node} (hn : n ∈ s.Nodes) {x : Slot} (hx : jH s n.Id = some x) {F : Vec} (hF : F = pFree s n.Id) :
  ∃ r, cO s n x = some r ∧ ba ⟨s, n, F⟩ = some (r.2.1, r.2.2.1, r.2.2.2, ⟨r.1, n, F⟩) ∧ (r.2.2.2 = false → r.1 = gE s n.Id) ∧ (r.2.2.2 = true → OneF s (r.1, r.2.1, r.2.2.1)) := by
 have hsl := h.sl
 have hsm := h.small (by omega)
 obtain ⟨hxm, hxn⟩ := fh (id := fun y : Slot => y.Node) hx
 rcases l9 s.Slots (by omega) (fun a' => c_ a'.1 ⟨s, n, F⟩) (fun y => y.Node == n.Id) (fun k => rfl) with ⟨k, hk, e1, e2⟩ | ⟨e1, e2⟩
 rotate_left
 ·exact absurd (hx.symm.trans e1) (by simp)
 have hxk : s.Slots[k] = x := Option.some.inj (e1.symm.trans hx)
 have hdel : g9 s.Slots (k : Int) (w64 ((k : Int) + 1)) = some (s.Slots.filter fun x => x.Node != n.Id) := by
  unfold g9
  rw [xE hk (by omega), ← w6 (id := fun y : Slot => y.Node) h.ss hk, hxk, hxn]
 have gone : ∀ c : Cont, ∃ r, some (gE s n.Id, (0 : Int), c, false) = some r ∧ some ((0 : Int), c, false, (⟨gE s n.Id, n, F⟩ : Attempt)) = some (r.2.1, r.2.2.1, r.2.2.2, (⟨r.1, n, F⟩ : Attempt)) ∧ (r.2.2.2 = false → r.1 = gE s n.Id) ∧ (r.2.2.2 = true → OneF s (r.1, r.2.1, r.2.2.1)) :=
  fun c => ⟨_, rfl, rfl, fun _ => rfl, fun e => by cases e⟩
 unfold ba cO
 dsimp only
 rw [e2, Ba, decide_eq_false (by omega), cond_false, aH hk, Ba, Bb hk, Ba, hxk, n_ hsm, Ba, bb h.z, Ba, kM h.z, hdel]
 cases ha0 : appAt s x.App with
 | none =>
  simp only [Option.elim_none]
  rw [tO (by simp [noA]), oW (by simp [noA])]
  exact gone _
 | some a =>
  obtain ⟨ha, _⟩ := m9 ha0
  have hak := h.ak a ha
  simp only [Option.elim_some]
  rw [tO (by have := hak.al; omega), oW (by have := hak.al; omega)]
  simp only [vg, j3, Ba, cond_true, Bool.not_true, cond_false]
  cases pLive a with
  | false => exact gone _
  | true =>
   cases hq : askAt a.Asks x.Prio with
   | none => exact gone _
   | some q =>
    have hqk := hak.ask q (k7 hq).1
    simp only [Option.elim_some, cond_true, Bool.not_true, cond_false, Ba, uA, lE]
    cases hm : pMay q n with
    | false => exact gone _
    | true =>
     have hlv := xx hm
     have hlab := (sA hlv).1
     simp only [cond_true, Bool.not_true, cond_false, wZ, eQ, Ba]
     rw [show (eR q n != 4) = true by simpa using hlv, Bool.true_and]
     cases vfits q.Size n.Cap with
     | false => exact gone _
     | true =>
      have d1 := due2 (F := F) h hn (h.leafLen ha) hqk.size.vb
      rw [show pDueL s n.Label a.Queue q = pDue s a.Queue q by unfold pDueL pDue; rw [hlab]] at d1
      simp only [cond_true, Bool.not_true, cond_false, d1, po h.sc (h.leafLen ha) hqk.size.vb, Ba]
      cases pDue s a.Queue q with
      | false => exact gone _
      | true =>
       simp only [cond_true, Bool.not_true, cond_false, more2 (F := F) h hn (h.leafLen ha) hak.user.1, jY h.sc (h.leafLen ha), Ba]
       cases pMore s a.Queue n.Label a.User with
       | false => exact gone _
       | true =>
        have wait : ∃ r, some (s, (3 : Int), noC, true) = some r ∧ some ((3 : Int), noC, true, (⟨s, n, F⟩ : Attempt)) = some (r.2.1, r.2.2.1, r.2.2.2, (⟨r.1, n, F⟩ : Attempt)) ∧ (r.2.2.2 = false → r.1 = gE s n.Id) ∧ (r.2.2.2 = true → OneF s (r.1, r.2.1, r.2.2.1)) :=
         ⟨_, rfl, rfl, fun e => (by cases e), fun _ => ⟨fun e => (by cases e), fun _ => rfl, rfl, rfl⟩⟩
        simp only [cond_true, Bool.not_true, cond_false, fits2, lv h.sb, eQ, Ba, ← hF]
        cases vfits q.Size F with
        | false => exact wait
        | true =>
         simp only [cond_true, Bool.not_true, cond_false, room2 (F := F) h hn (h.leafLen ha) hqk.size.vb, nS h.sc (h.leafLen ha) n.Label hqk.size.vb, Ba]
         cases pRoom s a.Queue n.Label q.Size with
         | false => exact wait
         | true =>
          have hno := h.noSlot n.Id
          have eg := wJ (F := F) hN hno (n := n) (a := a) ha hlab.symm
          have er := mo hno.z hno.sq n (a := a) (by have := hak.al; omega) (fun y hy => by have := (hak.ask y hy).count; omega) (by have := hak.gr; omega) q
          simp only [cond_true, Bool.not_true, cond_false, Ba, er]
          refine ⟨_, rfl, ?_, fun e => (by cases e), fun _ => ⟨fun _ => ⟨rfl, rfl⟩, fun e => absurd rfl e, rfl, rfl⟩⟩
          show ((bn ⟨gE s n.Id, n, F⟩ a q).bind _) = _
          rw [eg]
          rfl
abbrev mayF : TupT fam [.st 5, .st 4] → Option Bool := fun a' => d4 a'.1 a'.2.1
def pSkip (s : State) (n : Node) (a : App) (x : Ask) (first : Bool) : Bool := (eR x n == 4) || (!(vfits x.Size n.Cap) || (first && !(pDue s a.Queue x)))
def pAsk (s : State) (n : Node) (a : App) (x : Ask) (first : Bool) : State × Int × Cont :=
 bif pSkip s n a x first then (s, 0, noC) else
 bif !(pMay x n) then (bif first == pDue s a.Queue x then (pPutA s (eY a x.Prio), 0, noC) else (s, 0, noC)) else
 bif !(pRoom s a.Queue n.Label x.Size) then (s, 0, noC) else
 bif vfits x.Size (pFree s n.Id) then (bX s n a x, 1, gCont s n a x) else
 bif first && !(pKeeps s a.Id x.Prio) then (pHold s ⟨n.Id, a.Id, x.Prio⟩, 2, noC) else (s, 0, noC)
def pAskA (s : State) (n : Node) (a : App) (x : Ask) (first : Bool) : App :=
 bif pSkip s n a x first then a else bif !(pMay x n) then (bif first == pDue s a.Queue x then eY a x.Prio else a) else a
theorem sU {N : Nat} {s : State} (h : Inv N s) (hN : N ≤ 1000000) (n : Node) {a : App} (ha : a ∈ s.Apps) {x : Ask} (hx : AskOk s.Conf x) (first : Bool) : bv s n a x first = some (pAsk s n a x first) := by
 have hsc := h.sc
 have hak := h.ak a ha
 have e1 := po hsc (h.leafLen ha) hx.size.vb
 have e2 := nS hsc (h.leafLen ha) n.Label hx.size.vb
 have e3 := u1 (l := a.Asks) (by have := hak.al; omega) x.Prio
 have e4 := mo h.z h.sq n (a := a) (by have := hak.al; omega) (fun y hy => by have := (hak.ask y hy).count; omega) (by have := hak.gr; omega) x
 unfold bv pAsk pSkip
 simp only [e1, e2, e3, e4, ig, lE, eQ, lv h.sb, ta h.z, u7 h.z, nI h.z, Ba]
 cases (eR x n == 4)
 rotate_left
 ·rfl
 cases vfits x.Size n.Cap
 ·rfl
 generalize pDue s a.Queue x = d
 cases pMay x n
 ·cases first <;> cases d <;> rfl
 ·generalize pRoom s a.Queue n.Label x.Size = r
  generalize vfits x.Size (pFree s n.Id) = f
  generalize pKeeps s a.Id x.Prio = k
  cases first <;> cases d <;> cases r <;> cases f <;> cases k <;> rfl
theorem yE {N : Nat} (hN : N + 1 ≤ 1000000) {s : State} (h : Inv N s) {n : Node} (hn : n ∈ s.Nodes) {a : App} (ha : a ∈ s.Apps) {l : List Ask} {k : Nat} (hk : k < l.length) (hx : AskOk s.Conf l[k]) (first : Bool) (c0 : Cont) {F : Vec} (hF : F = pFree s n.Id) :
  a7 first mayF a.Id l (⟨s, n, F⟩, c0, a, (k : Int)) = some (bif (pAsk s n a l[k] first).2.1 == 0 then .inl (⟨(pAsk s n a l[k] first).1, n, F⟩, c0, pAskA s n a l[k] first, w64 ((k : Int) + 1))
   else .inr (.inl (⟨(pAsk s n a l[k] first).1, n, F⟩, (pAsk s n a l[k] first).2.1, (pAsk s n a l[k] first).2.2))) := by
 subst hF
 unfold a7
 dsimp only
 rw [au hk, cond_true, aH hk, Ba, Bb hk, Ba]
 generalize l[k] = x at hx ⊢
 rw [due2 h hn (h.leafLen ha) hx.size.vb, Ba, wZ, Ba]
 unfold pAsk pAskA pSkip
 by_cases hlv : eR x n = 4
 ·rw [hlv]
  rfl
 have hlab := (sA hlv).1
 rw [show (eR x n == 4) = false by simpa using hlv, show (eR x n != 4) = true by simpa using hlv, show pDueL s n.Label a.Queue x = pDue s a.Queue x by unfold pDueL pDue; rw [hlab]]
 cases vfits x.Size n.Cap
 ·rfl
 have em : d4 x n = some (pMay x n) := uA x n
 have e2 := room2 (F := pFree s n.Id) h hn (h.leafLen ha) hx.size.vb
 have e3 := miss2 (n := n) (F := pFree s n.Id) (by omega : N ≤ 1000000) h ha x.Prio
 have e4 := wJ (F := pFree s n.Id) hN h ha hlab.symm
 have e5 := hold2 (n := n) (F := pFree s n.Id) h a.Id x.Prio
 simp only [em, e2, e3, e4, e5, fits2, Ba]
 generalize pDue s a.Queue x = d
 cases pMay x n
 ·cases first <;> cases d <;> rfl
 ·generalize pRoom s a.Queue n.Label x.Size = r
  generalize vfits x.Size (pFree s n.Id) = f
  generalize pKeeps s a.Id x.Prio = k
  cases first <;> cases d <;> cases r <;> cases f <;> cases k <;> rfl
section
variable {N : Nat} {s t : State}
theorem Keep.free (k : Keep s t) (i : Int) : pFree t i = pFree s i := by
 unfold pFree cQ iH
 rw [k.nd, k.cs]
theorem Keep.cidE (k : Keep s t) : cid t = cid s := by
 unfold cid
 rw [k.ep, k.sq]
theorem OneF.keep (k : Keep s t) {r : State × Int × Cont} (h : OneF t r) : OneF s r :=
 ⟨fun e => ⟨(h.g e).1.trans (by rw [k.sq]), (h.g e).2.trans k.cidE⟩, fun e => (h.o e).trans k.sq, h.e.trans k.ep, h.n.trans k.nd⟩
theorem pG (s : State) (n : Node) (a : App) (x : Ask) (first : Bool) : (pAsk s n a x first = (s, 0, noC) ∧ pAskA s n a x first = a) ∨ (pAsk s n a x first = (pPutA s (eY a x.Prio), 0, noC) ∧ pAskA s n a x first = eY a x.Prio) ∨
  pAsk s n a x first = (bX s n a x, 1, gCont s n a x) ∨ pAsk s n a x first = (pHold s ⟨n.Id, a.Id, x.Prio⟩, 2, noC) := by
 unfold pAsk pAskA
 cases pSkip s n a x first
 rotate_left
 ·exact .inl ⟨rfl, rfl⟩
 cases pMay x n
 ·cases first == pDue s a.Queue x
  ·exact .inl ⟨rfl, rfl⟩
  ·exact .inr (.inl ⟨rfl, rfl⟩)
 cases pRoom s a.Queue n.Label x.Size
 ·exact .inl ⟨rfl, rfl⟩
 cases vfits x.Size (pFree s n.Id)
 rotate_left
 ·exact .inr (.inr (.inl rfl))
 cases first && !(pKeeps s a.Id x.Prio)
 ·exact .inl ⟨rfl, rfl⟩
 ·exact .inr (.inr (.inr rfl))
theorem A7 (s : State) (n : Node) (a : App) (x : Ask) (first : Bool) : OneF s (pAsk s n a x first) := by
 rcases pG s n a x first with ⟨e, _⟩ | ⟨e, _⟩ | e | e <;> rw [e]
 ·exact ⟨fun e => (by cases e), fun _ => rfl, rfl, rfl⟩
 ·exact ⟨fun e => (by cases e), fun _ => rfl, rfl, rfl⟩
 ·exact ⟨fun _ => ⟨rfl, rfl⟩, fun e => absurd rfl e, rfl, rfl⟩
 ·exact ⟨fun e => (by cases e), fun _ => rfl, rfl, rfl⟩
theorem zh (h : Inv N s) {n : Node} {a : App} (ha : a ∈ s.Apps) {x : Ask} {first : Bool} (hz : (pAsk s n a x first).2.1 = 0) : pAskA s n a x first ∈ (pAsk s n a x first).1.Apps ∧ (pAskA s n a x first).Id = a.Id := by
 rcases pG s n a x first with ⟨e, e'⟩ | ⟨e, e'⟩ | e | e
 ·rw [e, e']; exact ⟨ha, rfl⟩
 ·rw [e, e']; exact ⟨(bd h.asr).2 (.inl rfl), rfl⟩
 ·rw [e] at hz; cases hz
 ·rw [e] at hz; cases hz
def Q2 (N : Nat) (s : State) (n : Node) (F : Vec) {ρ : Type} (stop : Attempt × Int × Cont → ρ) (on : Attempt × Cont → ρ) (r : ρ) (r' : (State × Int × Cont) ⊕ (State × State × Cont)) : Prop :=
 (∃ s1 kd c, r = stop (⟨s1, n, F⟩, kd, c) ∧ r' = .inl (s1, kd, c) ∧ kd ≠ 0 ∧ OneF s (s1, kd, c)) ∨ (∃ s1 c y c', r = on (⟨s1, n, F⟩, c) ∧ r' = .inr (s1, y, c') ∧ RI N n s s1)
theorem wW (hN : N + 1 ≤ 1000000) {n : Node} (hn : n ∈ s.Nodes) (hfree : ∀ y ∈ s.Slots, y.Node ≠ n.Id) (hc : s.Conts.length < 200) (hq : s.Seq < 1048575) (first : Bool) {ids : List Int} {k : Nat} (hk : k < ids.length) {F : Vec} (hF : F = pFree s n.Id)
  {a0 : App} (ha0 : a0 ∈ s.Apps) (hid : a0.Id = ids[k]) (hl : pLive a0 = true) {u : State} (hu : RI N n s u) {a : App} (ha : a ∈ u.Apps) (hai : a.Id = a0.Id) (y : State) (c c' : Cont) :
  G2 (loop (a7 first mayF ids[k] a.Asks) (⟨u, n, F⟩, c, a, 0)) (loop (ah n first ids (u, y, c', (k : Int)) (a, true)) (u, y, c', 0)) (Q2 N s n F .inl .inr) := by
 have hak := hu.i.ak a ha
 refine tj (fun (p : Attempt × Cont × App) i => (p.1, p.2.1, p.2.2, i)) (fun (p : State × State × Cont) i => (p.1, p.2.1, p.2.2, i)) a.Asks.length
  (fun _ p p' => p.1 = ⟨p'.1, n, F⟩ ∧ RI N n s p'.1 ∧ p.2.2 ∈ p'.1.Apps ∧ p.2.2.Id = a0.Id) (step := a7 first mayF ids[k] a.Asks) (step' := ah n first ids (u, y, c', (k : Int)) (a, true)) (by have := hak.al; omega) ?_ ?_ (s := (⟨u, n, F⟩, c, a)) (s' := (u, y, c')) ⟨rfl, hu, ha, hai⟩
 ·rintro j hj ⟨p, d, b⟩ ⟨p', y', d'⟩ ⟨rfl, hp, hb, hbi⟩
  dsimp only at hp hb hbi ⊢
  obtain ⟨b0, hb0, f1, f2, f3, f4⟩ := hp.k.ap a0 ha0
  have hbb := hp.i.uniqA hb hb0 (hbi.trans f1.symm)
  subst hbb
  have hlb : pLive b = true := by unfold pLive at hl ⊢; rw [f2]; exact hl
  have hask : AskOk p'.Conf a.Asks[j] := by rw [hp.k.cf, ← hu.k.cf]; exact hak.ask _ (List.getElem_mem hj)
  have hn' : n ∈ p'.Nodes := by rw [hp.k.nd]; exact hn
  have e1 := yE hN hp.i hn' hb (l := a.Asks) hj hask first d (F := F) (by rw [hF, hp.k.free])
  rw [hbi, hid] at e1
  have e2 := sU hp.i (by omega) n hb hask first
  obtain ⟨r0, er0, hr0⟩ := w5 hp.i (by omega) hn' (by rw [hp.k.sl]; exact hfree) hb hlb hask (by rw [hp.k.cs]; exact hc) (by rw [hp.k.sq]; exact hq) first
  rw [e2] at er0
  cases er0
  rw [e1]
  unfold ah
  dsimp only
  rw [au hj, cond_true, aH hk, Ba, Bb hk, Ba, bb hp.i.z, ← hid, ← hbi, hp.i.appAt hb, Ba, ax hj, Ba]
  simp only [Option.elim_some]
  rw [e2, Ba]
  by_cases hz : (pAsk p' n b a.Asks[j] first).2.1 = 0
  ·rw [show ((pAsk p' n b a.Asks[j] first).2.1 == 0) = true by simpa using hz, show ((pAsk p' n b a.Asks[j] first).2.1 != 0) = false by simpa using hz, cond_true, cond_false]
   obtain ⟨q1, q2⟩ := hr0.1 hz
   obtain ⟨g1, g2⟩ := zh hp.i (n := n) hb hz
   exact aV (.inl ⟨(⟨_, n, F⟩, d, _), (_, y', d'), rfl, rfl, rfl, ⟨q1, hp.k.trans q2⟩, g1, g2⟩)
  ·rw [show ((pAsk p' n b a.Asks[j] first).2.1 == 0) = false by simpa using hz, show ((pAsk p' n b a.Asks[j] first).2.1 != 0) = true by simpa using hz, cond_true, cond_false]
   exact aV (.inr ⟨_, _, rfl, rfl, .inl ⟨_, _, _, rfl, rfl, hz, (A7 p' n b a.Asks[j] first).keep hp.k⟩⟩)
 ·rintro ⟨p, d, b⟩ ⟨p', y', d'⟩ ⟨rfl, hp, hb, hbi⟩
  unfold a7 ah
  dsimp only
  rw [aD, cond_false]
  exact aV ⟨_, _, rfl, rfl, .inr ⟨p', d, y', d', rfl, rfl, hp⟩⟩
theorem ug {l : List Ask} (h : l.length ≤ 1000000) : je l = some l := by
 unfold je
 exact fN h (by omega)
theorem wu (hN : N + 1 ≤ 1000000) {n : Node} (hn : n ∈ s.Nodes) (hfree : ∀ y ∈ s.Slots, y.Node ≠ n.Id) (hc : s.Conts.length < 200) (hq : s.Seq < 1048575) (first : Bool) {leaves : List Str} {k : Nat} (hk : k < leaves.length) {F : Vec} (hF : F = pFree s n.Id)
  {ids : List Int} (hil : ids.length ≤ 100000) (hids : ∀ i ∈ ids, ∃ a ∈ s.Apps, a.Id = i ∧ pLive a = true ∧ a.Queue = leaves[k]) (y : State) (c c' : Cont) (h : Inv N s) :
  G2 (loop (bq first mayF ids) (⟨s, n, F⟩, c, 0)) (loop (am n first leaves (s, y, c', (k : Int)) ids) (s, y, c', 0)) (Q2 N s n F .inl fun q => .inr (.inr q)) := by
 refine tj (fun (p : Attempt × Cont) i => (p.1, p.2, i)) (fun (p : State × State × Cont) i => (p.1, p.2.1, p.2.2, i)) ids.length
  (fun _ p p' => p.1 = ⟨p'.1, n, F⟩ ∧ RI N n s p'.1) (step := bq first mayF ids) (step' := am n first leaves (s, y, c', (k : Int)) ids) (by omega) ?_ ?_ (s := (⟨s, n, F⟩, c)) (s' := (s, y, c')) ⟨rfl, h, .refl s⟩
 ·rintro j hj ⟨p, d⟩ ⟨p', y', d'⟩ ⟨rfl, hp⟩
  dsimp only at hp ⊢
  obtain ⟨a0, ha0, hid, hl, hqu⟩ := hids _ (List.getElem_mem hj)
  obtain ⟨b, hb, f1, f2, f3, f4⟩ := hp.k.ap a0 ha0
  have hbk := hp.i.ak b hb
  have hn' : n ∈ p'.Nodes := by rw [hp.k.nd]; exact hn
  have hbq : b.Queue = leaves[k] := f3.trans hqu
  unfold bq am
  dsimp only
  rw [au hj, cond_true, cond_true]
  refine jX (P := fun r r' => (∃ q q' : _, r = .inl q ∧ r' = .inl q' ∧ q.1 = ⟨q'.1, n, F⟩ ∧ RI N n s q'.1) ∨ (∃ s1 kd e, r = .inr (.inl (⟨s1, n, F⟩, kd, e)) ∧ r' = .inr (s1, kd, e) ∧ kd ≠ 0 ∧ OneF s (s1, kd, e))) ?_ ?_
  ·rw [aH hj, Ba, Ba, Bb hj, Ba, Ba, n_ (hp.i.small (by omega)), bb hp.i.z, ← hid, ← f1, hp.i.appAt hb, Ba, Ba, aH hk, Ba, Bb hk, Ba]
   simp only [Option.elim_some, Bool.not_true, cond_false]
   rw [more2 hp.i hn' (hp.i.leafLen hb) hbk.user.1, ← hbq, jY hp.i.sc (hp.i.leafLen hb), Ba, Ba]
   refine lr rfl (fun _ => aV (.inl ⟨_, _, rfl, rfl, rfl, hp⟩)) fun _ => ?_
   rw [ug (by have := hbk.al; omega), Ba, f1, hid]
   refine jX (wW hN hn hfree hc hq first hj hF ha0 hid hl hp hb f1 y' d d') ?_
   rintro r r' (⟨s1, kd, e, rfl, rfl, hz, ho⟩ | ⟨s1, e, y2, e', rfl, rfl, hri⟩)
   ·exact aV (.inr ⟨s1, kd, e, rfl, rfl, hz, ho⟩)
   ·exact aV (.inl ⟨(⟨s1, n, F⟩, e), (s1, y2, e'), rfl, rfl, rfl, hri⟩)
  ·rintro r r' (⟨q, q', rfl, rfl, hq1, hq2⟩ | ⟨s1, kd, e, rfl, rfl, hz, ho⟩)
   ·exact aV (.inl ⟨q, q', rfl, rfl, hq1, hq2⟩)
   ·exact aV (.inr ⟨_, _, rfl, rfl, .inl ⟨s1, kd, e, rfl, rfl, hz, ho⟩⟩)
 ·rintro ⟨p, d⟩ ⟨p', y', d'⟩ ⟨rfl, hp⟩
  unfold bq am
  dsimp only
  rw [aD, cond_false, cond_false]
  exact aV ⟨_, _, rfl, rfl, .inr ⟨p', d, y', d', rfl, rfl, hp⟩⟩
theorem RI.trans {n : Node} {u : State} (h : Keep s t) (k : RI N n t u) : RI N n s u := ⟨k.i, h.trans k.k⟩
theorem qr (hN : N + 1 ≤ 1000000) (h : Inv N s) {n : Node} (hn : n ∈ s.Nodes) (hfree : ∀ y ∈ s.Slots, y.Node ≠ n.Id) (hc : s.Conts.length < 200) (hq : s.Seq < 1048575) (first : Bool) {F : Vec} (hF : F = pFree s n.Id) :
  G2 (bT ⟨s, n, F⟩ (bc s n.Label) first mayF) (ao s n first) fun r r' => r = (r'.2.1, r'.2.2, ⟨r'.1, n, F⟩) ∧ (r'.2.1 = 0 → RI N n s r'.1) ∧ (r'.2.1 ≠ 0 → OneF s r') := by
 unfold bT ao
 rw [kQ h.sc, Ba]
 have hll := pB h.sc n.Label
 refine jX (P := Q2 N s n F .inl .inr) ?_ ?_
 ·refine tj (fun (p : Attempt × Cont) i => (p.1, p.2, i)) (fun (p : State × State × Cont) i => (p.1, p.2.1, p.2.2, i)) (bc s n.Label).length
   (fun _ p p' => p.1 = ⟨p'.1, n, F⟩ ∧ RI N n s p'.1) (step := cw (bc s n.Label) first mayF) (step' := ag n first (bc s n.Label)) (by omega) ?_ ?_
   (s := (⟨s, n, F⟩, noC)) (s' := (s, (⟨⟨[], []⟩, [], [], [], [], [], 0, 0, 0⟩ : State), noC)) ⟨rfl, h, .refl s⟩
  ·rintro j hj ⟨p, d⟩ ⟨p', y', d'⟩ ⟨rfl, hp⟩
   dsimp only at hp ⊢
   unfold cw ag
   dsimp only
   rw [au hj, cond_true, cond_true, aH hj, Ba, Bb hj, Ba, nY hp.i.z, ax hj, Ba, Ba, yn hp.i, Ba]
   have hn' : n ∈ p'.Nodes := by rw [hp.k.nd]; exact hn
   have hs := wu (s := p') hN hn' (by rw [hp.k.sl]; exact hfree) (by rw [hp.k.cs]; exact hc) (by rw [hp.k.sq]; exact hq) first hj (F := F) (by rw [hF, hp.k.free]) (ids := pApps p' (bc s n.Label)[j]) (by have := rP (s := p') (bc s n.Label)[j]; have := hp.i.al; omega) (fun i hi => sx hi) y' d d' hp.i
   obtain ⟨r, r', e, e', hr⟩ := hs
   rw [e, e', Ba, Ba]
   rcases hr with ⟨s1, kd, c, rfl, rfl, hz, ho⟩ | ⟨s1, c, y2, c2, rfl, rfl, hri⟩
   ·exact aV (.inr ⟨_, _, rfl, rfl, .inl ⟨s1, kd, c, rfl, rfl, hz, ho.keep hp.k⟩⟩)
   ·exact aV (.inl ⟨(⟨s1, n, F⟩, c), (s1, y2, c2), rfl, rfl, rfl, RI.trans hp.k hri⟩)
  ·rintro ⟨p, d⟩ ⟨p', y', d'⟩ ⟨rfl, hp⟩
   unfold cw ag
   dsimp only
   rw [aD, cond_false, cond_false]
   exact aV ⟨_, _, rfl, rfl, .inr ⟨p', d, y', d', rfl, rfl, hp⟩⟩
 ·rintro r r' (⟨s1, kd, c, rfl, rfl, hz, ho⟩ | ⟨s1, c, y2, c2, rfl, rfl, hri⟩)
  ·exact aV ⟨rfl, fun e => absurd e hz, fun _ => ho⟩
  ·exact aV ⟨rfl, fun _ => hri, fun e => absurd rfl e⟩
end
theorem zy {α β : Type} {m : Option α} {m' : Option β} {R : α → β → Prop} {P : β → Prop} (h : G2 m m' R) (k : Gv m' P) : G2 m m' fun a b => R a b ∧ P b := by
 obtain ⟨a, b, e, e', hr⟩ := h
 obtain ⟨b', e2, hp⟩ := k
 rw [e'] at e2
 cases e2
 exact ⟨a, b, e, e', hr, hp⟩
section
variable {N M : Nat} {s t : State}
theorem Keep.used (hs : Inv N s) (ht : Inv M t) (k : Keep s t) (path : Str) (label : Int) (all : Bool) (user : Int) : pUsed t path label all user = pUsed s path label all user := by
 unfold pUsed
 rw [k.cs]
 have e : s.Conts.filter (pHas t path label all user) = s.Conts.filter (pHas s path label all user) := by
  refine List.filter_congr fun c hc => ?_
  obtain ⟨a, ha, e, _⟩ := (hs.ck c hc).app
  obtain ⟨b, hb, e1, e2, e3, e4⟩ := k.ap a ha
  have h1 : appAt s c.App = some a := by rw [← e]; exact hs.appAt ha
  have h2 : appAt t c.App = some b := by rw [← e, ← e1]; exact ht.appAt hb
  unfold pHas
  rw [h1, h2]
  simp only [Option.elim_some, e3, e4]
 rw [e]
theorem Keep.down (k : Keep s t) (path : Str) (label : Int) (least : Bool) : pDown t path label least = pDown s path label least := by
 unfold pDown sJ pTotal
 rw [k.cf, k.nd]
theorem Keep.okids (hs : Inv N s) (ht : Inv M t) (k : Keep s t) (path : Str) (label : Int) : pOKids t path label = pOKids s path label := by
 have e : (fun a b => bF t a b label) = fun a b => bF s a b label := by
  funext a b
  unfold bF
  rw [k.used hs ht, k.used hs ht, k.down, k.down]
 unfold pOKids
 rw [e, k.cf]
theorem Keep.leavesN (hs : Inv N s) (ht : Inv M t) (k : Keep s t) (label : Int) : ∀ (d : Nat) (path : Str), pLeavesN d t path label = pLeavesN d s path label
 | 0, path => rfl
 | d + 1, path => by
  unfold pLeavesN
  rw [k.okids hs ht, k.cf]
  have e : (fun x => pLeavesN d t x label) = fun x => pLeavesN d s x label := by funext x; exact Keep.leavesN hs ht k label d x
  rw [e]
theorem Keep.leaves (hs : Inv N s) (ht : Inv M t) (k : Keep s t) (label : Int) : bc t label = bc s label := k.leavesN hs ht label 3 root
theorem vP (hN : N + 1 ≤ 1000000) (h : Inv N s) {n : Node} (hn : n ∈ s.Nodes) (hfree : ∀ y ∈ s.Slots, y.Node ≠ n.Id) (hc : s.Conts.length < 200) (hq : s.Seq < 1048575) {F : Vec} (hF : F = pFree s n.Id) :
  G2 (bM ⟨s, n, F⟩) ((ao s n true).bind fun x3 => bif x3.2.1 != 0 then some (x3.1, x3.2.1, x3.2.2) else (ao x3.1 n false).bind fun x4 => some (x4.1, x4.2.1, x4.2.2))
   fun r r' => r = (r'.2.1, r'.2.2, ⟨r'.1, n, F⟩) ∧ OneF s r' ∧ Inv (N + 1) r'.1 := by
 have hk := h.nk n hn
 have inv1 : ∀ {u : State} {r : State × Int × Cont}, AskR N u r → Inv (N + 1) r.1 := by
  intro u r hr
  by_cases hz : r.2.1 = 0
  ·exact (hr.1 hz).1.mono (by omega)
  ·exact (hr.2 hz).1
 unfold bM
 dsimp only
 rw [vM h hk.2.1 hk.2.2, Ba]
 refine jX (zy (qr hN h hn hfree hc hq true hF) (tP (by omega) h hn hfree hc hq true)) ?_
 rintro r r' ⟨⟨rfl, h0, h1⟩, hr⟩
 dsimp only
 refine lr rfl (fun hz => aV ⟨rfl, h1 (by simpa using hz), inv1 hr⟩) fun hz => ?_
 have hri := h0 (by simpa using hz)
 have hn' : n ∈ r'.1.Nodes := by rw [hri.k.nd]; exact hn
 have hf' : ∀ y ∈ r'.1.Slots, y.Node ≠ n.Id := by rw [hri.k.sl]; exact hfree
 have hc' : r'.1.Conts.length < 200 := by rw [hri.k.cs]; exact hc
 have hq' : r'.1.Seq < 1048575 := by rw [hri.k.sq]; exact hq
 have h2 := qr hN hri.i hn' hf' hc' hq' false (F := F) (by rw [hF, hri.k.free])
 rw [hri.k.leaves h hri.i] at h2
 refine jX (zy h2 (tP (by omega) hri.i hn' hf' hc' hq' false)) ?_
 rintro u u' ⟨⟨rfl, k0, k1⟩, hu⟩
 refine aV ⟨rfl, ?_, inv1 hu⟩
 by_cases hk : u'.2.1 = 0
 ·have := (k0 hk).k
  exact ⟨fun e => (by rw [hk] at e; cases e), fun _ => this.sq.trans hri.k.sq, this.ep.trans hri.k.ep, this.nd.trans hri.k.nd⟩
 ·exact (k1 hk).keep hri.k
theorem uq (hN : N + 2 ≤ 1000000) (h : Inv N s) (i : Int) : G2 (iJ s i) (ci s i) fun r r' => r = r' ∧ OneF s r' ∧ Inv (N + 1) r'.1 := by
 have hsm := h.small (by omega)
 have o0 : ∀ c : Cont, OneF s (s, 0, c) := fun c => ⟨fun e => (by cases e), fun _ => rfl, rfl, rfl⟩
 unfold iJ ci
 rw [uQ hsm, Ba, mM hsm.nodes, eC h.z, Ba, Ba]
 cases hn0 : cQ s i with
 | none =>
  simp only [Option.elim_none, Bool.not_false, cond_true, Ba]
  exact aV ⟨rfl, o0 _, h.mono (by omega)⟩
 | some n =>
  obtain ⟨hn, rfl⟩ := pj hn0
  simp only [Option.elim_some, Bool.not_true, cond_false]
  refine jX (P := fun a b => a = b ∧ (a = false → s.Conts.length < 200 ∧ s.Seq < 1048575)) ?_ ?_
  ·refine lr rfl (fun _ => aV ⟨rfl, by simp⟩) fun _ => lr rfl (fun _ => aV ⟨rfl, by simp⟩) fun h1 => aV ⟨rfl, fun h2 => ?_⟩
   simp only [decide_eq_false_iff_not] at h1 h2
   omega
  ·rintro q _ ⟨rfl, hq⟩
   refine lr rfl (fun _ => aV ⟨rfl, o0 _, h.mono (by omega)⟩) fun hqf => ?_
   obtain ⟨hc, hsq⟩ := hq hqf
   rw [tq h, Ba, p8 h.z, Ba]
   have fin : ∀ (t : State) (k : Int) (c : Cont), Inv (N + 1) t → OneF s (t, k, c) → G2 ((go t []).bind fun x5 => some (x5, k, c)) (some (t, k, c)) fun r r' => r = r' ∧ OneF s r' ∧ Inv (N + 1) r'.1 := by
    intro t k c ht ho
    rw [uQ (ht.small (by omega))]
    exact aV ⟨rfl, ho, ht⟩
   have rnd : ∀ u : State, Inv N u → u.Nodes = s.Nodes → u.Conts = s.Conts → u.Seq = s.Seq → u.Epoch = s.Epoch → (∀ y ∈ u.Slots, y.Node ≠ n.Id) →
     G2 (((bM ⟨u, n, pFree s n.Id⟩).bind fun x4 => some (x4.1, x4.2.1, x4.2.2)).bind fun q1 => (go q1.2.2.s []).bind fun x5 => some (x5, q1.1, q1.2.1))
      ((ao u n true).bind fun x3 => bif x3.2.1 != 0 then some (x3.1, x3.2.1, x3.2.2) else (ao x3.1 n false).bind fun x4 => some (x4.1, x4.2.1, x4.2.2)) fun r r' => r = r' ∧ OneF s r' ∧ Inv (N + 1) r'.1 := by
    intro u hu e1 e2 e3 e4 hf
    have hfr : pFree s n.Id = pFree u n.Id := by unfold pFree cQ iH; rw [e1, e2]
    obtain ⟨r, r', er, er', rfl, ho, hi⟩ := vP (by omega) hu (n := n) (by rw [e1]; exact hn) hf (by rw [e2]; exact hc) (by rw [e3]; exact hsq) hfr
    rw [er, er', Ba, Ba]
    refine fin _ _ _ hi ⟨fun e => ⟨(ho.g e).1.trans (by rw [e3]), (ho.g e).2.trans ?_⟩, fun e => (ho.o e).trans e3, ho.e.trans e4, ho.n.trans e1⟩
    unfold cid
    rw [e3, e4]
   show G2 ((ba ⟨s, n, pFree s n.Id⟩).bind _) _ _
   cases hs : jH s n.Id with
   | none =>
    rw [wQ h hs]
    refine rnd s h rfl rfl rfl rfl fun y hy e => ?_
    have := oK (id := fun x : Slot => x.Node) hs y hy
    omega
   | some x =>
    obtain ⟨r, er, ep, k0, k1⟩ := yX (by omega) h hn hs (F := pFree s n.Id) rfl
    obtain ⟨r2, er2, hr⟩ := xu (by omega) h hn hc hsq x
    rw [er] at er2
    cases er2
    rw [ep]
    simp only [Option.elim_some, cond_true, Ba]
    rw [er]
    obtain ⟨t, k, c, b⟩ := r
    dsimp only at k0 k1 hr ⊢
    cases b with
    | true =>
     rw [if_pos rfl] at hr
     exact fin t k c hr (k1 rfl)
    | false =>
     rw [if_neg (by simp)] at hr
     have hk := k0 rfl
     subst hk
     exact rnd _ hr.1 rfl rfl rfl rfl hr.2.1
end
def kN : Node := ⟨1, 0, 0, ⟨4, 4⟩, 0, 0, true⟩
def kS1 : State := ⟨newS.Conf, [kN], [], [], [], [], 0, 0, 0⟩
def kK : Ask := ⟨0, 0, ⟨2, 1⟩, 1, -1, -1, 0⟩
def kA : App := ⟨7, 1, root, 0, 0, ⟨2, 1⟩, [kK], 0, 0, [], [], [], []⟩
def kS2 : State := ⟨newS.Conf, [kN], [kA], [], [], [], 0, 0, 0⟩
theorem kReg : aI newS (⟨1, 0, 0, ⟨4, 4⟩, 0, 0, false⟩ : Node) = some (kS1, 0) := by
 unfold aI
 simp only [eC oO.z, nX oO.z]
 kernel_rfl
theorem kInv1 : Inv 0 kS1 := by
 obtain ⟨r, e, h⟩ := tY oO (⟨1, 0, 0, ⟨4, 4⟩, 0, 0, false⟩ : Node)
 rw [kReg] at e
 cases e
 exact h
theorem kSub : bm kS1 (⟨7, 0, ([114, 111, 111, 116] : List UInt8), 0, 0, ⟨2, 1⟩, [], 0, 0, [], [], [], []⟩ : App) = some (kS2, 0) := by
 unfold bm
 simp only [bb kInv1.z, oq kInv1.z, uU kInv1.cf.small, qw kInv1.z]
 refine Eq.trans (b := (aX kS1 kA).bind fun x8 => some (x8, 0)) (by kernel_rfl) ?_
 rw [nI kInv1.z]
 kernel_rfl
theorem kInv2 : Inv 0 kS2 := by
 obtain ⟨r, e, h⟩ := w7 kInv1 (⟨7, 0, ([114, 111, 111, 116] : List UInt8), 0, 0, ⟨2, 1⟩, [], 0, 0, [], [], [], []⟩ : App) (by decide)
 rw [kSub] at e
 cases e
 exact h
theorem kAsk : pAsk kS2 kN kA kK true = (bX kS2 kN kA kK, 1, gCont kS2 kN kA kK) := by kernel_rfl
theorem AW : ao kS2 kN true = some (bX kS2 kN kA kK, 1, gCont kS2 kN kA kK) := by
 have hin : kA ∈ kS2.Apps := by simp [kS2]
 have hk : AskOk kS2.Conf kK := (kInv2.ak kA hin).ask kK (by simp [kA])
 unfold ao
 rw [kQ kInv2.sc, Ba, show bc kS2 kN.Label = [root] by kernel_rfl]
 have s3 : ah kN true [7] (kS2, (⟨⟨[], []⟩, [], [], [], [], [], 0, 0, 0⟩ : State), noC, 0) (kA, true) (kS2, (⟨⟨[], []⟩, [], [], [], [], [], 0, 0, 0⟩ : State), noC, 0) = some (.inr (.inl (bX kS2 kN kA kK, 1, gCont kS2 kN kA kK))) := by
  unfold ah
  show ((aG kS2 7).bind _) = _
  rw [bb kInv2.z, Ba, show appAt kS2 7 = some kA by kernel_rfl]
  show ((bv kS2 kN kA kK true).bind _) = _
  rw [sU kInv2 (by omega) kN hin hk true, Ba, kAsk]
  rfl
 have s2 : am kN true [root] (kS2, (⟨⟨[], []⟩, [], [], [], [], [], 0, 0, 0⟩ : State), noC, 0) [7] (kS2, (⟨⟨[], []⟩, [], [], [], [], [], 0, 0, 0⟩ : State), noC, 0) = some (.inr (.inl (bX kS2 kN kA kK, 1, gCont kS2 kN kA kK))) := by
  unfold am
  show (((aG kS2 7).bind _).bind _) = _
  rw [bb kInv2.z, Ba, show appAt kS2 7 = some kA by kernel_rfl]
  show (((cL kS2 root kN.Label kA.User).bind _).bind _) = _
  rw [jY kInv2.sc (by decide), Ba, show pMore kS2 root kN.Label kA.User = true by kernel_rfl]
  show (((loop (ah kN true [7] (kS2, (⟨⟨[], []⟩, [], [], [], [], [], 0, 0, 0⟩ : State), noC, 0) (kA, true)) (kS2, (⟨⟨[], []⟩, [], [], [], [], [], 0, 0, 0⟩ : State), noC, 0)).bind _).bind _) = _
  rw [aZ s3]
  rfl
 have s1 : ag kN true [root] (kS2, (⟨⟨[], []⟩, [], [], [], [], [], 0, 0, 0⟩ : State), noC, 0) = some (.inr (.inl (bX kS2 kN kA kK, 1, gCont kS2 kN kA kK))) := by
  unfold ag
  show ((d7 kS2 root).bind _) = _
  rw [nY kInv2.z, Ba, show pApps kS2 root = [7] by kernel_rfl]
  show ((loop (am kN true [root] (kS2, (⟨⟨[], []⟩, [], [], [], [], [], 0, 0, 0⟩ : State), noC, 0) [7]) (kS2, (⟨⟨[], []⟩, [], [], [], [], [], 0, 0, 0⟩ : State), noC, 0)).bind _) = _
  rw [aZ s2]
  rfl
 show ((loop (ag kN true [root]) (kS2, (⟨⟨[], []⟩, [], [], [], [], [], 0, 0, 0⟩ : State), noC, 0)).bind _) = _
 rw [aZ s1]
 rfl
theorem kOne : ci kS2 1 = some (bX kS2 kN kA kK, 1, gCont kS2 kN kA kK) := by
 unfold ci
 rw [eC kInv2.z, Ba, show cQ kS2 1 = some kN by kernel_rfl, p8 kInv2.z, show jH kS2 1 = none by kernel_rfl]
 show ((ao kS2 kN true).bind _) = _
 rw [AW]
 rfl
theorem vT : dW = some true := by
 obtain ⟨r, r', e1, e2, rfl, _, hi⟩ := uq (by omega) kInv2 1
 rw [kOne] at e2
 cases e2
 unfold dW
 rw [wG, Ba, kReg, Ba, kSub, Ba, e1, Ba, bb hi.z]
 kernel_rfl
theorem lp (a : Int) {n : Int} (h0 : 0 < n) (h1 : n ≤ 1000000000000) : Gv (bS a n) fun k => 0 ≤ k ∧ k < n := vV a h0 h1
def sR (s : State) (n : Node) (a : App) (first : Bool) : Option (State × Int × Cont) := match a.Asks with
 | [] => none
 | x :: _ => bif (pAsk s n a x first).2.1 == 0 then none else some (pAsk s n a x first)
structure One1 (s : State) (n : Node) (first : Bool) (q : Str) (i : Int) (a : App) : Prop where
 ids : pApps s q = [i]
 at_ : appAt s i = some a
 more : pMore s q n.Label a.User = true
 asks : a.Asks = [] ∨ ∃ x, a.Asks = [x] ∧ ((pAsk s n a x first).2.1 = 0 → (pAsk s n a x first).1 = s)
theorem qI {N : Nat} (hN : N + 1 ≤ 1000000) {s : State} (h : Inv N s) {n : Node} {first : Bool} {leaves : List Str} {k : Nat} (hk : k < leaves.length) (hl : leaves[k].length ≤ 1000000) {i : Int} {a : App} (o : One1 s n first leaves[k] i a) (y : State) (c : Cont) :
  ag n first leaves (s, y, c, (k : Int)) = some (match sR s n a first with | some r => .inr (.inl (r.1, r.2.1, r.2.2)) | none => .inl (s, y, c, w64 ((k : Int) + 1))) := by
 obtain ⟨ha, hi⟩ := m9 o.at_
 have h3 : ∀ t1 : State × State × Cont × Int, t1 = (s, y, c, 0) → loop (ah n first [i] t1 (a, true)) (s, y, c, 0) = some (match sR s n a first with | some r => .inl (r.1, r.2.1, r.2.2) | none => .inr (s, y, c)) := by
  rintro t1 rfl
  unfold sR
  rcases o.asks with e | ⟨x, e, hx⟩
  ·rw [e]
   refine aZ ?_
   unfold ah
   dsimp only
   rw [e]
   rfl
  ·have hax : AskOk s.Conf x := (h.ak a ha).ask x (by rw [e]; simp)
   have step : ah n first [i] (s, y, c, 0) (a, true) (s, y, c, 0) = some (bif (pAsk s n a x first).2.1 != 0 then .inr (.inl ((pAsk s n a x first).1, (pAsk s n a x first).2.1, (pAsk s n a x first).2.2)) else .inl ((pAsk s n a x first).1, y, c, 1)) := by
    unfold ah
    dsimp only
    rw [e]
    show ((aG s i).bind _) = _
    rw [bb h.z, Ba, o.at_]
    show ((bv s n a x first).bind _) = _
    rw [sU h (by omega) n ha hax first, Ba]
    cases hz : ((pAsk s n a x first).2.1 != 0) <;> rfl
   rw [e]
   dsimp only
   by_cases hz : (pAsk s n a x first).2.1 = 0
   ·rw [show ((pAsk s n a x first).2.1 == 0) = true by simpa using hz, cond_true]
    rw [show ((pAsk s n a x first).2.1 != 0) = false by simpa using hz, cond_false, hx hz] at step
    rw [cK step]
    refine aZ ?_
    unfold ah
    dsimp only
    rw [e]
    rfl
   ·rw [show ((pAsk s n a x first).2.1 == 0) = false by simpa using hz, cond_false]
    rw [show ((pAsk s n a x first).2.1 != 0) = true by simpa using hz, cond_true] at step
    rw [aZ step]
 have h2 : loop (am n first leaves (s, y, c, (k : Int)) [i]) (s, y, c, 0) = some (match sR s n a first with | some r => .inl (r.1, r.2.1, r.2.2) | none => .inr (s, y, c)) := by
  have step : am n first leaves (s, y, c, (k : Int)) [i] (s, y, c, 0) = some (match sR s n a first with | some r => .inr (.inl (r.1, r.2.1, r.2.2)) | none => .inl (s, y, c, 1)) := by
   unfold am
   dsimp only
   show (((aG s i).bind _).bind _) = _
   rw [bb h.z, Ba, o.at_]
   simp only [Option.elim_some]
   rw [aH hk, Ba, Bb hk, Ba, jY h.sc hl, Ba, o.more, Bool.not_true, cond_false, h3 _ rfl]
   cases sR s n a first <;> rfl
  cases hr : sR s n a first with
  | some r =>
   rw [hr] at step
   exact aZ step
  | none =>
   rw [hr] at step
   rw [cK step]
   refine aZ ?_
   unfold am
   rfl
 unfold ag
 dsimp only
 rw [au hk, cond_true, aH hk, Ba, Bb hk, Ba, nY h.z, Ba, o.ids, h2, Ba]
 cases sR s n a first <;> rfl
theorem qu {N : Nat} (hN : N + 1 ≤ 1000000) {s : State} (h : Inv N s) {n : Node} {first : Bool} {q1 q2 : Str} (hl : bc s n.Label = [q1, q2]) (l1 : q1.length ≤ 1000000) (l2 : q2.length ≤ 1000000) {i1 i2 : Int} {a1 a2 : App} (o1 : One1 s n first q1 i1 a1) (o2 : One1 s n first q2 i2 a2) :
  ao s n first = some (match sR s n a1 first with | some r => r | none => match sR s n a2 first with | some r => r | none => (s, 0, noC)) := by
 unfold ao
 rw [kQ h.sc, Ba, hl]
 have s1 := qI hN h (leaves := [q1, q2]) (k := 0) (by simp) l1 o1 (⟨⟨[], []⟩, [], [], [], [], [], 0, 0, 0⟩ : State) noC
 have s2 := qI hN h (leaves := [q1, q2]) (k := 1) (by simp) l2 o2 (⟨⟨[], []⟩, [], [], [], [], [], 0, 0, 0⟩ : State) noC
 have s3 : ag n first [q1, q2] (s, (⟨⟨[], []⟩, [], [], [], [], [], 0, 0, 0⟩ : State), noC, 2) = some (.inr (.inr (s, (⟨⟨[], []⟩, [], [], [], [], [], 0, 0, 0⟩ : State), noC))) := by
  unfold ag
  rfl
 show ((loop (ag n first [q1, q2]) (s, (⟨⟨[], []⟩, [], [], [], [], [], 0, 0, 0⟩ : State), noC, 0)).bind _) = _
 cases r1 : sR s n a1 first with
 | some r =>
  rw [r1] at s1
  rw [aZ (show ag n first [q1, q2] (s, (⟨⟨[], []⟩, [], [], [], [], [], 0, 0, 0⟩ : State), noC, 0) = _ from s1)]
  rfl
 | none =>
  rw [r1] at s1
  rw [cK (show ag n first [q1, q2] (s, (⟨⟨[], []⟩, [], [], [], [], [], 0, 0, 0⟩ : State), noC, 0) = some (.inl (s, (⟨⟨[], []⟩, [], [], [], [], [], 0, 0, 0⟩ : State), noC, 1)) from s1)]
  cases r2 : sR s n a2 first with
  | some r =>
   rw [r2] at s2
   rw [aZ (show ag n first [q1, q2] (s, (⟨⟨[], []⟩, [], [], [], [], [], 0, 0, 0⟩ : State), noC, 1) = _ from s2)]
   rfl
  | none =>
   rw [r2] at s2
   rw [cK (show ag n first [q1, q2] (s, (⟨⟨[], []⟩, [], [], [], [], [], 0, 0, 0⟩ : State), noC, 1) = some (.inl (s, (⟨⟨[], []⟩, [], [], [], [], [], 0, 0, 0⟩ : State), noC, 2)) from s2), aZ s3]
   rfl
def tQa : Str := [114, 111, 111, 116, 46, 97]
def tQb : Str := [114, 111, 111, 116, 46, 98]
def tConf : Conf := ⟨[[]], [⟨root, [⟨10000, 10000⟩], 10000⟩, ⟨tQa, [⟨5000, 10000⟩], 1000000⟩, ⟨tQb, [⟨5000, 10000⟩], 1000000⟩]⟩
def tNode (u : Int) : Node := ⟨1, 0, 0, ⟨u, u⟩, 0, 0, true⟩
def tAsk (w : Int) : Ask := ⟨1, 0, ⟨1, 1⟩, w, -1, -1, 0⟩
def tAsks (w : Int) : List Ask := if 0 < w then [tAsk w] else []
def tApp (i : Int) (q : Str) (w : Int) (g : List Int) : App := ⟨i, 2, q, 0, 0, ⟨1, 1⟩, tAsks w, 0, 0, g, [], [], []⟩
structure Tn (u wa wb : Int) (na nb : Nat) (ga gb : List Int) (s : State) : Prop where
 cf : s.Conf = tConf
 nd : s.Nodes = [tNode u]
 ap : s.Apps = [tApp 0 tQa wa ga, tApp 1 tQb wb gb]
 ct : ∀ c ∈ s.Conts, c.Size = ⟨1, 1⟩ ∧ c.Label = 0 ∧ c.Node = 1 ∧ (c.App = 0 ∨ c.App = 1)
 ca : (s.Conts.filter fun c => c.App == 0).length = na
 cb : (s.Conts.filter fun c => c.App == 1).length = nb
 sl : s.Slots = []
 pl : s.Plans = []
 nw : s.Now = 0
 hu : 4 ≤ u ∧ u ≤ 23
 hw : 0 ≤ wa ∧ 0 ≤ wb ∧ wa ≤ 20 ∧ wb ≤ 20
 hn : 1 ≤ na ∧ 1 ≤ nb ∧ (na : Int) + nb ≤ u
theorem qV : ∀ l : List Cont, (∀ c ∈ l, c.App = 0 ∨ c.App = 1) → l.length = (l.filter fun c => c.App == 0).length + (l.filter fun c => c.App == 1).length
 | [], _ => rfl
 | c :: l, h => by
  have ih := qV l fun x hx => h x (by simp [hx])
  rcases h c (by simp) with e | e
  ·rw [List.filter_cons_of_pos (by simp [e]), List.filter_cons_of_neg (by simp [e]), List.length_cons, List.length_cons]; omega
  ·rw [List.filter_cons_of_neg (by simp [e]), List.filter_cons_of_pos (by simp [e]), List.length_cons, List.length_cons]; omega
theorem oG : ∀ l : List Cont, (∀ c ∈ l, c.Size = ⟨1, 1⟩) → vsum (l.map (·.Size)) = ⟨l.length, l.length⟩
 | [], _ => rfl
 | c :: l, h => by
  rw [List.map_cons, jI, h c (by simp), oG l fun x hx => h x (by simp [hx])]
  unfold vplus
  simp only [List.length_cons]
  congr 1 <;> omega
theorem rj {α : Type} {id : α → Int} {a : α} : ∀ {l : List α}, (∀ x ∈ l, id x < id a) → insG id l a = l ++ [a]
 | [], _ => rfl
 | b :: l, h => by
  have ih := rj (l := l) fun x hx => h x (by simp [hx])
  unfold insG at ih ⊢
  rw [List.takeWhile_cons_of_pos (by simpa using h b (by simp)), List.dropWhile_cons_of_pos (by simpa using h b (by simp)), List.cons_append, ih, List.cons_append]
theorem iR (a b c d : Int) : vfits ⟨a, b⟩ ⟨c, d⟩ = (decide (a ≤ c) && decide (b ≤ d)) := rfl
section
variable {u wa wb : Int} {na nb : Nat} {ga gb : List Int} {s : State}
theorem Tn.len (t : Tn u wa wb na nb ga gb s) : s.Conts.length = na + nb := by
 rw [qV s.Conts fun c hc => (t.ct c hc).2.2.2, t.ca, t.cb]
theorem Tn.at0 (t : Tn u wa wb na nb ga gb s) : appAt s 0 = some (tApp 0 tQa wa ga) := by unfold appAt; rw [t.ap]; rfl
theorem Tn.at1 (t : Tn u wa wb na nb ga gb s) : appAt s 1 = some (tApp 1 tQb wb gb) := by unfold appAt; rw [t.ap]; rfl
theorem Tn.has (t : Tn u wa wb na nb ga gb s) (path : Str) (all : Bool) {c : Cont} (hc : c ∈ s.Conts) : pHas s path 0 all 0 c = (bif c.App == 0 then a8 tQa path else a8 tQb path) := by
 obtain ⟨_, h2, _, h4⟩ := t.ct c hc
 unfold pHas
 rw [h2]
 rcases h4 with e | e <;> rw [e]
 ·rw [t.at0]
  show ((0 : Int) == 0 && a8 tQa path && (all || (0 : Int) == 0)) = a8 tQa path
  simp
 ·rw [t.at1]
  show ((0 : Int) == 0 && a8 tQb path && (all || (0 : Int) == 0)) = a8 tQb path
  simp
theorem Tn.used (t : Tn u wa wb na nb ga gb s) (path : Str) (all : Bool) (f : Cont → Bool) (hf : ∀ c, c ∈ s.Conts → (bif c.App == 0 then a8 tQa path else a8 tQb path) = f c) :
  pUsed s path 0 all 0 = ⟨(s.Conts.filter f).length, (s.Conts.filter f).length⟩ := by
 unfold pUsed
 rw [List.filter_congr fun c hc => (t.has path all hc).trans (hf c hc)]
 exact oG _ fun c hc => (t.ct c (List.mem_filter.1 hc).1).1
theorem Tn.usedA (t : Tn u wa wb na nb ga gb s) (all : Bool) : pUsed s tQa 0 all 0 = ⟨na, na⟩ := by
 rw [t.used tQa all (fun c => c.App == 0) (fun c hc => ?_), t.ca]
 rw [show a8 tQa tQa = true by decide, show a8 tQb tQa = false by decide]
 cases c.App == 0 <;> rfl
theorem Tn.usedB (t : Tn u wa wb na nb ga gb s) (all : Bool) : pUsed s tQb 0 all 0 = ⟨nb, nb⟩ := by
 rw [t.used tQb all (fun c => c.App == 1) (fun c hc => ?_), t.cb]
 rw [show a8 tQa tQb = false by decide, show a8 tQb tQb = true by decide]
 rcases (t.ct c hc).2.2.2 with e | e <;> rw [e] <;> rfl
theorem Tn.usedR (t : Tn u wa wb na nb ga gb s) (all : Bool) : pUsed s root 0 all 0 = ⟨(na : Int) + nb, (na : Int) + nb⟩ := by
 rw [t.used root all (fun _ => true) (fun c hc => ?_)]
 ·rw [List.filter_eq_self.2 (fun _ _ => rfl), t.len]
  simp
 ·rw [show a8 tQa root = true by decide, show a8 tQb root = true by decide]
  cases c.App == 0 <;> rfl
theorem Tn.total (t : Tn u wa wb na nb ga gb s) : pTotal s 0 = ⟨u, u⟩ := by
 unfold pTotal
 rw [t.nd]
 exact km (⟨u, u⟩ : Vec)
theorem Tn.kept (t : Tn u wa wb na nb ga gb s) : pKept s 0 = ⟨0, 0⟩ := by
 unfold pKept
 rw [t.pl]
 rfl
theorem Tn.downA (t : Tn u wa wb na nb ga gb s) (least : Bool) : pDown s tQa 0 least = a5 ⟨u, u⟩ (bif least then 5000 else 10000) := by
 unfold pDown
 rw [if_pos ⟨by rw [t.cf]; decide, by decide, by rw [t.cf]; decide⟩, show (pUp tQa).dropLast.reverse = [tQa] by decide]
 show a5 (pTotal s 0) (bpOf s.Conf 0 least tQa) = _
 rw [t.total, t.cf]
 cases least <;> rfl
theorem Tn.downB (t : Tn u wa wb na nb ga gb s) (least : Bool) : pDown s tQb 0 least = a5 ⟨u, u⟩ (bif least then 5000 else 10000) := by
 unfold pDown
 rw [if_pos ⟨by rw [t.cf]; decide, by decide, by rw [t.cf]; decide⟩, show (pUp tQb).dropLast.reverse = [tQb] by decide]
 show a5 (pTotal s 0) (bpOf s.Conf 0 least tQb) = _
 rw [t.total, t.cf]
 cases least <;> rfl
theorem Tn.downR (t : Tn u wa wb na nb ga gb s) (least : Bool) : pDown s root 0 least = ⟨u, u⟩ := by
 unfold pDown
 rw [if_pos ⟨by rw [t.cf]; decide, by decide, by rw [t.cf]; decide⟩, show (pUp root).dropLast.reverse = [] by decide]
 exact t.total
theorem Tn.free (t : Tn u wa wb na nb ga gb s) : pFree s 1 = ⟨u - (na + nb), u - (na + nb)⟩ := by
 have hn := t.hn
 have e : iH s 1 = ⟨(na : Int) + nb, (na : Int) + nb⟩ := by
  unfold iH
  have e1 : s.Conts.filter (fun c => c.Node == 1) = s.Conts := List.filter_eq_self.2 fun c hc => by rw [(t.ct c hc).2.2.1]; rfl
  rw [e1, oG _ fun c hc => (t.ct c hc).1, t.len]
  simp
 unfold pFree
 rw [show cQ s 1 = some (tNode u) by unfold cQ; rw [t.nd]; rfl]
 show (if true = true then vless ⟨u, u⟩ (iH s 1) else ⟨0, 0⟩) = _
 rw [if_pos rfl, e]
 unfold vless imax
 dsimp only
 rw [if_neg (by omega)]
theorem Tn.room (t : Tn u wa wb na nb ga gb s) {q : Str} (hq : q = tQa ∨ q = tQb) : pRoom s q 0 ⟨1, 1⟩ = decide ((na : Int) + nb + 1 ≤ u) := by
 have hn := t.hn
 have hu := t.hu
 have r : dP s 0 ⟨1, 1⟩ root = decide ((na : Int) + nb + 1 ≤ u) := by
  unfold dP
  rw [t.usedR, t.downR, t.total, t.kept]
  unfold vplus vless imax
  simp only [iR]
  rw [show (root == root) = true by decide, if_neg (by omega), Bool.eq_iff_iff]
  simp
 have a : dP s 0 ⟨1, 1⟩ tQa = decide ((na : Int) + 1 ≤ u) := by
  unfold dP
  rw [t.usedA, t.downA, show (tQa == root) = false by decide]
  unfold vplus a5
  simp only [iR, cond_false]
  rw [Bool.eq_iff_iff]
  simp
 have b : dP s 0 ⟨1, 1⟩ tQb = decide ((nb : Int) + 1 ≤ u) := by
  unfold dP
  rw [t.usedB, t.downB, show (tQb == root) = false by decide]
  unfold vplus a5
  simp only [iR, cond_false]
  rw [Bool.eq_iff_iff]
  simp
 unfold pRoom
 rcases hq with rfl | rfl
 ·rw [show pUp tQa = [tQa, root] by decide]
  simp only [List.all_cons, List.all_nil, Bool.and_true]
  rw [r, a, Bool.eq_iff_iff]
  simp
  omega
 ·rw [show pUp tQb = [tQb, root] by decide]
  simp only [List.all_cons, List.all_nil, Bool.and_true]
  rw [r, b, Bool.eq_iff_iff]
  simp
  omega
theorem Tn.moreA (t : Tn u wa wb na nb ga gb s) : pMore s tQa 0 0 = true := by
 have hn := t.hn
 have hu := t.hu
 unfold pMore pUser
 rw [t.usedA, t.cf, show pFind tConf tQa = some ⟨tQa, [⟨5000, 10000⟩], 1000000⟩ from rfl]
 simp only [Option.elim_some]
 rw [t.downA]
 unfold a5
 simp only [iR, cond_true]
 simp
 omega
theorem Tn.moreB (t : Tn u wa wb na nb ga gb s) : pMore s tQb 0 0 = true := by
 have hn := t.hn
 have hu := t.hu
 unfold pMore pUser
 rw [t.usedB, t.cf, show pFind tConf tQb = some ⟨tQb, [⟨5000, 10000⟩], 1000000⟩ from rfl]
 simp only [Option.elim_some]
 rw [t.downB]
 unfold a5
 simp only [iR, cond_true]
 simp
 omega
theorem Tn.ask (t : Tn u wa wb na nb ga gb s) (first : Bool) {i : Int} {q : Str} {w : Int} {g : List Int} {k : Nat} (hq : (q = tQa ∧ k = na) ∨ (q = tQb ∧ k = nb)) :
  pAsk s (tNode u) (tApp i q w g) (tAsk w) first = bif (first && !(decide ((k : Int) + 1 ≤ u * 5000 / 10000))) || !(decide ((na : Int) + nb + 1 ≤ u)) then (s, 0, noC) else (bX s (tNode u) (tApp i q w g) (tAsk w), 1, gCont s (tNode u) (tApp i q w g) (tAsk w)) := by
 have hn := t.hn
 have hu := t.hu
 have hl : eR (tAsk w) (tNode u) = 1 := rfl
 have hm : pMay (tAsk w) (tNode u) = true := rfl
 have hd : pDue s (tApp i q w g).Queue (tAsk w) = decide ((k : Int) + 1 ≤ u * 5000 / 10000) := by
  show vfits (vplus (pUsed s q 0 true 0) ⟨1, 1⟩) (pDown s q 0 true) = _
  rcases hq with ⟨rfl, rfl⟩ | ⟨rfl, rfl⟩
  ·rw [t.usedA, t.downA]
   unfold vplus a5
   simp only [iR, cond_true, Bool.and_self]
  ·rw [t.usedB, t.downB]
   unfold vplus a5
   simp only [iR, cond_true, Bool.and_self]
 have hr : pRoom s (tApp i q w g).Queue (tNode u).Label (tAsk w).Size = decide ((na : Int) + nb + 1 ≤ u) := t.room (hq.imp (·.1) (·.1))
 have hf : vfits (tAsk w).Size (pFree s (tNode u).Id) = decide ((na : Int) + nb + 1 ≤ u) := by
  show vfits ⟨1, 1⟩ (pFree s 1) = _
  rw [t.free, iR, Bool.and_self, decide_eq_decide]
  omega
 have hc : vfits (tAsk w).Size (tNode u).Cap = true := by
  show vfits ⟨1, 1⟩ ⟨u, u⟩ = true
  rw [iR]
  simp
  omega
 unfold pAsk pSkip
 rw [hl, hm, hd, hr, hf, hc]
 cases first <;> cases decide ((k : Int) + 1 ≤ u * 5000 / 10000) <;> cases decide ((na : Int) + nb + 1 ≤ u) <;> rfl
end
section
variable {u wa wb : Int} {na nb : Nat} {ga gb : List Int} {s : State}
theorem Tn.sR (t : Tn u wa wb na nb ga gb s) (first : Bool) {i : Int} {q : Str} {w : Int} {g : List Int} {k : Nat} (hq : (q = tQa ∧ k = na) ∨ (q = tQb ∧ k = nb)) :
  sR s (tNode u) (tApp i q w g) first = bif decide (0 < w) && (!(first && !(decide ((k : Int) + 1 ≤ u * 5000 / 10000))) && decide ((na : Int) + nb + 1 ≤ u)) then some (bX s (tNode u) (tApp i q w g) (tAsk w), 1, gCont s (tNode u) (tApp i q w g) (tAsk w)) else none := by
 unfold Go.Fx.D.sR
 show (match tAsks w with | [] => none | x :: _ => _) = _
 unfold tAsks
 by_cases hw : 0 < w
 ·rw [if_pos hw, decide_eq_true hw]
  dsimp only
  rw [t.ask first hq]
  cases first <;> cases decide ((k : Int) + 1 ≤ u * 5000 / 10000) <;> cases decide ((na : Int) + nb + 1 ≤ u) <;> rfl
 ·rw [if_neg hw, decide_eq_false hw]
  rfl
theorem Tn.one1A (t : Tn u wa wb na nb ga gb s) (first : Bool) : One1 s (tNode u) first tQa 0 (tApp 0 tQa wa ga) := by
 refine ⟨by unfold pApps fa; rw [t.ap]; rfl, t.at0, t.moreA, ?_⟩
 show tAsks wa = [] ∨ ∃ x, tAsks wa = [x] ∧ _
 unfold tAsks
 by_cases hw : 0 < wa
 ·rw [if_pos hw]
  refine .inr ⟨_, rfl, ?_⟩
  rw [t.ask first (.inl ⟨rfl, rfl⟩)]
  cases (first && !(decide ((na : Int) + 1 ≤ u * 5000 / 10000))) || !(decide ((na : Int) + nb + 1 ≤ u))
  ·intro e; cases e
  ·intro _; rfl
 ·rw [if_neg hw]; exact .inl rfl
theorem Tn.one1B (t : Tn u wa wb na nb ga gb s) (first : Bool) : One1 s (tNode u) first tQb 1 (tApp 1 tQb wb gb) := by
 refine ⟨by unfold pApps fa; rw [t.ap]; rfl, t.at1, t.moreB, ?_⟩
 show tAsks wb = [] ∨ ∃ x, tAsks wb = [x] ∧ _
 unfold tAsks
 by_cases hw : 0 < wb
 ·rw [if_pos hw]
  refine .inr ⟨_, rfl, ?_⟩
  rw [t.ask first (.inr ⟨rfl, rfl⟩)]
  cases (first && !(decide ((nb : Int) + 1 ≤ u * 5000 / 10000))) || !(decide ((na : Int) + nb + 1 ≤ u))
  ·intro e; cases e
  ·intro _; rfl
 ·rw [if_neg hw]; exact .inl rfl
theorem Tn.ahead (t : Tn u wa wb na nb ga gb s) : bF s tQb tQa 0 = decide (nb < na) := by
 have hn := t.hn
 have hu := t.hu
 unfold bF pOrder
 rw [t.usedB, t.usedA, t.downB, t.downA, ny, ox]
 unfold a5
 simp only [cond_true, Option.getD_some]
 have hb : Op.bytesLess tQb tQa = false := by decide
 have o1 : Ok ⟨(nb : Int), nb⟩ := ⟨by dsimp only; omega, by dsimp only; omega, by dsimp only; omega, by dsimp only; omega⟩
 have o2 : Ok ⟨(na : Int), na⟩ := ⟨by dsimp only; omega, by dsimp only; omega, by dsimp only; omega, by dsimp only; omega⟩
 have o3 : Ok ⟨u * 5000 / 10000, u * 5000 / 10000⟩ := ⟨by dsimp only; omega, by dsimp only; omega, by dsimp only; omega, by dsimp only; omega⟩
 rw [if_pos ⟨o1, o3, o2, o3⟩, hb, Bool.and_false, Bool.or_false]
 have l : ∀ k : Nat, 1 ≤ k → ld ⟨(k : Int), k⟩ ⟨u * 5000 / 10000, u * 5000 / 10000⟩ = ((k : Int), u * 5000 / 10000) := by
  intro k hk
  have hk0 : ¬ ((k : Int) = 0) := by omega
  unfold ld nm
  simp only [if_neg hk0]
  split <;> rfl
 rw [l nb hn.2.1, l na hn.1]
 generalize hh : u * 5000 / 10000 = h
 have h2 : 2 ≤ h := by omega
 unfold rcmp
 dsimp only
 rw [if_neg (by omega), if_neg (by omega)]
 by_cases c : nb < na
 ·rw [if_pos (by exact Int.mul_lt_mul_of_pos_right (by omega) (by omega)), decide_eq_true c]; rfl
 ·rw [if_neg (by have : (na : Int) * h ≤ nb * h := Int.mul_le_mul_of_nonneg_right (by omega) (by omega); omega), decide_eq_false c]
  split <;> rfl
theorem Tn.leaves (t : Tn u wa wb na nb ga gb s) : bc s 0 = if nb < na then [tQb, tQa] else [tQa, tQb] := by
 have k0 : pKids s.Conf root = [tQa, tQb] := by rw [t.cf]; decide
 have ka : pKids s.Conf tQa = [] := by rw [t.cf]; decide
 have kb : pKids s.Conf tQb = [] := by rw [t.cf]; decide
 have la : ∀ d, pLeavesN d s tQa 0 = [tQa] := by intro d; cases d with | zero => rfl | succ d => unfold pLeavesN; rw [if_pos ka]
 have lb : ∀ d, pLeavesN d s tQb 0 = [tQb] := by intro d; cases d with | zero => rfl | succ d => unfold pLeavesN; rw [if_pos kb]
 have ho : pOKids s root 0 = if nb < na then [tQb, tQa] else [tQa, tQb] := by
  unfold pOKids
  rw [k0]
  show insB (fun a b => bF s a b 0) [tQa] tQb = _
  unfold insB
  have := t.ahead
  by_cases c : nb < na
  ·rw [if_pos c, List.takeWhile_cons_of_neg (by simp [this, c]), List.dropWhile_cons_of_neg (by simp [this, c])]
   rfl
  ·rw [if_neg c, List.takeWhile_cons_of_pos (by simp [this, c]), List.dropWhile_cons_of_pos (by simp [this, c])]
   rfl
 unfold bc pLeavesN
 rw [if_neg (by rw [k0]; simp), ho]
 split <;> simp [la, lb]
theorem Tn.round (t : Tn u wa wb na nb ga gb s) {N : Nat} (hN : N + 1 ≤ 1000000) (h : Inv N s) (first : Bool) :
  ao s (tNode u) first = some (if nb < na then (match Go.Fx.D.sR s (tNode u) (tApp 1 tQb wb gb) first with | some r => r | none => match Go.Fx.D.sR s (tNode u) (tApp 0 tQa wa ga) first with | some r => r | none => (s, 0, noC))
   else (match Go.Fx.D.sR s (tNode u) (tApp 0 tQa wa ga) first with | some r => r | none => match Go.Fx.D.sR s (tNode u) (tApp 1 tQb wb gb) first with | some r => r | none => (s, 0, noC))) := by
 have hl := t.leaves
 by_cases c : nb < na
 ·rw [if_pos c] at hl ⊢
  exact qu hN h (n := tNode u) hl (by decide) (by decide) (t.one1B first) (t.one1A first)
 ·rw [if_neg c] at hl ⊢
  exact qu hN h (n := tNode u) hl (by decide) (by decide) (t.one1A first) (t.one1B first)
def pickA (wa wb : Int) (na nb : Nat) : Bool := decide (0 < wa) && (!(decide (0 < wb)) || !(decide (nb < na)))
theorem Tn.one (t : Tn u wa wb na nb ga gb s) {N : Nat} (hN : N + 1 ≤ 1000000) (h : Inv N s) (hq : s.Seq < 1048575) :
  ci s 1 = some (if (na : Int) + nb + 1 ≤ u ∧ (0 < wa ∨ 0 < wb) then (bif pickA wa wb na nb then (bX s (tNode u) (tApp 0 tQa wa ga) (tAsk wa), 1, gCont s (tNode u) (tApp 0 tQa wa ga) (tAsk wa)) else (bX s (tNode u) (tApp 1 tQb wb gb) (tAsk wb), 1, gCont s (tNode u) (tApp 1 tQb wb gb) (tAsk wb))) else (s, 0, noC)) := by
 have hn := t.hn
 have hu := t.hu
 have hlen := t.len
 unfold ci
 rw [eC h.z, Ba, show cQ s 1 = some (tNode u) by unfold cQ; rw [t.nd]; rfl, p8 h.z, show jH s 1 = none by unfold jH; rw [t.sl]; rfl]
 simp only [Option.elim_some, Option.elim_none, Bool.not_true, cond_false]
 rw [show (!(tNode u).Up) = false from rfl, cond_false, decide_eq_false (show ¬ ((s.Conts.length : Int) ≥ 200) by omega), cond_false, Ba, decide_eq_false (by omega), cond_false, Ba]
 show ((ao s (tNode u) true).bind fun x3 => bif x3.2.1 != 0 then some (x3.1, x3.2.1, x3.2.2) else (ao x3.1 (tNode u) false).bind fun x4 => some (x4.1, x4.2.1, x4.2.2)) = _
 have r1 := t.round hN h true
 have r2 := t.round hN h false
 simp only [t.sR true (q := tQa) (i := 0) (w := wa) (g := ga) (.inl ⟨rfl, rfl⟩), t.sR true (q := tQb) (i := 1) (w := wb) (g := gb) (.inr ⟨rfl, rfl⟩)] at r1
 simp only [t.sR false (q := tQa) (i := 0) (w := wa) (g := ga) (.inl ⟨rfl, rfl⟩), t.sR false (q := tQb) (i := 1) (w := wb) (g := gb) (.inr ⟨rfl, rfl⟩)] at r2
 rw [r1, Ba]
 unfold pickA
 by_cases c1 : (na : Int) + nb + 1 ≤ u
 ·by_cases c2 : 0 < wa <;> by_cases c3 : 0 < wb <;> by_cases c4 : nb < na <;> by_cases c5 : (na : Int) + 1 ≤ u * 5000 / 10000 <;> by_cases c6 : (nb : Int) + 1 ≤ u * 5000 / 10000 <;>
   first | (exfalso; omega) | (simp only [c1, c2, c3, c4, c5, c6, decide_true, decide_false, if_true, if_false, Bool.and_true, Bool.true_and, Bool.not_true, Bool.not_false, Bool.and_false, Bool.false_and, cond_true, cond_false, r2, Ba, and_true, true_and, or_true, true_or, or_false, false_or, Bool.or_true, Bool.true_or, Bool.or_false, Bool.false_or, or_self]; rfl)
 ·simp only [c1, false_and, if_false, decide_false, Bool.and_false, cond_false, ite_self, bne_self_eq_false, r2, Ba]
end
theorem AS {w : Int} (h : 0 < w) : pTake (tAsks w) 1 = tAsks (w - 1) := by
 unfold tAsks
 rw [if_pos h]
 unfold pTake
 rw [List.filterMap_cons, List.filterMap_nil]
 unfold takeK
 rw [if_pos (show (tAsk w).Prio = 1 from rfl)]
 by_cases hw : w - 1 ≤ 0
 ·rw [if_pos (show (tAsk w).Count - 1 ≤ 0 from hw), if_neg (by omega)]
 ·rw [if_neg (show ¬ (tAsk w).Count - 1 ≤ 0 from hw), if_pos (by omega)]
  rfl
theorem wI (s : State) (i : Int) (q : Str) {w : Int} (h : 0 < w) (g : List Int) : gApp s (tApp i q w g) (tAsk w) = tApp i q (w - 1) (g ++ [cid s]) := by
 unfold gApp
 rw [if_neg (by show ¬ ((2 : Int) = 1); omega)]
 show (⟨i, 2, q, 0, 0, ⟨1, 1⟩, pTake (tAsks w) 1, 0, 0, g ++ [cid s], [], [], []⟩ : App) = _
 rw [AS h]
 rfl
section
variable {u wa wb : Int} {na nb : Nat} {ga gb : List Int} {s : State}
theorem Tn.conts (t : Tn u wa wb na nb ga gb s) {N : Nat} (h : Inv N s) (a : App) (x : Ask) : (bX s (tNode u) a x).Conts = s.Conts ++ [gCont s (tNode u) a x] := by
 have hid := wy h.ep h.sq
 exact rj (id := fun c : Cont => c.Id) fun c hc => by
  have := (h.ck c hc).id
  show c.Id < cid s
  omega
theorem Tn.grantA (t : Tn u wa wb na nb ga gb s) {N : Nat} (h : Inv N s) (hw : 0 < wa) (hr : (na : Int) + nb + 1 ≤ u) : Tn u (wa - 1) wb (na + 1) nb (ga ++ [cid s]) gb (bX s (tNode u) (tApp 0 tQa wa ga) (tAsk wa)) := by
 have hc := t.conts h (tApp 0 tQa wa ga) (tAsk wa)
 have hw' := t.hw
 have hn := t.hn
 refine ⟨t.cf, t.nd, ?_, fun c hcc => ?_, ?_, ?_, t.sl, t.pl, t.nw, t.hu, by omega, by omega⟩
 ·show putG (·.Id) s.Apps (gApp s (tApp 0 tQa wa ga) (tAsk wa)) = _
  rw [t.ap, wI s 0 tQa hw ga]
  rfl
 ·rw [hc] at hcc
  rcases List.mem_append.1 hcc with hcc | hcc
  ·exact t.ct c hcc
  ·rw [Be] at hcc
   subst hcc
   exact ⟨rfl, rfl, rfl, .inl rfl⟩
 ·rw [hc, List.filter_append, Bd, t.ca]
  rfl
 ·rw [hc, List.filter_append, Bd, t.cb]
  rfl
theorem Tn.grantB (t : Tn u wa wb na nb ga gb s) {N : Nat} (h : Inv N s) (hw : 0 < wb) (hr : (na : Int) + nb + 1 ≤ u) : Tn u wa (wb - 1) na (nb + 1) ga (gb ++ [cid s]) (bX s (tNode u) (tApp 1 tQb wb gb) (tAsk wb)) := by
 have hc := t.conts h (tApp 1 tQb wb gb) (tAsk wb)
 have hw' := t.hw
 have hn := t.hn
 refine ⟨t.cf, t.nd, ?_, fun c hcc => ?_, ?_, ?_, t.sl, t.pl, t.nw, t.hu, by omega, by omega⟩
 ·show putG (·.Id) s.Apps (gApp s (tApp 1 tQb wb gb) (tAsk wb)) = _
  rw [t.ap, wI s 1 tQb hw gb]
  rfl
 ·rw [hc] at hcc
  rcases List.mem_append.1 hcc with hcc | hcc
  ·exact t.ct c hcc
  ·rw [Be] at hcc
   subst hcc
   exact ⟨rfl, rfl, rfl, .inr rfl⟩
 ·rw [hc, List.filter_append, Bd, t.ca]
  rfl
 ·rw [hc, List.filter_append, Bd, t.cb]
  rfl
theorem pu {w : Int} (h : 0 ≤ w) : (gp (tAsks w) 0) = ⟨w, w⟩ := by
 unfold tAsks
 by_cases hw : 0 < w
 ·rw [if_pos hw]
  show vsum [(⟨1 * w, 1 * w⟩ : Vec)] = _
  rw [km, Int.one_mul]
 ·rw [if_neg hw, show w = 0 by omega]
  rfl
theorem Tn.pendA (t : Tn u wa wb na nb ga gb s) : eD s tQa 0 = ⟨wa, wa⟩ := by
 unfold eD
 rw [t.ap]
 show vsum [gp (tAsks wa) 0] = _
 rw [km, pu t.hw.1]
theorem Tn.pendB (t : Tn u wa wb na nb ga gb s) : eD s tQb 0 = ⟨wb, wb⟩ := by
 unfold eD
 rw [t.ap]
 show vsum [gp (tAsks wb) 0] = _
 rw [km, pu t.hw.2.1]
theorem Tn.pendR (t : Tn u wa wb na nb ga gb s) : eD s root 0 = ⟨wa + wb, wa + wb⟩ := by
 unfold eD
 rw [t.ap]
 show vsum [gp (tAsks wa) 0, gp (tAsks wb) 0] = _
 rw [pu t.hw.1, pu t.hw.2.1, jI, km]
 rfl
end
def tS (u wa wb : Int) : State := ⟨tConf, [tNode u], [tApp 0 tQa wa [], tApp 1 tQb wb []], [⟨1, 0, 1, ⟨1, 1⟩, 0, 0, true, 0⟩, ⟨2, 1, 1, ⟨1, 1⟩, 0, 0, true, 0⟩], [], [], 0, 0, 2⟩
theorem AR : QOk tConf 0 ⟨root, [⟨10000, 10000⟩], 10000⟩ :=
 ⟨⟨by decide, by decide, .inl rfl⟩, fun p h => absurd h (by omega), fun h => absurd h (by omega), by show (1 : Int) ≤ 10000 ∧ (10000 : Int) ≤ 1000000; omega, rfl, fun x hx => by
  have : x = ⟨10000, 10000⟩ := by simpa using hx
  subst this
  unfold CapOk; dsimp only; omega⟩
theorem A0 : QOk tConf 1 ⟨tQa, [⟨5000, 10000⟩], 1000000⟩ :=
 ⟨⟨by decide, by decide, .inr ⟨[97], rfl⟩⟩, fun p _ hp => by
   have hp : some (⟨root, [⟨10000, 10000⟩], 10000⟩ : Queue) = some p := hp
   cases hp; decide, fun _ => by decide, by show (1 : Int) ≤ 1000000 ∧ (1000000 : Int) ≤ 1000000; omega, rfl, fun x hx => by
  have : x = ⟨5000, 10000⟩ := by simpa using hx
  subst this
  unfold CapOk; dsimp only; omega⟩
theorem AO : QOk tConf 2 ⟨tQb, [⟨5000, 10000⟩], 1000000⟩ :=
 ⟨⟨by decide, by decide, .inr ⟨[98], rfl⟩⟩, fun p _ hp => by
   have hp : some (⟨tQa, [⟨5000, 10000⟩], 1000000⟩ : Queue) = some p := hp
   cases hp; decide, fun _ => by decide, by show (1 : Int) ≤ 1000000 ∧ (1000000 : Int) ≤ 1000000; omega, rfl, fun x hx => by
  have : x = ⟨5000, 10000⟩ := by simpa using hx
  subst this
  unfold CapOk; dsimp only; omega⟩
theorem zt : ConfOk tConf := by
 refine ⟨by decide, rfl, by decide, by decide, ⟨_, rfl, rfl, fun x hx => by simpa using hx⟩, fun i hi => ?_, fun q hq => ?_⟩
 ·have hi : i < 3 := hi
  match i, hi with
  | 0, _ => exact AR
  | 1, _ => exact A0
  | 2, _ => exact AO
 ·intro hk k hkl
  have hkl : k = 0 := by have : k < 1 := hkl; omega
  subst hkl
  have hq : q = ⟨root, [⟨10000, 10000⟩], 10000⟩ ∨ q = ⟨tQa, [⟨5000, 10000⟩], 1000000⟩ ∨ q = ⟨tQb, [⟨5000, 10000⟩], 1000000⟩ := by simpa [tConf] using hq
  rcases hq with rfl | rfl | rfl
  ·decide
  ·exact absurd (by decide) hk
  ·exact absurd (by decide) hk
theorem uJ {i w : Int} {q : Str} (hq : q = tQa ∨ q = tQb) (h : 1 ≤ w ∧ w ≤ 20) : AppOk 0 tConf (tApp i q w []) := by
 have hp : PathOk q := by
  rcases hq with rfl | rfl
  ·exact ⟨by decide, by decide, .inr ⟨[97], rfl⟩⟩
  ·exact ⟨by decide, by decide, .inr ⟨[98], rfl⟩⟩
 have hl : pLeaf tConf q = true := by rcases hq with rfl | rfl <;> decide
 have ha : tAsks w = [tAsk w] := if_pos (by omega)
 have hs : SzOk ⟨1, 1⟩ := by unfold SzOk; dsimp only; omega
 refine ⟨by show (1 : Int) ≤ 2 ∧ (2 : Int) ≤ 4; omega, by show (0 : Int) ≤ 0 ∧ (0 : Int) ≤ 2; omega, hp, fun _ => hl, hs, ?_, ?_, Nat.le_refl _, Nat.le_refl _, Nat.le_refl _, Nat.le_refl _, ?_⟩
 ·show (tAsks w).length ≤ 8
  rw [ha]; show 1 ≤ 8; omega
 ·intro x hx
  have hx : x ∈ tAsks w := hx
  rw [ha, Be] at hx
  subst hx
  exact ⟨by show (0 : Int) ≤ 0 ∧ (0 : Int) < 1; omega, hs, by show 1 ≤ w ∧ w ≤ 50; omega⟩
 ·show (tAsks w).Pairwise _
  rw [ha]; simp
theorem AY {u wa wb : Int} (hu : 4 ≤ u ∧ u ≤ 23) (h1 : 1 ≤ wa ∧ wa ≤ 20) (h2 : 1 ≤ wb ∧ wb ≤ 20) : Inv 0 (tS u wa wb) := by
 have no : ∀ {α : Type} {P : α → Prop}, ∀ x ∈ ([] : List α), P x := fun x hx => (List.not_mem_nil hx).elim
 have hs : SzOk ⟨1, 1⟩ := by unfold SzOk; dsimp only; omega
 refine ⟨zt, by show 1 ≤ 12; omega, by simp [tS], fun n hn => ?_, by show 2 ≤ 16; omega, ?_, fun a ha => ?_, by show 2 ≤ 200; omega, ?_, fun c hc => ?_, List.Pairwise.nil, no, by show 0 ≤ 12; omega, List.Pairwise.nil, no, by show (0 : Int) ≤ 0 ∧ (0 : Int) ≤ 1000000000; omega, by show (0 : Int) ≤ 0 ∧ (0 : Int) ≤ 1048576; omega, by show (0 : Int) ≤ 2 ∧ (2 : Int) ≤ 1048575; omega, by show (0 : Int) ≤ ((0 : Nat) : Int); omega⟩
 ·have hn : n = tNode u := by simpa [tS] using hn
  subst hn
  exact ⟨by unfold VB; show (0 ≤ u ∧ u ≤ 1073741824) ∧ 0 ≤ u ∧ u ≤ 1073741824; omega, by show (0 : Int) ≤ 0; omega, by show (0 : Int) < 1; omega⟩
 ·show [tApp 0 tQa wa [], tApp 1 tQb wb []].Pairwise fun x y => x.Id < y.Id
  refine List.pairwise_cons.2 ⟨fun y hy => ?_, by simp⟩
  rw [Be] at hy
  subst hy
  show (0 : Int) < 1
  omega
 ·have ha : a = tApp 0 tQa wa [] ∨ a = tApp 1 tQb wb [] := by simpa [tS] using ha
  rcases ha with rfl | rfl
  ·exact uJ (.inl rfl) h1
  ·exact uJ (.inr rfl) h2
 ·show [(⟨1, 0, 1, ⟨1, 1⟩, 0, 0, true, 0⟩ : Cont), ⟨2, 1, 1, ⟨1, 1⟩, 0, 0, true, 0⟩].Pairwise fun x y => x.Id < y.Id
  simp
 ·have hc : c = ⟨1, 0, 1, ⟨1, 1⟩, 0, 0, true, 0⟩ ∨ c = ⟨2, 1, 1, ⟨1, 1⟩, 0, 0, true, 0⟩ := by simpa [tS] using hc
  rcases hc with rfl | rfl
  ·exact ⟨hs, ⟨tApp 0 tQa wa [], by simp [tS], rfl, rfl⟩, by show (0 : Int) ≤ 0 ∧ (0 : Int) < 1; omega, by show (0 : Int) ≤ 1 ∧ (1 : Int) ≤ 0 * 1048576 + 2; omega⟩
  ·exact ⟨hs, ⟨tApp 1 tQb wb [], by simp [tS], rfl, rfl⟩, by show (0 : Int) ≤ 0 ∧ (0 : Int) < 1; omega, by show (0 : Int) ≤ 2 ∧ (2 : Int) ≤ 0 * 1048576 + 2; omega⟩
theorem tS_tn {u wa wb : Int} (hu : 4 ≤ u ∧ u ≤ 23) (h1 : 1 ≤ wa ∧ wa ≤ 20) (h2 : 1 ≤ wb ∧ wb ≤ 20) : Tn u wa wb 1 1 [] [] (tS u wa wb) := by
 refine ⟨rfl, rfl, rfl, fun c hc => ?_, rfl, rfl, rfl, rfl, rfl, hu, by omega, by omega⟩
 have hc : c = ⟨1, 0, 1, ⟨1, 1⟩, 0, 0, true, 0⟩ ∨ c = ⟨2, 1, 1, ⟨1, 1⟩, 0, 0, true, 0⟩ := by simpa [tS] using hc
 rcases hc with rfl | rfl
 ·exact ⟨rfl, rfl, rfl, .inl rfl⟩
 ·exact ⟨rfl, rfl, rfl, .inr rfl⟩
def tS0 (u : Int) (l : List Node) (a : List App) (c : List Cont) (q : Int) : State := ⟨tConf, l, a, c, [], [], 0, 0, q⟩
theorem AQ {u wa wb : Int} (hu : 4 ≤ u ∧ u ≤ 23) (h1 : 1 ≤ wa ∧ wa ≤ 20) (h2 : 1 ≤ wb ∧ wb ≤ 20) : eN u ⟨wa, wb⟩ ⟨1, 1⟩ = some (tS u wa wb) := by
 have z : SSmall (tS0 u [] [] [] 0) := ⟨by show 0 ≤ 100000; omega, by show 0 ≤ 100000; omega, by show 0 ≤ 100000; omega, by show 0 ≤ 100000; omega, by show 0 ≤ 100000; omega⟩
 have reg : aI (tS0 u [] [] [] 0) (⟨1, 0, 0, ⟨u, u⟩, 0, 0, false⟩ : Node) = some (tS0 u [tNode u] [] [] 0, 0) := by
  unfold aI
  simp only [eC z, nX z, oM, decide_eq_true (show 0 ≤ u by omega), decide_eq_true (show u ≤ 1073741824 by omega)]
  rfl
 have a1 : tAsks wa = [tAsk wa] := if_pos (by omega)
 have a2 : tAsks wb = [tAsk wb] := if_pos (by omega)
 have p1 : bW ⟨wa, wb⟩ (tS0 u [tNode u] [] [] 0, 0) = some (.inl (tS0 u [tNode u] [tApp 0 tQa wa []] [] 0, 1)) := by
  unfold tApp
  rw [a1]
  show (bif decide (wa > 0) then _ else _ : Option App).bind _ = _
  rw [decide_eq_true (by omega)]
  rfl
 have p2 : bW ⟨wa, wb⟩ (tS0 u [tNode u] [tApp 0 tQa wa []] [] 0, 1) = some (.inl (tS0 u [tNode u] [tApp 0 tQa wa [], tApp 1 tQb wb []] [] 0, 2)) := by
  conv => rhs; unfold tApp
  rw [a2]
  show (bif decide (wb > 0) then _ else _ : Option App).bind _ = _
  rw [decide_eq_true (by omega)]
  rfl
 have p3 : bW ⟨wa, wb⟩ (tS0 u [tNode u] [tApp 0 tQa wa [], tApp 1 tQb wb []] [] 0, 2) = some (.inr (tS0 u [tNode u] [tApp 0 tQa wa [], tApp 1 tQb wb []] [] 0)) := rfl
 generalize hA : [tApp 0 tQa wa [], tApp 1 tQb wb []] = A at p2 p3
 have l3 : ∀ (k : Int) (t1 : State × Int) (c : List Cont) (q : Int), t1.2 = k → (k = 0 ∨ k = 1) → c.length ≤ 10 → 0 ≤ q ∧ q ≤ 10 → loop (b7 ⟨1, 1⟩ t1) (tS0 u [tNode u] A c q, 0) = some (tS0 u [tNode u] A (c ++ [⟨q + 1, k, 1, ⟨1, 1⟩, 0, 0, true, 0⟩]) (q + 1)) := by
  rintro k ⟨t, kk⟩ c q hkk hk hc hq
  have hkk : kk = k := hkk
  subst hkk
  have x1 : b7 ⟨1, 1⟩ (t, kk) (tS0 u [tNode u] A c q, 0) = some (.inl (tS0 u [tNode u] A (c ++ [⟨q + 1, kk, 1, ⟨1, 1⟩, 0, 0, true, 0⟩]) (q + 1), 1)) := by
   rcases hk with rfl | rfl
   ·show ((app 72 c [(⟨w64 (q + 1), 0, 1, ⟨1, 1⟩, 0, 0, true, 0⟩ : Cont)]).bind fun l2 => (some (Sum.inl ((⟨tConf, [tNode u], A, l2, [], [], 0, 0, w64 (q + 1)⟩ : State), w64 (0 + 1))) : Option ((State × Int) ⊕ State))) = _
    rw [aB (x := q + 1) (by omega) (by omega), ay (by simp; omega) (by omega)]
    rfl
   ·show ((app 72 c [(⟨w64 (q + 1), 1, 1, ⟨1, 1⟩, 0, 0, true, 0⟩ : Cont)]).bind fun l2 => (some (Sum.inl ((⟨tConf, [tNode u], A, l2, [], [], 0, 0, w64 (q + 1)⟩ : State), w64 (0 + 1))) : Option ((State × Int) ⊕ State))) = _
    rw [aB (x := q + 1) (by omega) (by omega), ay (by simp; omega) (by omega)]
    rfl
  rw [cK x1]
  refine aZ ?_
  rcases hk with rfl | rfl <;> rfl
 have q1 : dn ⟨1, 1⟩ (tS0 u [tNode u] A [] 0, 0) = some (.inl (tS0 u [tNode u] A [⟨1, 0, 1, ⟨1, 1⟩, 0, 0, true, 0⟩] 1, 1)) := by
  show ((loop (b7 ⟨1, 1⟩ (tS0 u [tNode u] A [] 0, 0)) (tS0 u [tNode u] A [] 0, 0)).bind fun s1 => (some (.inl (s1, w64 (0 + 1))) : Option ((State × Int) ⊕ State))) = _
  rw [l3 0 _ [] 0 rfl (.inl rfl) (by simp) (by omega)]
  rfl
 have q2 : dn ⟨1, 1⟩ (tS0 u [tNode u] A [⟨1, 0, 1, ⟨1, 1⟩, 0, 0, true, 0⟩] 1, 1) = some (.inl (tS0 u [tNode u] A [⟨1, 0, 1, ⟨1, 1⟩, 0, 0, true, 0⟩, ⟨2, 1, 1, ⟨1, 1⟩, 0, 0, true, 0⟩] 2, 2)) := by
  show ((loop (b7 ⟨1, 1⟩ (tS0 u [tNode u] A [⟨1, 0, 1, ⟨1, 1⟩, 0, 0, true, 0⟩] 1, 1)) (tS0 u [tNode u] A [⟨1, 0, 1, ⟨1, 1⟩, 0, 0, true, 0⟩] 1, 0)).bind fun s1 => (some (.inl (s1, w64 (1 + 1))) : Option ((State × Int) ⊕ State))) = _
  rw [l3 1 _ [⟨1, 0, 1, ⟨1, 1⟩, 0, 0, true, 0⟩] 1 rfl (.inr rfl) (by simp) (by omega)]
  rfl
 have q3 : dn ⟨1, 1⟩ (tS0 u [tNode u] A [⟨1, 0, 1, ⟨1, 1⟩, 0, 0, true, 0⟩, ⟨2, 1, 1, ⟨1, 1⟩, 0, 0, true, 0⟩] 2, 2) = some (.inr (tS0 u [tNode u] A [⟨1, 0, 1, ⟨1, 1⟩, 0, 0, true, 0⟩, ⟨2, 1, 1, ⟨1, 1⟩, 0, 0, true, 0⟩] 2)) := rfl
 unfold eN
 rw [wG, Ba, ay (by decide) (by omega), Ba]
 show ((aI (tS0 u [] [] [] 0) (⟨1, 0, 0, ⟨u, u⟩, 0, 0, false⟩ : Node)).bind _) = _
 rw [reg, Ba]
 show ((loop (bW ⟨wa, wb⟩) (tS0 u [tNode u] [] [] 0, 0)).bind _) = _
 rw [cK p1, cK p2, aZ p3, Ba, cK q1, cK q2, aZ q3, ← hA]
 rfl
def TnI (u : Int) (k : Nat) (s : State) : Prop := ∃ wa wb na nb ga gb, Tn u wa wb na nb ga gb s ∧ Inv k s ∧ s.Seq ≤ 2 + k ∧ (0 < wa ∧ 0 < wb → nb ≤ na ∧ na ≤ nb + 1)
theorem yj {u : Int} {wa wb : Int} {na nb : Nat} {ga gb : List Int} {s : State} {N : Nat} (t : Tn u wa wb na nb ga gb s) (h : Inv N s) (hne : ¬ ((na : Int) + nb + 1 ≤ u ∧ (0 < wa ∨ 0 < wb))) :
  ((br s 1).bind fun x6 => bif x6.Mem == 0 then (some (.inr (.inl true)) : Option ((State × Int) ⊕ (Bool ⊕ Unit))) else (aL s ([114, 111, 111, 116] : List UInt8) 0).bind fun x7 => some (.inr (.inl (x7.Mem == 0)))) = some (.inr (.inl true)) := by
 have hn := t.hn
 have hw := t.hw
 rw [lv h.sb, Ba, t.free]
 by_cases c : u - ((na : Int) + nb) = 0
 ·rw [show ((⟨u - ((na : Int) + nb), u - ((na : Int) + nb)⟩ : Vec).Mem == 0) = true from beq_iff_eq.2 c, cond_true]
 ·rw [show ((⟨u - ((na : Int) + nb), u - ((na : Int) + nb)⟩ : Vec).Mem == 0) = false from beq_eq_false_iff_ne.2 c, cond_false, mq h, Ba, show eD s [114, 111, 111, 116] 0 = _ from t.pendR]
  rw [show ((⟨wa + wb, wa + wb⟩ : Vec).Mem == 0) = true from beq_iff_eq.2 (by show wa + wb = 0; omega)]
theorem Ap {u : Int} {wa wb : Int} {na nb : Nat} {ga gb : List Int} {s : State} {N : Nat} (t : Tn u wa wb na nb ga gb s) (h : Inv N s) (hd : 0 < wa ∧ 0 < wb → nb ≤ na ∧ na ≤ nb + 1) (k : Int) :
  ((aK s ([114, 111, 111, 116, 46, 97] : List UInt8) 0).bind fun x8 =>
   (aK s ([114, 111, 111, 116, 46, 98] : List UInt8) 0).bind fun x9 =>
   ((aL s ([114, 111, 111, 116, 46, 97] : List UInt8) 0).bind fun x10 =>
    bif decide (x10.Mem > 0) then
     (aL s ([114, 111, 111, 116, 46, 98] : List UInt8) 0).bind fun x11 =>
     bif decide (x11.Mem > 0) then
      bif decide ((w64 (x8.Mem - x9.Mem)) > 1) then
       some true
      else
       some (decide ((w64 (x9.Mem - x8.Mem)) > 1))
     else
      some false
    else
     some false).bind fun q =>
   bif q then
    (some (.inr (.inl false)) : Option ((State × Int) ⊕ (Bool ⊕ Unit)))
   else
    some (.inl (s, w64 (k + 1)))) = some (.inl (s, w64 (k + 1))) := by
 have hn := t.hn
 have hu := t.hu
 rw [j2 h.sb, Ba, j2 h.sb, Ba, mq h, Ba, mq h, Ba]
 rw [show eD s [114, 111, 111, 116, 46, 97] 0 = _ from t.pendA, show eD s [114, 111, 111, 116, 46, 98] 0 = _ from t.pendB, show pUsed s [114, 111, 111, 116, 46, 97] 0 true 0 = _ from t.usedA true, show pUsed s [114, 111, 111, 116, 46, 98] 0 true 0 = _ from t.usedB true]
 dsimp only
 by_cases c1 : wa > 0
 ·rw [decide_eq_true c1, cond_true]
  by_cases c2 : wb > 0
  ·have := hd ⟨c1, c2⟩
   rw [decide_eq_true c2, cond_true, aB (x := (na : Int) - nb) (by omega) (by omega), aB (x := (nb : Int) - na) (by omega) (by omega), decide_eq_false (by omega), decide_eq_false (by omega)]
   rfl
  ·rw [decide_eq_false c2]; rfl
 ·rw [decide_eq_false c1]; rfl
theorem oy (a0 a1 a2 : Int) : bR a0 a1 a2 = some true := by
 unfold bR
 rw [vT]
 simp only [Ba, Bool.not_true, cond_false]
 obtain ⟨u, e1, hu⟩ := lp a0 (n := 20) (by omega) (by omega)
 obtain ⟨wa, e2, ha⟩ := lp a1 (n := 20) (by omega) (by omega)
 obtain ⟨wb, e3, hb⟩ := lp a2 (n := 20) (by omega) (by omega)
 rw [e1, Ba, e2, Ba, e3, Ba, aB (x := 4 + u) (by omega) (by omega), aB (x := 1 + wa) (by omega) (by omega), aB (x := 1 + wb) (by omega) (by omega)]
 rw [AQ (u := 4 + u) (wa := 1 + wa) (wb := 1 + wb) (by omega) (by omega) (by omega), Ba]
 obtain ⟨x, e, hx⟩ := gu (fun (p : State) i => (p, i)) 30 (TnI (4 + u)) (step := bk) (Q := fun x => x = .inl true ∨ x = .inr ()) (by omega) (by
  rintro k hk s ⟨wa, wb, na, nb, ga, gb, t, h, hq, hd⟩
  have hn := t.hn
  have hw := t.hw
  unfold bk
  dsimp only
  rw [decide_eq_true (show (k : Int) < 30 by omega), cond_true]
  obtain ⟨r, r', er, er', rfl, ho, hi⟩ := uq (by omega) h 1
  rw [er, Ba]
  have eo := t.one (by omega) h (by omega)
  rw [er', Option.some.injEq] at eo
  by_cases c : (na : Int) + nb + 1 ≤ 4 + u ∧ (0 < wa ∨ 0 < wb)
  ·rw [if_pos c] at eo
   have key : ∃ wa' wb' na' nb' ga' gb', Tn (4 + u) wa' wb' na' nb' ga' gb' r.1 ∧ r.2.1 = 1 ∧ r.1.Seq = s.Seq + 1 ∧ (0 < wa' ∧ 0 < wb' → nb' ≤ na' ∧ na' ≤ nb' + 1) := by
    cases hp : pickA wa wb na nb
    ·rw [hp, cond_false] at eo
     subst eo
     have hp' : 0 < wb ∧ (0 < wa → nb < na) := by
      unfold pickA at hp
      simp at hp
      omega
     exact ⟨wa, wb - 1, na, nb + 1, ga, gb ++ [cid s], t.grantB h hp'.1 c.1, rfl, rfl, by omega⟩
    ·rw [hp, cond_true] at eo
     subst eo
     have hp' : 0 < wa ∧ (0 < wb → na ≤ nb) := by
      unfold pickA at hp
      simp at hp
      omega
     exact ⟨wa - 1, wb, na + 1, nb, ga ++ [cid s], gb, t.grantA h hp'.1 c.1, rfl, rfl, by omega⟩
   obtain ⟨wa', wb', na', nb', ga', gb', t', h1, h2, h3⟩ := key
   have hsq := h.sq
   rw [h1]
   simp only [bne_self_eq_false, cond_false]
   rw [Ap t' hi h3]
   exact af (.inl ⟨_, rfl, wa', wb', na', nb', ga', gb', t', hi, by omega, h3⟩)
  ·rw [if_neg c] at eo
   subst eo
   dsimp only
   rw [show ((0 : Int) != 1) = true from rfl, cond_true, yj t h c]
   exact af (.inr ⟨_, rfl, .inl rfl⟩)) (by
  rintro s _
  unfold bk
  exact af ⟨_, rfl, .inr rfl⟩) (s := tS (4 + u) (1 + wa) (1 + wb)) ⟨_, _, 1, 1, _, _, tS_tn (by omega) (by omega) (by omega), AY (by omega) (by omega) (by omega), by show (2 : Int) ≤ 2 + ((0 : Nat) : Int); omega, by omega⟩
 rw [e, Ba]
 rcases hx with rfl | rfl <;> rfl
end Go.Fx.D
