/-
  The law over plain data: true at all inputs. Conditions: none.
-/
import Derived.Test.YtkfeeenaelcalaaGreatS18
import Derived.Lib.Mul64
import Derived.WalkKit
namespace Go.Fx.D
open Go Go.Fx
set_option linter.unusedVariables false
set_option linter.unusedSimpArgs false

theorem rgood_eq (a : Vec) : rvec_vec_good a = some (decide (VB 1125899906842624 a)) := by
  unfold rvec_vec_good
  have e : decide (VB 1125899906842624 a) = ((decide (a.Mem ≥ 0) && decide (a.Mem ≤ 1125899906842624)) && (decide (a.Cores ≥ 0) && decide (a.Cores ≤ 1125899906842624))) := by
    rw [Bool.eq_iff_iff, decide_eq_true_iff]
    simp only [Bool.and_eq_true, decide_eq_true_eq, VB, ge_iff_le]
  rw [e]
  cases decide (a.Mem ≥ 0) <;> cases decide (a.Mem ≤ 1125899906842624) <;> cases decide (a.Cores ≥ 0) <;> cases decide (a.Cores ≤ 1125899906842624) <;> rfl
theorem rover_eq {a : Vec} (h : VB 1125899906842624 a) : rvec_over a = some (a, 0) := by
  unfold rvec_over
  rw [rgood_eq, decide_eq_true h]
  rfl
theorem Add_eq {a b : Vec} {n m : Int} (ha : VB n a) (hb : VB m b) (h : n + m ≤ 1125899906842624) : rvec_Add a b = some (vplus a b, 0) := by
  have hn : 0 ≤ n ∧ 0 ≤ m := by unfold VB at ha hb; omega
  have hs := vplus_bd ha hb
  unfold rvec_Add
  rw [rgood_eq, rgood_eq, decide_eq_true (ha.mono (by omega)), decide_eq_true (hb.mono (by omega))]
  simp only [Option.bind_some, Bool.not_true, cond_false]
  have e : (⟨w64 (a.Mem + b.Mem), w64 (a.Cores + b.Cores)⟩ : Vec) = vplus a b := by
    unfold VB vplus at hs
    dsimp only at hs
    rw [w64_id (by omega) (by omega), w64_id (by omega) (by omega)]
    rfl
  rw [e, rover_eq (hs.mono h)]
  rfl
theorem vplus_comm (a b : Vec) : vplus a b = vplus b a := by unfold vplus; congr 1 <;> omega
theorem vplus_assoc (a b c : Vec) : vplus (vplus a b) c = vplus a (vplus b c) := by unfold vplus; dsimp only; congr 1 <;> omega
theorem vplus_zero (a : Vec) : vplus ⟨0, 0⟩ a = a := by cases a; simp [vplus]
theorem foldl_vplus (l : List Vec) (z : Vec) : l.foldl vplus z = vplus z (vsum l) := by
  induction l generalizing z with
  | nil => rw [vsum_nil, vplus_comm, vplus_zero]; rfl
  | cons x l ih => rw [List.foldl_cons, ih, vsum_cons, vplus_assoc]
theorem sum_eq {l : List Vec} (hl : l.length ≤ 1000) (h : ∀ v ∈ l, VB 1099511627776 v) : share_sum l = some (vsum l) := by
  unfold share_sum
  rw [(loop_fold (fun v i => (v, i)) l vplus (fun k v => VB (1099511627776 * k) v) (fun v => v) (step := share_sum_l1 l) (by omega) ?_ ?_ (s := (⟨0, 0⟩ : Vec)) (by simp [VB])).1]
  · rw [foldl_vplus, vplus_zero]; rfl
  · intro k hk s hs
    have hb := h _ (List.getElem_mem hk)
    refine ⟨?_, (vplus_bd hs hb).mono (by omega)⟩
    unfold share_sum_l1
    rw [dlt_t hk, idx_at hk]
    simp only [cond_true, Option.bind_some]
    rw [Add_eq hs hb (by omega)]
    rfl
  · intro s _
    unfold share_sum_l1
    rw [dlt_f]
    rfl
theorem u64w (x : Int) : IntKind.u64.wrap x = x % 18446744073709551616 := by rw [IntKind.wrap_u64]
theorem u64id {x : Int} (h : 0 ≤ x) (h2 : x < 18446744073709551616) : IntKind.u64.wrap x = x := by rw [u64w]; omega
theorem shr32 (x : Int) : shrK .u64 x 32 = x / 4294967296 := by
  show x.fdiv (2 ^ min (32 : Int).toNat IntKind.u64.bits) = _
  rw [show (2 ^ min (32 : Int).toNat IntKind.u64.bits : Int) = 4294967296 from by decide, Int.fdiv_eq_ediv_of_nonneg _ (by decide)]
theorem andN (a b : Nat) (ha : a < 18446744073709551616) (hb : b < 18446744073709551616) : andK .u64 (a : Int) (b : Int) = ((a &&& b : Nat) : Int) := by
  show IntKind.u64.wrap ((BitVec.ofInt 64 (a : Int) &&& BitVec.ofInt 64 (b : Int)).toNat) = _
  have e : ((BitVec.ofInt 64 (a : Int) &&& BitVec.ofInt 64 (b : Int)).toNat) = a &&& b := by
    rw [BitVec.toNat_and, BitVec.toNat_ofInt, BitVec.toNat_ofInt]
    congr 1 <;> omega
  rw [e]
  have : a &&& b ≤ a := Nat.and_le_left
  exact u64id (by omega) (by omega)
theorem and32 (a : Nat) (ha : a < 18446744073709551616) : andK .u64 (a : Int) 4294967295 = ((a % 4294967296 : Nat) : Int) := by
  have := andN a 4294967295 ha (by omega)
  rw [show ((4294967295 : Nat) : Int) = 4294967295 from rfl] at this
  rw [this, show (4294967295 : Nat) = 2 ^ 32 - 1 from rfl, Nat.and_two_pow_sub_one_eq_mod]
theorem mul64_eq (x y : Nat) (hx : x < 18446744073709551616) (hy : y < 18446744073709551616) :
    bits_Mul64 (x : Int) (y : Int) = some (((x * y / 18446744073709551616 : Nat) : Int), ((x * y % 18446744073709551616 : Nat) : Int)) := by
  obtain ⟨h1, h2, h3, h4⟩ := Lib.mul64_hi x y hx hy
  have a1 := Lib.half_mul_le (a := x / 4294967296) (b := y / 4294967296) (by omega) (by omega)
  have a2 := Lib.half_mul_le (a := x / 4294967296) (b := y % 4294967296) (by omega) (by omega)
  have a3 := Lib.half_mul_le (a := x % 4294967296) (b := y / 4294967296) (by omega) (by omega)
  have a4 := Lib.half_mul_le (a := x % 4294967296) (b := y % 4294967296) (by omega) (by omega)
  have w : ∀ a : Nat, a < 18446744073709551616 → IntKind.u64.wrap (a : Int) = (a : Int) := fun a ha => u64id (by omega) (by omega)
  have d : ∀ a : Nat, (a : Int) / 4294967296 = ((a / 4294967296 : Nat) : Int) := fun a => by omega
  have m : ∀ a b : Nat, (a : Int) * (b : Int) = ((a * b : Nat) : Int) := fun a b => (Int.natCast_mul a b).symm
  have p : ∀ a b : Nat, (a : Int) + (b : Int) = ((a + b : Nat) : Int) := fun a b => (Int.natCast_add a b).symm
  unfold bits_Mul64
  simp only [shr32, d]
  rw [and32 y hy, and32 x hx]
  simp only [m, p]
  rw [w _ (Nat.lt_of_le_of_lt a1 (by omega)), w _ (Nat.lt_of_le_of_lt a2 (by omega)), w _ (Nat.lt_of_le_of_lt a3 (by omega)), w _ (Nat.lt_of_le_of_lt a4 (by omega))]
  simp only [d, p]
  rw [w _ h2]
  simp only [d, p]
  rw [and32 _ h2]
  simp only [p]
  rw [w _ h3]
  simp only [d]
  have hq : x * y / 18446744073709551616 < 18446744073709551616 := by
    have : x * y < 18446744073709551616 * 18446744073709551616 := Nat.mul_lt_mul_of_lt_of_lt hx hy
    omega
  have hs : x / 4294967296 * (y / 4294967296) + (x / 4294967296 * (y % 4294967296) + x % 4294967296 * (y % 4294967296) / 4294967296) / 4294967296 < 18446744073709551616 := by omega
  rw [w _ hs]
  simp only [p]
  rw [h4, w _ hq, u64w]
  simp
theorem part_eq {n bp : Int} (h0 : 0 ≤ n) (h1 : n ≤ 1099511627776) (b0 : 0 ≤ bp) (b1 : bp ≤ 1000000) : rvec_part n bp = some (n * bp / 10000) ∧ 0 ≤ n * bp / 10000 ∧ n * bp / 10000 ≤ 109951162777600 := by
  obtain ⟨a, rfl⟩ := Int.eq_ofNat_of_zero_le h0
  obtain ⟨b, rfl⟩ := Int.eq_ofNat_of_zero_le b0
  have m3 := mul_bd h0 h1 b0 b1
  have hm : (a : Int) * (b : Int) = ((a * b : Nat) : Int) := (Int.natCast_mul a b).symm
  rw [hm] at m3 ⊢
  refine ⟨?_, by omega, by omega⟩
  unfold rvec_part
  rw [u64id (by omega) (by omega), u64id (by omega) (by omega), mul64_eq _ _ (by omega) (by omega)]
  generalize a * b = c at m3 ⊢
  have e1 : c / 18446744073709551616 = 0 := by omega
  have e2 : c % 18446744073709551616 = c := by omega
  rw [e1, e2]
  simp only [Option.bind_some]
  unfold bits_Div64
  have n0 : nz 10000 = some () := rfl
  have c1 : ((10000 : Int) == 0) = false := rfl
  have c2 : decide ((10000 : Int) ≤ ((0 : Nat) : Int)) = false := rfl
  have c3 : (((0 : Nat) : Int) == 0) = true := rfl
  simp only [c1, c2, c3, n0, cond_true, cond_false, Option.bind_some]
  rw [Int.tdiv_eq_ediv_of_nonneg (by omega), u64id (by omega) (by omega), w64_id (by omega) (by omega)]
theorem rScale_eq {a : Vec} {bp : Int} (ha : VB 1099511627776 a) (b0 : 0 ≤ bp) (b1 : bp ≤ 1000000) : rvec_Scale a bp = some (vscale a bp, 0) := by
  have ha' := ha
  unfold VB at ha'
  obtain ⟨e1, p1, p2⟩ := part_eq ha'.1.1 ha'.1.2 b0 b1
  obtain ⟨e2, p3, p4⟩ := part_eq ha'.2.1 ha'.2.2 b0 b1
  have hv : VB 109951162777600 (vscale a bp) := ⟨⟨p1, p2⟩, p3, p4⟩
  unfold rvec_Scale
  rw [rgood_eq, decide_eq_true (ha.mono (by omega))]
  simp only [Option.bind_some, Bool.not_true, cond_false]
  rw [decide_eq_false (by omega), decide_eq_false (by omega)]
  simp only [Option.bind_some, cond_false]
  rw [e1, e2]
  simp only [Option.bind_some]
  have : (⟨a.Mem * bp / 10000, a.Cores * bp / 10000⟩ : Vec) = vscale a bp := rfl
  rw [this, rover_eq (hv.mono (by omega))]
  rfl
theorem sTotal_eq {s : State} (h : SC s) (label : Int) : share_Total s label = some (pTotal s label) := by
  unfold share_Total
  have hn := h.n
  rw [loop_filter (fun (l : List Vec) i => (l, i)) s.Nodes (fun n => n.Up && n.Label == label) (·.Cap) (step := share_Total_l1 s label) (by omega) ?_ ?_]
  · rw [Option.bind_some, sum_eq]
    · rfl
    · rw [List.length_map]
      have := List.length_filter_le (fun n : Node => n.Up && n.Label == label) s.Nodes
      omega
    · intro v hv
      obtain ⟨n, hn, rfl⟩ := List.mem_map.1 hv
      exact (h.b.nc n (List.mem_filter.1 hn).1).mono (by omega)
  · intro k hk l hl
    unfold share_Total_l1
    rw [dlt_t hk, idx_at hk]
    simp only [cond_true, Option.bind_some]
    rw [app_some (by simp; omega) (by omega)]
    cases s.Nodes[k].Up <;> cases s.Nodes[k].Label == label <;> rfl
  · intro l
    unfold share_Total_l1
    rw [dlt_f]
    rfl
theorem sKept_eq {s : State} (h : SC s) (hp : s.Plans.length ≤ 100) (label : Int) : share_Kept s label = some (pKept s label) := by
  unfold share_Kept
  rw [loop_filter (fun (l : List Vec) i => (l, i)) s.Plans (fun p => p.Label == label && decide (p.From ≤ s.Now) && decide (s.Now < p.Until)) (·.Need) (step := share_Kept_l1 s label) (by omega) ?_ ?_]
  · rw [Option.bind_some, sum_eq]
    · rfl
    · rw [List.length_map]
      have := List.length_filter_le (fun p : Plan => p.Label == label && decide (p.From ≤ s.Now) && decide (s.Now < p.Until)) s.Plans
      omega
    · intro v hv
      obtain ⟨n, hn, rfl⟩ := List.mem_map.1 hv
      exact (h.b.pn n (List.mem_filter.1 hn).1).mono (by omega)
  · intro k hk l hl
    unfold share_Kept_l1
    rw [dlt_t hk, idx_at hk]
    simp only [cond_true, Option.bind_some]
    rw [app_some (by simp; omega) (by omega)]
    cases s.Plans[k].Label == label <;> cases decide (s.Plans[k].From ≤ s.Now) <;> cases decide (s.Now < s.Plans[k].Until) <;> rfl
  · intro l
    unfold share_Kept_l1
    rw [dlt_f]
    rfl
/-- the place of the first of a list -/
theorem loop_findI {α τ ρ : Type} (mk : Int → τ) (l : List α) (p : α → Bool) (g : Int → ρ) (z : ρ) {step : τ → Option (τ ⊕ ρ)} (hn : l.length < 1000000000)
    (h1 : ∀ k (hk : k < l.length), p l[k] = false → step (mk (k : Int)) = some (.inl (mk (w64 ((k : Int) + 1)))))
    (h2 : ∀ k (hk : k < l.length), p l[k] = true → step (mk (k : Int)) = some (.inr (g (k : Int))))
    (h3 : step (mk (l.length : Int)) = some (.inr z)) : (∃ k, ∃ (hk : k < l.length), l.find? p = some l[k] ∧ loop step (mk 0) = some (g (k : Int))) ∨ (l.find? p = none ∧ loop step (mk 0) = some z) := by
  have h := gv_for (σ := Unit) (Q := fun x => (∃ k, ∃ (hk : k < l.length), l.find? p = some l[k] ∧ x = g (k : Int)) ∨ (l.find? p = none ∧ x = z)) (fun _ i => mk i) l.length (fun k _ => (l.take k).find? p = none) (step := step) hn ?_ ?_ (s := ()) rfl
  · obtain ⟨x, e, h⟩ := h
    rcases h with ⟨k, hk, h1, rfl⟩ | ⟨h1, rfl⟩
    · exact .inl ⟨k, hk, h1, e⟩
    · exact .inr ⟨h1, e⟩
  · intro k hk _ hs
    cases hp : p l[k] with
    | false =>
      refine gv_eq (h1 k hk hp) (.inl ⟨(), rfl, ?_⟩)
      rw [List.take_succ_eq_append_getElem hk, List.find?_append, hs]
      simp [hp]
    | true =>
      refine gv_eq (h2 k hk hp) (.inr ⟨_, rfl, .inl ⟨k, hk, ?_, rfl⟩⟩)
      conv => lhs; rw [← List.take_append_drop k l]
      rw [List.find?_append, hs, Option.none_or, List.drop_eq_getElem_cons hk, List.find?_cons_of_pos hp]
  · intro _ hs
    rw [List.take_length] at hs
    exact gv_eq h3 ⟨_, rfl, .inr ⟨hs, rfl⟩⟩
theorem rFind_eq {c : Conf} (h : CSmall c) (p : Str) : rule_Find c p = some ((pFind c p).elim (noQ, false) fun q => (q, true)) := by
  unfold rule_Find api_Queue_
  have hq := h.q
  have e := loop_findI (fun i => i) c.Queues (fun q => q.Path == p) (fun i => (.inl i : Int ⊕ Unit)) (.inr ()) (step := api_Queue__l1 c.Queues fun a' => rule_Find_1 a'.1 p) (by omega) ?_ ?_ ?_
  · unfold pFind
    rcases e with ⟨k, hk, e1, e2⟩ | ⟨e1, e2⟩
    · rw [e1, e2]
      simp only [Option.bind_some, Option.elim_some]
      rw [decide_eq_false (by omega), idx_at hk]
      simp only [cond_false, Option.bind_some]
      unfold api_Cap_
      rw [app_some (by have := h.c _ (List.getElem_mem hk); simp; omega) (by omega)]
      rfl
    · rw [e1, e2]
      rfl
  · intro k hk hf
    unfold api_Queue__l1 rule_Find_1
    rw [dlt_t hk, idx_at hk]
    simp only [cond_true, Option.bind_some, hf, cond_false]
  · intro k hk hf
    unfold api_Queue__l1 rule_Find_1
    rw [dlt_t hk, idx_at hk]
    simp only [cond_true, Option.bind_some, hf]
  · unfold api_Queue__l1
    rw [dlt_f]
    rfl
theorem byte_loop (p : Str) (hp : p.length < 1000000000) : ∀ m, m ≤ p.length → loop (bytealg_LastIndexByteString_l1 p 46) ((m : Int) - 1) = some (if ((p.take m).reverse.dropWhile (· != 46)).length = 0 then .inr () else .inl ((((p.take m).reverse.dropWhile (· != 46)).length : Int) - 1)) := by
  intro m
  induction m with
  | zero =>
    intro _
    rw [loop_eq]
    rfl
  | succ m ih =>
    intro hm
    rw [loop_eq]
    have e0 : ((m + 1 : Nat) : Int) - 1 = (m : Int) := by omega
    rw [e0]
    unfold bytealg_LastIndexByteString_l1
    rw [decide_eq_true (by omega), idx_at (show m < p.length by omega)]
    have hb : ((p[m].toNat : Int) == 46) = !(p[m] != 46) := by
      rw [Bool.eq_iff_iff, beq_iff_eq, Bool.not_eq_true', bne_eq_false_iff_eq]
      refine ⟨fun h => ?_, fun h => by rw [h]; rfl⟩
      exact UInt8.toNat_inj.1 (by have : (46 : UInt8).toNat = 46 := rfl; omega)
    have ht : (p.take (m + 1)).reverse = p[m] :: (p.take m).reverse := by rw [List.take_succ_eq_append_getElem (by omega), List.reverse_append]; rfl
    rw [ht, List.dropWhile_cons]
    simp only [cond_true, Option.bind_some, hb]
    cases h : (p[m] != 46) with
    | true =>
      simp only [Bool.not_true, cond_false, if_true]
      rw [w64_id (by omega) (by omega)]
      exact ih (by omega)
    | false =>
      simp only [Bool.not_false, cond_true, Bool.false_eq_true, if_false, List.length_cons, List.length_reverse, List.length_take]
      rw [if_neg (by omega)]
      congr 2
      omega
theorem rAbove_eq {p : Str} (hp : p.length < 1000000000) : ∃ b, rule_above p = some (pAbove p, b) := by
  have e : strings_LastIndex p [46] = bytealg_LastIndexByteString p 46 := by
    unfold strings_LastIndex
    rw [show ((([46] : List UInt8).length : Int) == 0) = false from rfl, show ((([46] : List UInt8).length : Int) == 1) = true from rfl]
    simp only [cond_true, cond_false]
    rw [show idx ([46] : List UInt8) 0 = some 46 from rfl, Option.bind_some]
    show (bytealg_LastIndexByteString p 46).bind some = _
    cases bytealg_LastIndexByteString p 46 <;> rfl
  unfold rule_above
  rw [e]
  unfold bytealg_LastIndexByteString
  dsimp only
  rw [w64_id (by omega) (by omega), byte_loop p hp p.length (Nat.le_refl _), List.take_length, pAbove_take]
  have hle := (List.dropWhile_suffix (· != 46) (l := p.reverse)).length_le
  rw [List.length_reverse] at hle
  generalize (p.reverse.dropWhile (· != 46)).length = n at hle ⊢
  by_cases h : n = 0
  · subst h; exact ⟨false, rfl⟩
  · rw [if_neg h]
    simp only [Option.bind_some]
    rw [decide_eq_false (by omega)]
    unfold slc
    simp only [cond_false]
    rw [if_pos ⟨by omega, by omega, by omega⟩]
    simp only [Option.bind_some, Int.toNat_zero, List.drop_zero]
    refine ⟨true, ?_⟩
    congr 3
    omega
theorem rUp_loop : ∀ (n : Nat) (p : Str) (l : List Str), p.length ≤ n → p.length + l.length ≤ 1000000 → loop rule_Up_l1 (p, l) = some (l ++ pUp p)
  | n, p, l, h1, h2 => by
    by_cases h : p = []
    · subst h
      rw [loop_eq]
      simp [rule_Up_l1, pUp_nil]
    · have hl := pAbove_len h
      have hb : (p == []) = false := by simp [h]
      have hs : rule_Up_l1 (p, l) = some (.inl (pAbove p, l ++ [p])) := by
        unfold rule_Up_l1
        simp only [hb, Bool.not_false, cond_true]
        obtain ⟨b, e⟩ := rAbove_eq (p := p) (by omega)
        rw [app_some (by simp; omega) (by omega), e]
        rfl
      rw [loop_eq, hs]
      dsimp only
      match n with
      | 0 => omega
      | n + 1 =>
        rw [rUp_loop n (pAbove p) (l ++ [p]) (by omega) (by simp; omega), pUp_cons h]
        simp
theorem rUp_eq {p : Str} (h : p.length ≤ 1000000) : rule_Up p = some (pUp p) := by
  unfold rule_Up
  rw [rUp_loop p.length p [] (Nat.le_refl _) (by simpa using h)]
  rfl
theorem sdown_eq {s : State} (h : SC s) {path : Str} (hp : path.length ≤ 1000000) {label : Int} (h0 : 0 ≤ label) (h1 : label < s.Conf.Labels.length) (least : Bool) {part : TupT fam [.st 1] → Option Int}
    (hpart : ∀ c : Cap, part (c, ()) = some (bif least then c.Least else c.Most)) : share_down s path label part = some (pDown s path label least) := by
  have hn := h.n
  unfold share_down pDown
  rw [rUp_eq hp, Option.bind_some, rFind_eq h.b.cf]
  cases hf : pFind s.Conf path with
  | none => simp
  | some q =>
    simp only [Option.elim_some, Option.bind_some, Bool.not_true, cond_false, Option.isSome_some, true_and]
    rw [if_pos ⟨h0, h1⟩, sTotal_eq h, Option.bind_some]
    have hfound := chain_found h.c path.length path (Nat.le_refl _) (by rw [hf]; rfl)
    have hul := pUp_len path
    have hpos : 0 < (pUp path).length := by
      have : path ≠ [] := by
        intro e
        obtain ⟨hm, hq⟩ := pFind_mem hf
        obtain ⟨i, hi, rfl⟩ := List.getElem_of_mem hm
        have := (h.c.q i hi).path.root
        rw [hq, e] at this
        simp at this
      rw [pUp_cons this]
      simp
    rw [w64_id (by omega) (by omega)]
    have key : ∀ m, m ≤ (pUp path).length → ∀ v, VB (s.Nodes.length * 1073741824) v → loop (share_down_l1 s label part (pUp path)) ((⟨0, 0⟩ : Vec), v, (m : Int) - 1) = some (.inr (⟨0, 0⟩, ((pUp path).take m).reverse.foldl (fun v p => vscale v (bpOf s.Conf label least p)) v)) := by
      intro m
      induction m with
      | zero =>
        intro _ v _
        rw [loop_eq]
        rfl
      | succ m ih =>
        intro hm v hv
        have hfm := hfound _ (List.getElem_mem (show m < (pUp path).length by omega))
        have hbp := bp_bd h.c hfm h0 h1 least
        have hs : share_down_l1 s label part (pUp path) ((⟨0, 0⟩ : Vec), v, ((m + 1 : Nat) : Int) - 1) = some (.inl (⟨0, 0⟩, vscale v (bpOf s.Conf label least (pUp path)[m]), (m : Int) - 1)) := by
          unfold share_down_l1
          dsimp only
          rw [show ((m + 1 : Nat) : Int) - 1 = (m : Int) by omega, decide_eq_true (by omega), inb_at (show m < (pUp path).length by omega)]
          simp only [cond_true, Option.bind_some, List.getElem?_eq_getElem (show m < (pUp path).length by omega)]
          obtain ⟨q', e1, e2, e3, e4⟩ := cap_found h.c hfm h0 h1
          rw [rFind_eq h.b.cf, e1]
          simp only [Option.elim_some, Option.bind_some, Bool.not_true, cond_false]
          rw [decide_eq_false (show ¬ label < 0 by omega), decide_eq_false (show ¬ label ≥ (q'.Caps.length : Int) by omega)]
          simp only [cond_false, Option.bind_some]
          have hin : inb label q'.Caps.length = some label.toNat := by
            unfold inb
            rw [if_pos ⟨by omega, e2⟩]
          rw [hin]
          simp only [Option.bind_some, e3]
          rw [hpart]
          simp only [Option.bind_some]
          rw [show (bif least then (capAt s.Conf label (pUp path)[m]).Least else (capAt s.Conf label (pUp path)[m]).Most) = bpOf s.Conf label least (pUp path)[m] from rfl]
          rw [rScale_eq (hv.mono (by omega)) hbp.1 (by omega), Option.bind_some, w64_id (by omega) (by omega)]
        rw [loop_eq, hs]
        dsimp only
        rw [ih (by omega) _ (vscale_le hv hbp.1 hbp.2), List.take_succ_eq_append_getElem (by omega), List.reverse_append]
        rfl
    have := key ((pUp path).length - 1) (by omega) _ (total_bd h.b label)
    rw [show (((pUp path).length - 1 : Nat) : Int) - 1 = ((pUp path).length : Int) - 2 by omega] at this
    rw [this, List.dropLast_eq_take]
    rfl
theorem sMost_eq {s : State} (h : SC s) {path : Str} (hp : path.length ≤ 1000000) {label : Int} (h0 : 0 ≤ label) (h1 : label < s.Conf.Labels.length) : share_Most s path label = some (pDown s path label false) := by
  unfold share_Most; rw [sdown_eq h hp h0 h1 false (fun c => rfl)]; rfl
theorem few_eq (x : Script) : dispatchlaw7_Script_Few x = some (decide (x.Ns.length ≤ 30) && decide (x.Acts.length ≤ 80)) := by
  unfold dispatchlaw7_Script_Few
  have e1 : decide ((x.Ns.length : Int) ≤ 30) = decide (x.Ns.length ≤ 30) := by rw [decide_eq_decide]; omega
  have e2 : decide ((x.Acts.length : Int) ≤ 80) = decide (x.Acts.length ≤ 80) := by rw [decide_eq_decide]; omega
  rw [e1, e2]
  cases decide (x.Ns.length ≤ 30) <;> rfl
/-- rounds that find nothing -/
theorem loop_ok {step : Int → Option (Int ⊕ (Bool ⊕ Unit))} (n : Nat) (hn : n < 1000000000) (h1 : ∀ k, k < n → step (k : Int) = some (.inl (w64 ((k : Int) + 1)))) (h2 : step (n : Int) = some (.inr (.inr ()))) : loop step 0 = some (.inr ()) := by
  obtain ⟨x, e, rfl⟩ := gv_for (σ := Unit) (Q := fun x => x = (.inr () : Bool ⊕ Unit)) (fun _ i => i) n (fun _ _ => True) (step := step) hn (fun k hk _ _ => gv_eq (h1 k hk) (.inl ⟨(), rfl, trivial⟩)) (fun _ _ => gv_eq h2 ⟨_, rfl, rfl⟩) (s := ()) trivial
  exact e
theorem vec_beq (a : Vec) : ((a.Mem == a.Mem) && (a.Cores == a.Cores)) = true := by simp
theorem kid_of {c : Conf} {p kid : Str} (h : kid ∈ pKids c p) : p ≠ [] ∧ pAbove kid = p ∧ (pFind c kid).isSome = true ∧ ∃ q ∈ c.Queues, q.Path = kid := by
  unfold pKids at h
  by_cases hp : p = []
  · rw [if_pos hp] at h; cases h
  · rw [if_neg hp] at h
    obtain ⟨q, hq, rfl⟩ := List.mem_map.1 h
    obtain ⟨h1, h2⟩ := List.mem_filter.1 hq
    obtain ⟨q', e, _⟩ := pFind_of h1
    exact ⟨hp, by simpa using h2, by rw [e]; rfl, q, h1, rfl⟩
/-- a path: what is above it, a dot, and what has none -/
theorem path_cut (q : Str) : (46 ∉ q ∧ pAbove q = []) ∨ ∃ r, 46 ∉ r ∧ q = pAbove q ++ 46 :: r := by
  have h0 : q.reverse.takeWhile (· != 46) ++ q.reverse.dropWhile (· != 46) = q.reverse := List.takeWhile_append_dropWhile
  have h1 : 46 ∉ (q.reverse.takeWhile (· != 46)).reverse := by
    intro h
    have := List.all_eq_true.1 (List.all_takeWhile (p := (· != 46)) (l := q.reverse)) _ (List.mem_reverse.1 h)
    simp at this
  have h2 : q = (q.reverse.dropWhile (· != 46)).reverse ++ (q.reverse.takeWhile (· != 46)).reverse := by rw [← List.reverse_append, h0, List.reverse_reverse]
  cases hd : q.reverse.dropWhile (· != 46) with
  | nil =>
    left
    rw [hd] at h2
    refine ⟨?_, by unfold pAbove; rw [hd]; rfl⟩
    rw [h2]
    simpa using h1
  | cons x d =>
    right
    have hx : x = 46 := by
      have : (q.reverse.dropWhile (· != 46)).head? = some x := by rw [hd]; rfl
      have := List.head?_dropWhile_not (· != 46) q.reverse
      rw [hd] at this
      simpa using this
    refine ⟨(q.reverse.takeWhile (· != 46)).reverse, h1, ?_⟩
    unfold pAbove
    rw [hd]
    conv => lhs; rw [h2, hd, hx]
    simp
theorem pre_cut {p u r : Str} (hr : 46 ∉ r) : (p ++ [46]) <+: (u ++ 46 :: r) ↔ p = u ∨ (p ++ [46]) <+: u := by
  constructor
  · intro h
    by_cases h1 : p.length < u.length
    · right
      exact List.prefix_of_prefix_length_le h (List.prefix_append _ _) (by simp; omega)
    · by_cases h2 : p.length = u.length
      · left
        have := List.prefix_of_prefix_length_le (List.IsPrefix.trans (List.prefix_append p [46]) h) (List.prefix_append u _) (by omega)
        exact List.IsPrefix.eq_of_length this h2
      · exfalso
        have hp : u ++ [46] <+: p := by
          refine List.prefix_of_prefix_length_le (l₃ := u ++ 46 :: r) ⟨r, by simp⟩ (List.IsPrefix.trans (List.prefix_append p [46]) h) (by simp; omega)
        obtain ⟨z, rfl⟩ := hp
        obtain ⟨y, hy⟩ := h
        have : z ++ [46] ++ y = r := by
          have : u ++ (46 :: (z ++ [46] ++ y)) = u ++ (46 :: r) := by rw [← hy]; simp
          have := List.append_cancel_left this
          simpa using this
        exact hr (by rw [← this]; simp)
  · rintro (rfl | h)
    · exact ⟨r, by simp⟩
    · exact List.IsPrefix.trans h (List.prefix_append _ _)
theorem up_mem {p : Str} (hp : p ≠ []) : ∀ (n : Nat) (q : Str), q.length ≤ n → (p ∈ pUp q ↔ p = q ∨ (p ++ [46]) <+: q)
  | n, q, hn => by
    by_cases hq : q = []
    · subst hq
      rw [pUp_nil]
      constructor
      · intro h; cases h
      · rintro (h | h)
        · exact absurd h hp
        · have := h.length_le; simp at this
    · rw [pUp_cons hq, List.mem_cons]
      refine or_congr Iff.rfl ?_
      have ha := pAbove_len hq
      match n with
      | 0 => omega
      | n + 1 =>
        rw [up_mem hp n (pAbove q) (by omega)]
        rcases path_cut q with ⟨h1, h2⟩ | ⟨r, h1, h2⟩
        · rw [h2]
          constructor
          · rintro (h | h)
            · exact absurd h hp
            · have := h.length_le; simp at this
          · intro h
            exact absurd (h.subset (by simp)) h1
        · conv => rhs; rw [h2]
          rw [pre_cut h1]
/-- the program's test -/
def pHasP (q p : Str) : Bool := q == p || (p ++ [46]).isPrefixOf q
theorem hasP_eq {q : Str} (hq : PathOk q) (p : Str) : pHasP q p = pBelow q p := by
  have hqn : q ≠ [] := by
    intro e
    have := hq.root
    rw [e] at this
    simp at this
  unfold pHasP pBelow
  rw [Bool.eq_iff_iff, Bool.or_eq_true, beq_iff_eq, List.isPrefixOf_iff_prefix, List.contains_iff_mem]
  by_cases hp : p = []
  · subst hp
    constructor
    · rintro (h | h)
      · exact absurd h hqn
      · exfalso
        rcases hq.root with h1 | h1
        · rw [h1] at h; revert h; decide
        · obtain ⟨z, rfl⟩ := h1
          obtain ⟨y, hy⟩ := h
          have := congrArg List.head? hy
          simp at this
    · intro h
      exfalso
      have key : ∀ (n : Nat) (x : Str), x.length ≤ n → [] ∉ pUp x := by
        intro n
        induction n with
        | zero =>
          intro x hx
          have : x = [] := List.length_eq_zero_iff.1 (by omega)
          subst this
          simp [pUp_nil]
        | succ n ih =>
          intro x hx
          by_cases h : x = []
          · subst h; simp [pUp_nil]
          · have := pAbove_len h
            rw [pUp_cons h]
            simp only [List.mem_cons, not_or]
            exact ⟨fun e => h e.symm, ih _ (by omega)⟩
      exact key _ _ (Nat.le_refl _) h
  · rw [up_mem hp q.length q (Nat.le_refl _)]
    constructor
    · rintro (rfl | h)
      · exact .inl rfl
      · exact .inr h
    · rintro (rfl | h)
      · exact .inl rfl
      · exact .inr h
theorem hasPre_eq (s p : Str) : strings_HasPrefix s p = some (p.isPrefixOf s) := by
  unfold strings_HasPrefix stringslite_HasPrefix
  by_cases h : p.length ≤ s.length
  · rw [decide_eq_true (by omega)]
    unfold slc
    simp only [cond_true]
    rw [if_pos ⟨by omega, by omega, by omega⟩]
    simp only [Option.bind_some, Int.toNat_zero, List.drop_zero, Int.toNat_natCast]
    congr 1
    rw [Bool.eq_iff_iff, beq_iff_eq, List.isPrefixOf_iff_prefix, List.prefix_iff_eq_take]
    exact eq_comm
  · rw [decide_eq_false (by omega)]
    have : p.isPrefixOf s = false := by
      rw [Bool.eq_false_iff]
      intro hc
      have := (List.isPrefixOf_iff_prefix.1 hc).length_le
      omega
    rw [this]
    rfl
theorem has_eq {v : View} {a : App} (hp : v.path.length ≤ 1000000) (ha : PathOk a.Queue) : qtree_view_has v a = some (pBelow a.Queue v.path && (v.user == (-1) || a.User == v.user)) := by
  unfold qtree_view_has
  rw [cat_some (by simp; omega), Option.bind_some, hasPre_eq, ← hasP_eq ha]
  unfold pHasP
  cases a.Queue == v.path <;> cases (v.path ++ [46]).isPrefixOf a.Queue <;> cases v.user == (-1) <;> rfl
theorem owner_eq {v : View} (h : v.s.Apps.length ≤ 100000) (c : Cont) : qtree_view_owner v c = some ((appAt v.s c.App).elim (noA, false) fun x => (x, true)) := by
  unfold qtree_view_owner
  have e := loop_find (fun i => (noA, i)) v.s.Apps (fun x => x.Id == c.App) (fun x => (.inl (x, true) : (App × Bool) ⊕ App)) (.inr noA) (step := qtree_view_owner_l1 v c) (by omega) ?_ ?_ ?_
  · unfold noA at e
    rw [e]
    unfold appAt noA
    cases v.s.Apps.find? fun x => x.Id == c.App <;> rfl
  · intro k hk hf
    unfold qtree_view_owner_l1
    rw [dlt_t hk, idx_at hk]
    simp only [cond_true, Option.bind_some, hf, cond_false]
  · intro k hk hf
    unfold qtree_view_owner_l1
    rw [dlt_t hk, idx_at hk]
    simp only [cond_true, Option.bind_some, hf]
  · unfold qtree_view_owner_l1
    rw [dlt_f]
    rfl
/-- the sizes of what is there, of its label, of its queue, its user's -/
theorem qused_eq {N : Nat} {s : State} (h : Inv N s) {path : Str} (hp : path.length ≤ 1000000) (label user : Int) : qtree_view_used ⟨s, path, label, user⟩ = some (pUsed s path label (user == (-1)) user) := by
  have hcl := h.cl
  have hal := h.al
  unfold qtree_view_used
  rw [loop_vsum (fun v i => (v, i)) s.Conts (pHas s path label (user == (-1)) user) (·.Size) (step := qtree_view_used_l1 ⟨s, path, label, user⟩) (by omega) (fun c hc _ => ((h.sb.cs c hc).mono (by omega))) ?_ ?_]
  · rfl
  · intro k hk v hv
    unfold qtree_view_used_l1
    dsimp only
    rw [dlt_t hk]
    simp only [idx_at hk, cond_true, Option.bind_some]
    rw [owner_eq (by dsimp only; omega), Option.bind_some, Add_eq hv (h.sb.cs _ (List.getElem_mem hk)) (by omega)]
    unfold pHas
    dsimp only
    cases ha : appAt s s.Conts[k].App with
    | none => simp
    | some a =>
      simp only [Option.elim_some, Option.bind_some, cond_true]
      rw [has_eq (by dsimp only; omega) (h.ak a (find_id2 (id := fun x : App => x.Id) ha).1).path]
      dsimp only
      rcases Bool.eq_false_or_eq_true (pBelow a.Queue path) with hb | hb <;> simp only [hb] <;> cases s.Conts[k].Label == label <;> cases user == (-1) <;> cases a.User == user <;> rfl
  · intro v
    unfold qtree_view_used_l1
    dsimp only
    rw [dlt_f]
    rfl
theorem pUsed_all (s : State) (path : Str) (label u w : Int) : pUsed s path label true u = pUsed s path label true w := by
  have : pHas s path label true u = pHas s path label true w := by
    funext c
    unfold pHas
    cases appAt s c.App <;> simp
  unfold pUsed
  rw [this]
theorem qUsed_eq {N : Nat} {s : State} (h : Inv N s) {path : Str} (hp : path.length ≤ 1000000) (label : Int) : qtree_Used s path label = some (pUsed s path label true 0) := by
  unfold qtree_Used
  have := qused_eq h hp label (-1)
  rw [show ((-1 : Int) == -1) = true from rfl, pUsed_all s path label (-1) 0] at this
  rw [this]
  rfl
theorem qUser_eq {N : Nat} {s : State} (h : Inv N s) {path : Str} (hp : path.length ≤ 1000000) (label : Int) {user : Int} (hu : 0 ≤ user) : qtree_UserUsed s path label user = some (pUsed s path label false user) := by
  unfold qtree_UserUsed
  have hb : (user == -1) = false := by simp only [beq_eq_false_iff_ne]; omega
  have := qused_eq h hp label user
  rw [hb] at this
  rw [hb, cond_false, this]
  rfl
theorem rfits_eq (a b : Vec) : rvec_Fits a b = some (vfits a b) := by
  unfold rvec_Fits vfits
  cases decide (a.Mem ≤ b.Mem) <;> rfl
theorem root_all {s : State} (h : SC s) {k : Int} (h0 : 0 ≤ k) (h1 : k < s.Conf.Labels.length) (least : Bool) : pDown s root k least = pTotal s k := by
  unfold pDown
  rw [if_pos ⟨root_found h.c, h0, h1⟩]
  rfl
theorem qRoom_eq {N : Nat} {s : State} (h : Inv N s) {path : Str} (hp : path.length ≤ 1000000) {label : Int} (h0 : 0 ≤ label) (h1 : label < s.Conf.Labels.length) {size : Vec} (hs : VB 1073741824 size) : qtree_Room s path label size = some (pRoom s path label size) := by
  have hl := pUp_len path
  have hcl := h.cl
  have hnl := h.nl
  have hpl := h.pl
  have sc := h.sc
  unfold qtree_Room
  rw [rUp_eq hp, Option.bind_some]
  have st : ∀ k (hk : k < (pUp path).length), qtree_Room_l1 s label size (pUp path) (k : Int) = some (bif pRoom1 s label size (pUp path)[k] then .inl (w64 ((k : Int) + 1)) else .inr (.inl false)) := by
    intro k hk
    unfold qtree_Room_l1 pRoom1
    rw [dlt_t hk, inb_at hk]
    simp only [cond_true, Option.bind_some, List.getElem?_eq_getElem hk]
    have hx : (pUp path)[k].length ≤ 1000000 := by have := up_short (List.getElem_mem hk); omega
    rw [qUsed_eq h hx, Option.bind_some, Add_eq (used_bd sc.b _ label true 0) hs (by omega), Option.bind_some]
    simp only [show ((0 : Int) != 0) = false from rfl, cond_false]
    rw [sMost_eq sc hx h0 h1, Option.bind_some, rfits_eq, Option.bind_some, Option.bind_some]
    have hT := total_bd sc.b label
    have hK := kept_bd sc.b label
    have e1 : (⟨imax (w64 ((pTotal s label).Mem - (pKept s label).Mem)) 0, imax (w64 ((pTotal s label).Cores - (pKept s label).Cores)) 0⟩ : Vec) = vless (pTotal s label) (pKept s label) := by
      unfold VB at hT hK
      unfold vless
      rw [w64_id (by omega) (by omega), w64_id (by omega) (by omega)]
    cases hb : vfits (vplus (pUsed s (pUp path)[k] label true 0) size) (pDown s (pUp path)[k] label false) with
    | false => rfl
    | true =>
      simp only [Bool.not_true, cond_false, Bool.true_and]
      rw [sTotal_eq sc, sKept_eq sc (by omega)]
      simp only [Option.bind_some]
      rw [e1]
      by_cases hr : (pUp path)[k] = root
      · have hm : (vless (pTotal s label) (pKept s label)).Mem = imax (w64 ((pTotal s label).Mem - (pKept s label).Mem)) 0 := by rw [← e1]
        have hc : (vless (pTotal s label) (pKept s label)).Cores = imax (w64 ((pTotal s label).Cores - (pKept s label).Cores)) 0 := by rw [← e1]
        rw [← hm, ← hc]
        rw [hr, root_all sc h0 h1] at hb
        rw [hr]
        generalize vless (pTotal s label) (pKept s label) = F
        generalize vplus (pUsed s root label true 0) size = V at hb ⊢
        generalize pTotal s label = T at hb ⊢
        simp only [show ((root : Str) == [114, 111, 111, 116]) = true from rfl, cond_true, Bool.not_true, Bool.false_or]
        cases hq : (F.Mem == T.Mem) && (F.Cores == T.Cores) with
        | true =>
          have : F = T := by
            rw [Bool.and_eq_true, beq_iff_eq, beq_iff_eq] at hq
            cases F; cases T; simp at hq; simp [hq]
          rw [this, hb]
          rfl
        | false =>
          simp only [Bool.not_false, cond_true, rfits_eq, Option.bind_some]
          cases vfits V F <;> rfl
      · have : ((pUp path)[k] == ([114, 111, 111, 116] : Str)) = false := by simpa using hr
        simp only [this, cond_false, Option.bind_some, Bool.not_false, Bool.true_or, cond_true]
  have e := loop_find (fun i => i) (pUp path) (fun x => !(pRoom1 s label size x)) (fun q => (.inl false : Bool ⊕ Unit)) (.inr ()) (step := qtree_Room_l1 s label size (pUp path)) (by omega) ?_ ?_ ?_
  · rw [e]
    unfold pRoom
    rw [← all_find]
    cases (pUp path).find? fun x => !(pRoom1 s label size x) <;> rfl
  · intro k hk hf
    rw [st k hk]
    simp only [Bool.not_eq_false'] at hf
    rw [hf]; rfl
  · intro k hk hf
    rw [st k hk]
    simp only [Bool.not_eq_true'] at hf
    rw [hf]; rfl
  · unfold qtree_Room_l1
    rw [dlt_f]
    rfl
theorem script_law {x : Script} {m : State → Option Bool} (h : ∀ s, Inv 400000 s → m s = some true) : ((dispatchlaw7_Script_Few x).bind fun x2 => bif ! x2 then some true else (dispatchlaw7_Script_State x).bind m) = some true := by
  rw [few_eq]
  by_cases h1 : x.Ns.length ≤ 30
  · by_cases h2 : x.Acts.length ≤ 80
    · rw [decide_eq_true h1, decide_eq_true h2]
      obtain ⟨s, e, hs⟩ := State_gv x h1 h2
      simp only [Bool.and_self, Bool.not_true, cond_false, Option.bind_some]
      rw [e, Option.bind_some]
      exact h s hs
    · rw [decide_eq_false h2, Bool.and_false]
      rfl
  · rw [decide_eq_false h1]
    rfl
/-- the law's first state with one node -/
def oneS : State := ⟨⟨newS.Conf.Labels, newS.Conf.Queues⟩, [⟨0, 0, 0, ⟨8, 4⟩, 0, 0, true⟩], newS.Apps, newS.Conts, newS.Slots, newS.Plans, newS.Now, newS.Epoch, newS.Seq⟩
theorem oneS_inv : Inv 0 oneS := by
  have h := newS_inv
  refine ⟨h.cf, by decide, List.pairwise_singleton _ _, ?_, h.al, h.asr, h.ak, h.cl, h.cs, fun c hc => (List.not_mem_nil hc).elim, h.ss, fun x hx => (List.not_mem_nil hx).elim, h.pl, h.ps, h.pk, h.now, h.ep, h.sq⟩
  intro n hn
  rcases List.mem_singleton.1 hn with rfl
  exact ⟨by decide, by decide, by decide⟩
theorem known11_eq : dispatchlaw11_known = some true := by
  have hr : ([114, 111, 111, 116] : List UInt8).length ≤ 1000000 := by decide
  have hl : (0 : Int) < oneS.Conf.Labels.length := by decide
  unfold dispatchlaw11_known
  rw [New_eq, Option.bind_some]
  show ((qtree_Used oneS [114, 111, 111, 116] 0).bind _) = _
  rw [qUsed_eq oneS_inv hr, Option.bind_some, show pUsed oneS [114, 111, 111, 116] 0 true 0 = ⟨0, 0⟩ by kernel_rfl]
  show ((qtree_Room oneS [114, 111, 111, 116] 0 ⟨8, 4⟩).bind fun x2 => bif x2 then ((qtree_Room oneS [114, 111, 111, 116] 0 ⟨9, 0⟩).bind fun x3 => some (! x3)) else some false) = _
  rw [qRoom_eq oneS_inv hr (by omega) hl (by decide), qRoom_eq oneS_inv hr (by omega) hl (by decide), show pRoom oneS [114, 111, 111, 116] 0 ⟨8, 4⟩ = true by kernel_rfl, show pRoom oneS [114, 111, 111, 116] 0 ⟨9, 0⟩ = false by kernel_rfl]
  rfl
theorem below_root {q : Str} (h : PathOk q) : pBelow q root = true := by
  rw [← hasP_eq h]
  unfold pHasP
  rw [Bool.or_eq_true, beq_iff_eq, List.isPrefixOf_iff_prefix]
  exact h.root
theorem all_eq (least most : Int) {l : List Int} (hl : l.length ≤ 1000) : asks_all least most l = some (l.all fun n => decide (least ≤ n) && decide (n ≤ most)) := by
  unfold asks_all slices_ContainsFunc___int_int_ slices_IndexFunc___int_int_
  have e := loop_findI (fun i => i) l (fun n => !(decide (least ≤ n) && decide (n ≤ most))) (fun i => (.inl i : Int ⊕ Unit)) (.inr ()) (step := slices_IndexFunc___int_int__l1 l fun a' => asks_all_1 a'.1 least most) (by omega) ?_ ?_ ?_
  · rw [← all_find l]
    rcases e with ⟨k, hk, e1, e2⟩ | ⟨e1, e2⟩
    · rw [e1, e2]
      simp only [Option.bind_some, Option.isNone_some]
      rw [decide_eq_true (show (k : Int) ≥ 0 by omega)]
      rfl
    · rw [e1, e2]
      rfl
  · intro k hk hf
    unfold slices_IndexFunc___int_int__l1 asks_all_1
    rw [dlt_t hk, idx_at hk]
    simp only [cond_true, Option.bind_some]
    simp only [Bool.not_eq_false', Bool.and_eq_true, decide_eq_true_eq] at hf
    rw [decide_eq_false (show ¬ l[k] < least by omega), decide_eq_false (show ¬ l[k] > most by omega)]
    rfl
  · intro k hk hf
    unfold slices_IndexFunc___int_int__l1 asks_all_1
    rw [dlt_t hk, idx_at hk]
    simp only [cond_true, Option.bind_some]
    simp only [Bool.not_eq_true', Bool.and_eq_false_iff, decide_eq_false_iff_not] at hf
    by_cases h1 : l[k] < least
    · rw [decide_eq_true h1]; rfl
    · rw [decide_eq_false h1, decide_eq_true (show l[k] > most by omega)]; rfl
  · unfold slices_IndexFunc___int_int__l1
    rw [dlt_f]
    rfl
theorem pend_eq {c : Conf} {l : List Ask} (hl : l.length ≤ 100) (h : ∀ x ∈ l, AskOk c x) (label : Int) : asks_Pending l label = some (pPend9 l label) := by
  unfold asks_Pending
  rw [loop_vsum (fun v i => (v, i)) l (fun x => x.Label == label) vtimes (step := asks_Pending_l1 l label) (by omega) (fun x hx _ => (vtimes_bd (h x hx)).1.mono (by omega)) ?_ ?_]
  · rfl
  · intro k hk v hv
    have hx := h _ (List.getElem_mem hk)
    obtain ⟨t1, t2, t3⟩ := vtimes_bd hx
    have hs := hx.size
    have hc := hx.count
    unfold SzOk at hs
    unfold asks_Pending_l1
    dsimp only
    rw [dlt_t hk, cond_true, idx_at hk]
    simp only [Option.bind_some, t2, t3]
    rw [all_eq _ _ (by simp), all_eq _ _ (by simp)]
    have e1 : ([l[k].Size.Mem, l[k].Size.Cores].all fun n => decide (0 ≤ n) && decide (n ≤ 1125899906842624)) = true := by
      simp; omega
    have e2 : ([l[k].Count].all fun n => decide (0 ≤ n) && decide (n ≤ 50)) = true := by
      simp; omega
    rw [e1, e2]
    have hp := vplus_bd hv t1
    have e : (⟨w64 (v.Mem + l[k].Size.Mem * l[k].Count), w64 (v.Cores + l[k].Size.Cores * l[k].Count)⟩ : Vec) = vplus v (vtimes l[k]) := by
      unfold VB vplus vtimes at hp
      dsimp only at hp
      rw [w64_id (by omega) (by omega), w64_id (by omega) (by omega)]
      rfl
    rw [e]
    cases l[k].Label == label <;> rfl
  · intro v
    unfold asks_Pending_l1
    rw [dlt_f]
    rfl
theorem qPending_eq {N : Nat} {s : State} (h : Inv N s) {path : Str} (hp : path.length ≤ 1000000) (label : Int) : qtree_Pending s path label = some (pPending s path label) := by
  have hal := h.al
  unfold qtree_Pending qtree_view_pending
  rw [loop_vsum (fun v i => (v, i)) s.Apps (fun a => pLive a && pBelow a.Queue path) (fun a => pPend9 a.Asks label) (by omega) (fun a ha _ => (pend9_bd (h.ak a ha).al (h.ak a ha).ask label).mono (by omega)) ?_ ?_]
  · rfl
  · intro k hk v hv
    have hak := h.ak _ (List.getElem_mem hk)
    unfold qtree_view_pending_l1
    dsimp only
    rw [dlt_t hk, cond_true]
    simp only [idx_at hk, Option.bind_some]
    rw [has_eq (by dsimp only; omega) hak.path, pend_eq (by have := hak.al; omega) hak.ask, Option.bind_some, Option.bind_some, Add_eq hv (pend9_bd hak.al hak.ask label) (by omega)]
    unfold apps_Live pLive
    cases s.Apps[k].State == 1 <;> cases s.Apps[k].State == 2 <;> rcases Bool.eq_false_or_eq_true (pBelow s.Apps[k].Queue path) with hb | hb <;> simp only [hb] <;> rfl
  · intro v
    unfold qtree_view_pending_l1
    dsimp only
    rw [dlt_f]
    rfl
theorem bl_irrefl : ∀ a : Str, Op.bytesLess a a = false
  | [] => rfl
  | x :: a => by
    unfold Op.bytesLess
    rw [bl_irrefl a]
    have : ¬ x < x := by rw [UInt8.lt_iff_toNat_lt]; omega
    simp [this]
theorem bl_trans : ∀ {a b c : Str}, Op.bytesLess a b = true → Op.bytesLess b c = true → Op.bytesLess a c = true
  | _, [], _, h, _ => by simp [Op.bytesLess] at h
  | _, _ :: _, [], _, h => by simp [Op.bytesLess] at h
  | [], y :: b, z :: c, _, _ => by simp [Op.bytesLess]
  | x :: a, y :: b, z :: c, h1, h2 => by
    unfold Op.bytesLess at *
    simp only [Bool.or_eq_true, decide_eq_true_eq, Bool.and_eq_true, beq_iff_eq] at *
    simp only [UInt8.lt_iff_toNat_lt] at *
    rcases h1 with h1 | ⟨rfl, h1⟩
    · rcases h2 with h2 | ⟨rfl, h2⟩
      · left; omega
      · left; exact h1
    · rcases h2 with h2 | ⟨rfl, h2⟩
      · left; exact h2
      · right; exact ⟨rfl, bl_trans h1 h2⟩
theorem bl_tri : ∀ {a b : Str}, Op.bytesLess a b = false → a ≠ b → Op.bytesLess b a = true
  | [], [], _, h => absurd rfl h
  | [], _ :: _, h, _ => by simp [Op.bytesLess] at h
  | _ :: _, [], _, _ => by simp [Op.bytesLess]
  | x :: a, y :: b, h, hn => by
    unfold Op.bytesLess at *
    simp only [Bool.or_eq_false_iff, decide_eq_false_iff_not, Bool.and_eq_false_iff, beq_eq_false_iff_ne, Bool.or_eq_true, decide_eq_true_eq, Bool.and_eq_true, beq_iff_eq] at *
    simp only [UInt8.lt_iff_toNat_lt] at *
    by_cases hx : x = y
    · subst hx
      right
      refine ⟨rfl, bl_tri ?_ (fun e => hn (by rw [e]))⟩
      rcases h.2 with h | h
      · exact absurd rfl h
      · exact h
    · left
      have : x.toNat ≠ y.toNat := fun e => hx (UInt8.toNat_inj.1 e)
      omega
theorem paths_rise {c : Conf} (h : ConfOk c) : (c.Queues.map (·.Path)).Pairwise fun x y => Op.bytesLess x y = true := by
  have hn : ∀ j (hj : j + 1 < c.Queues.length), Op.bytesLess c.Queues[j].Path c.Queues[j + 1].Path = true := by
    intro j hj
    have := (h.q (j + 1) hj).less c.Queues[j] (by omega) (by simp)
    unfold strLe at this
    rw [Bool.or_eq_false_iff, beq_eq_false_iff_ne] at this
    exact bl_tri this.1 this.2
  have key : ∀ j i (hij : i < j) (hj : j < c.Queues.length), Op.bytesLess (c.Queues[i]'(by omega)).Path c.Queues[j].Path = true := by
    intro j
    induction j with
    | zero => intro i hij; omega
    | succ j ih =>
      intro i hij hj
      by_cases he : i = j
      · subst he; exact hn i hj
      · exact bl_trans (ih i (by omega) (by omega)) (hn j hj)
  rw [List.pairwise_iff_getElem]
  intro i j hi hj hij
  rw [List.getElem_map, List.getElem_map]
  exact key j i hij (by simpa using hj)
theorem paths_nodup {c : Conf} (h : ConfOk c) : (c.Queues.map (·.Path)).Nodup :=
  (paths_rise h).imp fun hab e => by rw [e, bl_irrefl] at hab; cases hab
theorem kids_nodup {c : Conf} (h : ConfOk c) (p : Str) : (pKids c p).Nodup := by
  unfold pKids
  split
  · exact List.nodup_nil
  · exact (List.filter_sublist.map _).nodup (paths_nodup h)
theorem up_uniq : ∀ (n : Nat) {q x y : Str}, q.length ≤ n → x ∈ pUp q → y ∈ pUp q → pAbove x = pAbove y → x = y
  | n, q, x, y, hn, hx, hy, he => by
    by_cases hq : q = []
    · subst hq; rw [pUp_nil] at hx; cases hx
    · have hl := pAbove_len hq
      have short : ∀ z ∈ pUp (pAbove q), (pAbove z).length < (pAbove q).length := by
        intro z hz
        have h1 := up_short hz
        by_cases hz0 : z = []
        · subst hz0
          have h2 : pAbove q ≠ [] := by
            intro e
            rw [e, pUp_nil] at hz
            cases hz
          exact List.length_pos_iff.2 h2
        · have := pAbove_len hz0
          omega
      rw [pUp_cons hq] at hx hy
      rcases List.mem_cons.1 hx with hx | hx <;> rcases List.mem_cons.1 hy with hy | hy
      · rw [hx, hy]
      · subst hx
        have := short _ hy
        rw [← he] at this
        omega
      · subst hy
        have := short _ hx
        rw [he] at this
        omega
      · match n with
        | 0 => omega
        | n + 1 => exact up_uniq n (by omega) hx hy he
theorem up_pred : ∀ (n : Nat) {q p : Str}, q.length ≤ n → p ∈ pUp q → p ≠ q → ∃ x ∈ pUp q, pAbove x = p
  | n, q, p, hn, hp, hne => by
    by_cases hq : q = []
    · subst hq; rw [pUp_nil] at hp; cases hp
    · have hl := pAbove_len hq
      rw [pUp_cons hq] at hp ⊢
      rcases List.mem_cons.1 hp with hp | hp
      · exact absurd hp hne
      · by_cases he : p = pAbove q
        · exact ⟨q, by simp, he.symm⟩
        · match n with
          | 0 => omega
          | n + 1 =>
            obtain ⟨x, h1, h2⟩ := up_pred n (by omega) hp he
            exact ⟨x, by simp [h1], h2⟩
theorem up_up : ∀ (n : Nat) {q x : Str}, q.length ≤ n → x ∈ pUp q → pAbove x ≠ [] → pAbove x ∈ pUp q
  | n, q, x, hn, hx, hne => by
    by_cases hq : q = []
    · subst hq; rw [pUp_nil] at hx; cases hx
    · have hl := pAbove_len hq
      rw [pUp_cons hq] at hx ⊢
      rcases List.mem_cons.1 hx with hx | hx
      · subst hx
        refine List.mem_cons_of_mem _ ?_
        rw [pUp_cons hne]
        simp
      · match n with
        | 0 => omega
        | n + 1 => exact List.mem_cons_of_mem _ (up_up n (by omega) hx hne)
theorem below_iff {q p : Str} : pBelow q p = true ↔ p ∈ pUp q := by unfold pBelow; exact List.contains_iff_mem
theorem one_or_none {α : Type} {l : List α} (h : l.Nodup) (hu : ∀ x ∈ l, ∀ y ∈ l, x = y) : l.length ≤ 1 := by
  match l, h, hu with
  | [], _, _ => simp
  | [x], _, _ => simp
  | x :: y :: l, h, hu =>
    have := hu x (by simp) y (by simp)
    rw [List.nodup_cons] at h
    exact absurd (by simp [this]) h.1
/-- of a queue's kids one is above what is below it -/
theorem below_kids {c : Conf} (h : ConfOk c) {q p : Str} (hq : pLeaf c q = true) (hp : pKids c p ≠ []) : ((pKids c p).filter fun x => pBelow q x).length = if pBelow q p = true then 1 else 0 := by
  obtain ⟨x0, hx0⟩ := List.exists_mem_of_ne_nil _ hp
  obtain ⟨hpn, _⟩ := kid_of hx0
  unfold pLeaf at hq
  rw [Bool.and_eq_true, List.isEmpty_iff] at hq
  have hle : ((pKids c p).filter fun x => pBelow q x).length ≤ 1 := by
    refine one_or_none ((kids_nodup h p).filter _) ?_
    intro x hx y hy
    obtain ⟨hx1, hx2⟩ := List.mem_filter.1 hx
    obtain ⟨hy1, hy2⟩ := List.mem_filter.1 hy
    exact up_uniq q.length (Nat.le_refl _) (below_iff.1 hx2) (below_iff.1 hy2) (by rw [(kid_of hx1).2.1, (kid_of hy1).2.1])
  split
  · rename_i hb
    have hb := below_iff.1 hb
    have hne : p ≠ q := by
      rintro rfl
      exact hp hq.2
    obtain ⟨x, h1, h2⟩ := up_pred q.length (Nat.le_refl _) hb hne
    have hf := chain_found h q.length q (Nat.le_refl _) hq.1 x h1
    obtain ⟨q', hq'⟩ := Option.isSome_iff_exists.1 hf
    obtain ⟨hm, hpath⟩ := pFind_mem hq'
    have hk : x ∈ pKids c p := by
      unfold pKids
      rw [if_neg hpn]
      refine List.mem_map.2 ⟨q', List.mem_filter.2 ⟨hm, ?_⟩, hpath⟩
      rw [hpath]
      simpa using h2
    have : 0 < ((pKids c p).filter fun x => pBelow q x).length := List.length_pos_of_mem (List.mem_filter.2 ⟨hk, below_iff.2 h1⟩)
    omega
  · rename_i hb
    have : (pKids c p).filter (fun x => pBelow q x) = [] := by
      rw [List.filter_eq_nil_iff]
      intro x hx hbx
      have h1 := (kid_of hx).2.1
      exact hb (below_iff.2 (by rw [← h1]; exact up_up q.length (Nat.le_refl _) (below_iff.1 hbx) (by rw [h1]; exact hpn)))
    rw [this]
    rfl
theorem sum_zero {β : Type} (xs : List β) : (xs.map fun _ => (0 : Int)).sum = 0 := by
  induction xs with
  | nil => rfl
  | cons x xs ih => rw [List.map_cons, List.sum_cons, ih]; rfl
theorem sum_add {β : Type} (xs : List β) (f g : β → Int) : (xs.map fun x => f x + g x).sum = (xs.map f).sum + (xs.map g).sum := by
  induction xs with
  | nil => rfl
  | cons x xs ih => rw [List.map_cons, List.map_cons, List.map_cons, List.sum_cons, List.sum_cons, List.sum_cons, ih]; omega
theorem sum_if {β : Type} (xs : List β) (p : β → Bool) (a : Int) : (xs.map fun x => if p x = true then a else 0).sum = (xs.filter p).length * a := by
  induction xs with
  | nil => simp
  | cons x xs ih =>
    rw [List.map_cons, List.sum_cons, ih, List.filter_cons]
    split
    · rw [List.length_cons, Int.natCast_add, Int.add_mul]
      simp
      omega
    · omega
theorem isum_split {α β : Type} (xs : List β) (p : β → α → Bool) (P : α → Bool) (f : α → Int) : ∀ (l : List α), (∀ c ∈ l, (xs.filter fun x => p x c).length = if P c = true then 1 else 0) → (xs.map fun x => ((l.filter (p x)).map f).sum).sum = ((l.filter P).map f).sum
  | [], _ => sum_zero xs
  | c :: l, h => by
    have ih := isum_split xs p P f l fun c hc => h c (by simp [hc])
    have e : ∀ x, (((c :: l).filter (p x)).map f).sum = (if p x c = true then f c else 0) + ((l.filter (p x)).map f).sum := by
      intro x
      rw [List.filter_cons]
      split <;> simp
    simp only [e]
    rw [sum_add, ih, sum_if xs (fun x => p x c), h c (by simp), List.filter_cons]
    split <;> simp
theorem vsum_split {α β : Type} (xs : List β) (l : List α) (p : β → α → Bool) (P : α → Bool) (v : α → Vec) (h : ∀ c ∈ l, (xs.filter fun x => p x c).length = if P c = true then 1 else 0) :
    vsum (xs.map fun x => vsum ((l.filter (p x)).map v)) = vsum ((l.filter P).map v) := by
  have m := isum_split xs p P (fun c => (v c).Mem) l h
  have c := isum_split xs p P (fun c => (v c).Cores) l h
  unfold vsum
  simp only [List.map_map]
  have e1 : ∀ l : List α, l.map ((fun v : Vec => v.Mem) ∘ v) = l.map fun c => (v c).Mem := fun l => rfl
  have e2 : ∀ l : List α, l.map ((fun v : Vec => v.Cores) ∘ v) = l.map fun c => (v c).Cores := fun l => rfl
  rw [e1, e2, ← m, ← c]
  rfl
/-- whose a container is -/
theorem owner_of {N : Nat} {s : State} (h : Inv N s) {c : Cont} (hc : c ∈ s.Conts) : ∃ a ∈ s.Apps, appAt s c.App = some a ∧ a.State = 2 := by
  obtain ⟨a, ha, e1, e2⟩ := (h.ck c hc).app
  refine ⟨a, ha, ?_, e2⟩
  have := find_id (id := fun x : App => x.Id) h.asr ha
  unfold appAt
  rw [← e1]
  exact this
theorem used_kids {N : Nat} {s : State} (h : Inv N s) {p : Str} (hp : pKids s.Conf p ≠ []) (k : Int) : vsum ((pKids s.Conf p).map fun x => pUsed s x k true 0) = pUsed s p k true 0 := by
  refine vsum_split (pKids s.Conf p) s.Conts (fun x => pHas s x k true 0) (pHas s p k true 0) (·.Size) fun c hc => ?_
  obtain ⟨a, ha, e, e2⟩ := owner_of h hc
  have hb := below_kids h.cf ((h.ak a ha).leaf (.inr e2)) hp
  unfold pHas
  simp only [e, Option.elim_some, Bool.true_or, Bool.and_true]
  cases c.Label == k with
  | false => simp
  | true => simpa using hb
theorem pending_kids {N : Nat} {s : State} (h : Inv N s) {p : Str} (hp : pKids s.Conf p ≠ []) (k : Int) : vsum ((pKids s.Conf p).map fun x => pPending s x k) = pPending s p k := by
  refine vsum_split (pKids s.Conf p) s.Apps (fun x a => pLive a && pBelow a.Queue x) (fun a => pLive a && pBelow a.Queue p) (fun a => pPend9 a.Asks k) fun a ha => ?_
  cases hl : pLive a with
  | false => simp
  | true =>
    have hs : a.State = 1 ∨ a.State = 2 := by unfold pLive at hl; simpa using hl
    have hb := below_kids h.cf ((h.ak a ha).leaf hs) hp
    simpa using hb
theorem used_users {N : Nat} {s : State} (h : Inv N s) (p : Str) (k : Int) : vsum (([0, 1, 2] : List Int).map fun u => pUsed s p k false u) = pUsed s p k true 0 := by
  refine vsum_split ([0, 1, 2] : List Int) s.Conts (fun u => pHas s p k false u) (pHas s p k true 0) (·.Size) fun c hc => ?_
  obtain ⟨a, ha, e, e2⟩ := owner_of h hc
  have hu := (h.ak a ha).user
  unfold pHas
  simp only [e, Option.elim_some, Bool.true_or, Bool.and_true, Bool.false_or]
  cases c.Label == k && pBelow a.Queue p with
  | false => simp
  | true =>
    have : a.User = 0 ∨ a.User = 1 ∨ a.User = 2 := by omega
    rcases this with e | e | e <;> rw [e] <;> rfl
theorem used_root {N : Nat} {s : State} (h : Inv N s) (k : Int) : vsum ((s.Conts.filter fun c => c.Label == k).map (·.Size)) = pUsed s root k true 0 := by
  unfold pUsed
  congr 2
  refine List.filter_congr fun c hc => ?_
  obtain ⟨a, ha, e, e2⟩ := owner_of h hc
  unfold pHas
  simp only [e, Option.elim_some, Bool.true_or, Bool.and_true, below_root (h.ak a ha).path]
theorem kids_len {c : Conf} (h : ConfOk c) (p : Str) : (pKids c p).length ≤ 16 := by
  have hq := h.qs
  unfold pKids
  split
  · simp
  · rw [List.length_map]
    have := List.length_filter_le (fun q : Queue => pAbove q.Path == p) c.Queues
    omega
theorem kid_short {c : Conf} (h : ConfOk c) {p x : Str} (hx : x ∈ pKids c p) : x.length ≤ 51 := by
  obtain ⟨_, _, _, q, hq, rfl⟩ := kid_of hx
  obtain ⟨j, hj, rfl⟩ := List.getElem_of_mem hq
  exact (h.q j hj).path.len
theorem foldl_two {α : Type} (f g : α → Vec) (l : List α) (z : Vec × Vec) : l.foldl (fun t x => (vplus t.1 (f x), vplus t.2 (g x))) z = (vplus z.1 (vsum (l.map f)), vplus z.2 (vsum (l.map g))) := by
  induction l generalizing z with
  | nil => rw [List.map_nil, List.map_nil, vsum_nil, vplus_comm, vplus_zero, vplus_comm, vplus_zero]; rfl
  | cons x l ih => rw [List.foldl_cons, ih, List.map_cons, List.map_cons, vsum_cons, vsum_cons, vplus_assoc, vplus_assoc]
theorem users_loop {N : Nat} {s : State} (hs : Inv N s) (q : Queue) (hlen : q.Path.length ≤ 51) (k : Int) : loop (dispatchlaw11_QtreeSums_l4 s k q) ((⟨0, 0⟩ : Vec), 0) = some (pUsed s q.Path k true 0) := by
  have hcl := hs.cl
  have ub : ∀ p k a u, VB 214748364800 (pUsed s p k a u) := fun p k a u => (used_bd hs.sb p k a u).mono (by omega)
  have st : ∀ (v : Vec) (j : Nat), j < 3 → VB (214748364800 * j) v → dispatchlaw11_QtreeSums_l4 s k q (v, (j : Int)) = some (.inl (vplus v (pUsed s q.Path k false j), ((j + 1 : Nat) : Int))) := by
    intro v j hj hv
    unfold dispatchlaw11_QtreeSums_l4
    dsimp only
    rw [decide_eq_true (by omega), cond_true, qUser_eq hs (by omega) _ (by omega), Option.bind_some, plus_eq (hv.mono (m := 1099511627776000) (by omega)) ((ub _ _ _ _).mono (by omega)) (by omega), Option.bind_some, step_up (by omega)]
  have b0 : VB (214748364800 * ((0 : Nat) : Int)) ⟨0, 0⟩ := by unfold VB; simp
  have b1 := vplus_bd b0 (ub q.Path k false ((0 : Nat) : Int))
  have b2 := vplus_bd b1 (ub q.Path k false ((1 : Nat) : Int))
  have e0 : dispatchlaw11_QtreeSums_l4 s k q ((⟨0, 0⟩ : Vec), 0) = _ := st ⟨0, 0⟩ 0 (by omega) b0
  have e3 : ∀ v, dispatchlaw11_QtreeSums_l4 s k q (v, ((2 + 1 : Nat) : Int)) = some (.inr v) := fun v => rfl
  rw [loop_eq, e0]
  dsimp only
  rw [loop_eq, st _ (0 + 1) (by omega) (b1.mono (by omega))]
  dsimp only
  rw [loop_eq, st _ (0 + 1 + 1) (by omega) (b2.mono (by omega))]
  dsimp only
  rw [loop_eq, e3]
  dsimp only
  rw [← used_users hs, List.map_cons, List.map_cons, List.map_cons, List.map_nil, vsum_cons, vsum_cons, vsum_one, vplus_assoc, vplus_assoc, vplus_zero]
  rfl
theorem plainQtreeSums (a0 : Script) : dispatchlaw11_QtreeSums a0 = some true := by
  unfold dispatchlaw11_QtreeSums
  rw [known11_eq]
  simp only [Option.bind_some, Bool.not_true, cond_false]
  refine script_law fun s hs => ?_
  have sc := hs.sc
  have hq := hs.cf.qs
  have hlab := hs.cf.lab
  have hcl := hs.cl
  have ub : ∀ p k a u, VB 214748364800 (pUsed s p k a u) := fun p k a u => (used_bd sc.b p k a u).mono (by omega)
  rw [loop_ok s.Conf.Labels.length (by omega)]
  · rfl
  · intro k hk
    unfold dispatchlaw11_QtreeSums_l1
    rw [dlt_t hk, cond_true]
    rw [loop_ok s.Conf.Queues.length (by omega)]
    · simp only [Option.bind_some]
      rw [loop_vsum (fun v i => (v, i)) s.Conts (fun c => c.Label == (k : Int)) (·.Size) (step := dispatchlaw11_QtreeSums_l5 s k) (by omega) (fun c hc _ => (sc.b.cs c hc).mono (by omega)) ?_ ?_]
      · rw [Option.bind_some, used_root hs, qUsed_eq hs (by decide), Option.bind_some, vec_beq]
        rfl
      · intro j hj v hv
        unfold dispatchlaw11_QtreeSums_l5
        rw [dlt_t hj]
        simp only [idx_at hj, cond_true, Option.bind_some]
        rw [plus_eq (hv.mono (m := 1099511627776000) (by omega)) ((sc.b.cs _ (List.getElem_mem hj)).mono (by omega)) (by omega)]
        cases s.Conts[j].Label == (k : Int) <;> rfl
      · intro v
        unfold dispatchlaw11_QtreeSums_l5
        rw [dlt_f]
        rfl
    · intro i hi
      have hlen := (hs.cf.q i hi).path.len
      unfold dispatchlaw11_QtreeSums_l2
      rw [dlt_t hi, idx_at hi]
      simp only [cond_true, Option.bind_some]
      rw [kids_eq sc.b.cf, Option.bind_some]
      have hkl := kids_len hs.cf s.Conf.Queues[i].Path
      rw [(loop_fold (σ := Vec × Vec) (fun t i => (t.1, t.2, i)) (pKids s.Conf s.Conf.Queues[i].Path) (fun t x => (vplus t.1 (pUsed s x k true 0), vplus t.2 (pPending s x k))) (fun j t => VB (1099511627776 * j) t.1 ∧ VB (8796093022208 * j) t.2) (fun t => t) (step := dispatchlaw11_QtreeSums_l3 s k (pKids s.Conf s.Conf.Queues[i].Path)) (by omega) ?_ ?_ (s := (⟨0, 0⟩, ⟨0, 0⟩)) (by unfold VB; simp)).1]
      · rw [Option.bind_some, foldl_two, vplus_zero, vplus_zero]
        rw [users_loop hs _ (by omega), qUsed_eq hs (by omega), qPending_eq hs (by omega)]
        simp only [Option.bind_some]
        rw [vec_beq, Bool.not_true]
        simp only [cond_false]
        by_cases hne : pKids s.Conf s.Conf.Queues[i].Path = []
        · rw [hne]; rfl
        · have hpos : 0 < (pKids s.Conf s.Conf.Queues[i].Path).length := List.length_pos_iff.2 hne
          rw [decide_eq_true (by omega), used_kids hs hne, pending_kids hs hne, vec_beq, vec_beq]
          rfl
      · rintro j hj ⟨t1, t2⟩ ⟨h1, h2⟩
        dsimp only at h1 h2
        have hx := kid_short hs.cf (List.getElem_mem hj)
        refine ⟨?_, (vplus_bd h1 (ub _ _ _ _)).mono (by omega), (vplus_bd h2 (pending_bd hs _ _)).mono (by omega)⟩
        unfold dispatchlaw11_QtreeSums_l3
        dsimp only
        rw [dlt_t hj, inb_at hj]
        simp only [cond_true, Option.bind_some, List.getElem?_eq_getElem hj]
        rw [qUsed_eq hs (by omega), Option.bind_some, plus_eq (h1.mono (m := 1099511627776000) (by omega)) ((ub _ _ _ _).mono (by omega)) (by omega), Option.bind_some, qPending_eq hs (by omega), Option.bind_some, plus_eq (h2.mono (m := 1099511627776000) (by omega)) ((pending_bd hs _ _).mono (by omega)) (by omega), Option.bind_some]
      · rintro ⟨t1, t2⟩ _
        unfold dispatchlaw11_QtreeSums_l3
        dsimp only
        rw [dlt_f]
        rfl
    · unfold dispatchlaw11_QtreeSums_l2
      rw [dlt_f]
      rfl
  · unfold dispatchlaw11_QtreeSums_l1
    rw [dlt_f]
    rfl
end Go.Fx.D
