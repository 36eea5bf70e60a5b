/-
  The law over plain data: true at all inputs. Conditions: none.
-/
import Derived.Test.YtkfeeenaelcalaaGreatS18
import Derived.Lib.Mul64
import Derived.WalkKit
namespace Go.Fx.D
open Go Go.Fx
set_option linter.unusedVariables false
set_option linter.unusedSimpArgs false

theorem rgood_eq (a : Vec) : rvec_vec_good a = some (decide (VB 1125899906842624 a)) := by
  unfold rvec_vec_good
  have e : decide (VB 1125899906842624 a) = ((decide (a.Mem ≥ 0) && decide (a.Mem ≤ 1125899906842624)) && (decide (a.Cores ≥ 0) && decide (a.Cores ≤ 1125899906842624))) := by
    rw [Bool.eq_iff_iff, decide_eq_true_iff]
    simp only [Bool.and_eq_true, decide_eq_true_eq, VB, ge_iff_le]
  rw [e]
  cases decide (a.Mem ≥ 0) <;> cases decide (a.Mem ≤ 1125899906842624) <;> cases decide (a.Cores ≥ 0) <;> cases decide (a.Cores ≤ 1125899906842624) <;> rfl
theorem rover_eq {a : Vec} (h : VB 1125899906842624 a) : rvec_over a = some (a, 0) := by
  unfold rvec_over
  rw [rgood_eq, decide_eq_true h]
  rfl
theorem Add_eq {a b : Vec} {n m : Int} (ha : VB n a) (hb : VB m b) (h : n + m ≤ 1125899906842624) : rvec_Add a b = some (vplus a b, 0) := by
  have hn : 0 ≤ n ∧ 0 ≤ m := by unfold VB at ha hb; omega
  have hs := vplus_bd ha hb
  unfold rvec_Add
  rw [rgood_eq, rgood_eq, decide_eq_true (ha.mono (by omega)), decide_eq_true (hb.mono (by omega))]
  simp only [Option.bind_some, Bool.not_true, cond_false]
  have e : (⟨w64 (a.Mem + b.Mem), w64 (a.Cores + b.Cores)⟩ : Vec) = vplus a b := by
    unfold VB vplus at hs
    dsimp only at hs
    rw [w64_id (by omega) (by omega), w64_id (by omega) (by omega)]
    rfl
  rw [e, rover_eq (hs.mono h)]
  rfl
theorem vplus_comm (a b : Vec) : vplus a b = vplus b a := by unfold vplus; congr 1 <;> omega
theorem vplus_assoc (a b c : Vec) : vplus (vplus a b) c = vplus a (vplus b c) := by unfold vplus; dsimp only; congr 1 <;> omega
theorem vplus_zero (a : Vec) : vplus ⟨0, 0⟩ a = a := by cases a; simp [vplus]
theorem foldl_vplus (l : List Vec) (z : Vec) : l.foldl vplus z = vplus z (vsum l) := by
  induction l generalizing z with
  | nil => rw [vsum_nil, vplus_comm, vplus_zero]; rfl
  | cons x l ih => rw [List.foldl_cons, ih, vsum_cons, vplus_assoc]
theorem sum_eq {l : List Vec} (hl : l.length ≤ 1000) (h : ∀ v ∈ l, VB 1099511627776 v) : share_sum l = some (vsum l) := by
  unfold share_sum
  rw [(loop_fold (fun v i => (v, i)) l vplus (fun k v => VB (1099511627776 * k) v) (fun v => v) (step := share_sum_l1 l) (by omega) ?_ ?_ (s := (⟨0, 0⟩ : Vec)) (by simp [VB])).1]
  · rw [foldl_vplus, vplus_zero]; rfl
  · intro k hk s hs
    have hb := h _ (List.getElem_mem hk)
    refine ⟨?_, (vplus_bd hs hb).mono (by omega)⟩
    unfold share_sum_l1
    rw [dlt_t hk, idx_at hk]
    simp only [cond_true, Option.bind_some]
    rw [Add_eq hs hb (by omega)]
    rfl
  · intro s _
    unfold share_sum_l1
    rw [dlt_f]
    rfl
theorem u64w (x : Int) : IntKind.u64.wrap x = x % 18446744073709551616 := by rw [IntKind.wrap_u64]
theorem u64id {x : Int} (h : 0 ≤ x) (h2 : x < 18446744073709551616) : IntKind.u64.wrap x = x := by rw [u64w]; omega
theorem shr32 (x : Int) : shrK .u64 x 32 = x / 4294967296 := by
  show x.fdiv (2 ^ min (32 : Int).toNat IntKind.u64.bits) = _
  rw [show (2 ^ min (32 : Int).toNat IntKind.u64.bits : Int) = 4294967296 from by decide, Int.fdiv_eq_ediv_of_nonneg _ (by decide)]
theorem andN (a b : Nat) (ha : a < 18446744073709551616) (hb : b < 18446744073709551616) : andK .u64 (a : Int) (b : Int) = ((a &&& b : Nat) : Int) := by
  show IntKind.u64.wrap ((BitVec.ofInt 64 (a : Int) &&& BitVec.ofInt 64 (b : Int)).toNat) = _
  have e : ((BitVec.ofInt 64 (a : Int) &&& BitVec.ofInt 64 (b : Int)).toNat) = a &&& b := by
    rw [BitVec.toNat_and, BitVec.toNat_ofInt, BitVec.toNat_ofInt]
    congr 1 <;> omega
  rw [e]
  have : a &&& b ≤ a := Nat.and_le_left
  exact u64id (by omega) (by omega)
theorem and32 (a : Nat) (ha : a < 18446744073709551616) : andK .u64 (a : Int) 4294967295 = ((a % 4294967296 : Nat) : Int) := by
  have := andN a 4294967295 ha (by omega)
  rw [show ((4294967295 : Nat) : Int) = 4294967295 from rfl] at this
  rw [this, show (4294967295 : Nat) = 2 ^ 32 - 1 from rfl, Nat.and_two_pow_sub_one_eq_mod]
theorem mul64_eq (x y : Nat) (hx : x < 18446744073709551616) (hy : y < 18446744073709551616) :
    bits_Mul64 (x : Int) (y : Int) = some (((x * y / 18446744073709551616 : Nat) : Int), ((x * y % 18446744073709551616 : Nat) : Int)) := by
  obtain ⟨h1, h2, h3, h4⟩ := Lib.mul64_hi x y hx hy
  have a1 := Lib.half_mul_le (a := x / 4294967296) (b := y / 4294967296) (by omega) (by omega)
  have a2 := Lib.half_mul_le (a := x / 4294967296) (b := y % 4294967296) (by omega) (by omega)
  have a3 := Lib.half_mul_le (a := x % 4294967296) (b := y / 4294967296) (by omega) (by omega)
  have a4 := Lib.half_mul_le (a := x % 4294967296) (b := y % 4294967296) (by omega) (by omega)
  have w : ∀ a : Nat, a < 18446744073709551616 → IntKind.u64.wrap (a : Int) = (a : Int) := fun a ha => u64id (by omega) (by omega)
  have d : ∀ a : Nat, (a : Int) / 4294967296 = ((a / 4294967296 : Nat) : Int) := fun a => by omega
  have m : ∀ a b : Nat, (a : Int) * (b : Int) = ((a * b : Nat) : Int) := fun a b => (Int.natCast_mul a b).symm
  have p : ∀ a b : Nat, (a : Int) + (b : Int) = ((a + b : Nat) : Int) := fun a b => (Int.natCast_add a b).symm
  unfold bits_Mul64
  simp only [shr32, d]
  rw [and32 y hy, and32 x hx]
  simp only [m, p]
  rw [w _ (Nat.lt_of_le_of_lt a1 (by omega)), w _ (Nat.lt_of_le_of_lt a2 (by omega)), w _ (Nat.lt_of_le_of_lt a3 (by omega)), w _ (Nat.lt_of_le_of_lt a4 (by omega))]
  simp only [d, p]
  rw [w _ h2]
  simp only [d, p]
  rw [and32 _ h2]
  simp only [p]
  rw [w _ h3]
  simp only [d]
  have hq : x * y / 18446744073709551616 < 18446744073709551616 := by
    have : x * y < 18446744073709551616 * 18446744073709551616 := Nat.mul_lt_mul_of_lt_of_lt hx hy
    omega
  have hs : x / 4294967296 * (y / 4294967296) + (x / 4294967296 * (y % 4294967296) + x % 4294967296 * (y % 4294967296) / 4294967296) / 4294967296 < 18446744073709551616 := by omega
  rw [w _ hs]
  simp only [p]
  rw [h4, w _ hq, u64w]
  simp
theorem part_eq {n bp : Int} (h0 : 0 ≤ n) (h1 : n ≤ 1099511627776) (b0 : 0 ≤ bp) (b1 : bp ≤ 1000000) : rvec_part n bp = some (n * bp / 10000) ∧ 0 ≤ n * bp / 10000 ∧ n * bp / 10000 ≤ 109951162777600 := by
  obtain ⟨a, rfl⟩ := Int.eq_ofNat_of_zero_le h0
  obtain ⟨b, rfl⟩ := Int.eq_ofNat_of_zero_le b0
  have m3 := mul_bd h0 h1 b0 b1
  have hm : (a : Int) * (b : Int) = ((a * b : Nat) : Int) := (Int.natCast_mul a b).symm
  rw [hm] at m3 ⊢
  refine ⟨?_, by omega, by omega⟩
  unfold rvec_part
  rw [u64id (by omega) (by omega), u64id (by omega) (by omega), mul64_eq _ _ (by omega) (by omega)]
  generalize a * b = c at m3 ⊢
  have e1 : c / 18446744073709551616 = 0 := by omega
  have e2 : c % 18446744073709551616 = c := by omega
  rw [e1, e2]
  simp only [Option.bind_some]
  unfold bits_Div64
  have n0 : nz 10000 = some () := rfl
  have c1 : ((10000 : Int) == 0) = false := rfl
  have c2 : decide ((10000 : Int) ≤ ((0 : Nat) : Int)) = false := rfl
  have c3 : (((0 : Nat) : Int) == 0) = true := rfl
  simp only [c1, c2, c3, n0, cond_true, cond_false, Option.bind_some]
  rw [Int.tdiv_eq_ediv_of_nonneg (by omega), u64id (by omega) (by omega), w64_id (by omega) (by omega)]
theorem rScale_eq {a : Vec} {bp : Int} (ha : VB 1099511627776 a) (b0 : 0 ≤ bp) (b1 : bp ≤ 1000000) : rvec_Scale a bp = some (vscale a bp, 0) := by
  have ha' := ha
  unfold VB at ha'
  obtain ⟨e1, p1, p2⟩ := part_eq ha'.1.1 ha'.1.2 b0 b1
  obtain ⟨e2, p3, p4⟩ := part_eq ha'.2.1 ha'.2.2 b0 b1
  have hv : VB 109951162777600 (vscale a bp) := ⟨⟨p1, p2⟩, p3, p4⟩
  unfold rvec_Scale
  rw [rgood_eq, decide_eq_true (ha.mono (by omega))]
  simp only [Option.bind_some, Bool.not_true, cond_false]
  rw [decide_eq_false (by omega), decide_eq_false (by omega)]
  simp only [Option.bind_some, cond_false]
  rw [e1, e2]
  simp only [Option.bind_some]
  have : (⟨a.Mem * bp / 10000, a.Cores * bp / 10000⟩ : Vec) = vscale a bp := rfl
  rw [this, rover_eq (hv.mono (by omega))]
  rfl
theorem sTotal_eq {s : State} (h : SC s) (label : Int) : share_Total s label = some (pTotal s label) := by
  unfold share_Total
  have hn := h.n
  rw [loop_filter (fun (l : List Vec) i => (l, i)) s.Nodes (fun n => n.Up && n.Label == label) (·.Cap) (step := share_Total_l1 s label) (by omega) ?_ ?_]
  · rw [Option.bind_some, sum_eq]
    · rfl
    · rw [List.length_map]
      have := List.length_filter_le (fun n : Node => n.Up && n.Label == label) s.Nodes
      omega
    · intro v hv
      obtain ⟨n, hn, rfl⟩ := List.mem_map.1 hv
      exact (h.b.nc n (List.mem_filter.1 hn).1).mono (by omega)
  · intro k hk l hl
    unfold share_Total_l1
    rw [dlt_t hk, idx_at hk]
    simp only [cond_true, Option.bind_some]
    rw [app_some (by simp; omega) (by omega)]
    cases s.Nodes[k].Up <;> cases s.Nodes[k].Label == label <;> rfl
  · intro l
    unfold share_Total_l1
    rw [dlt_f]
    rfl
theorem sKept_eq {s : State} (h : SC s) (hp : s.Plans.length ≤ 100) (label : Int) : share_Kept s label = some (pKept s label) := by
  unfold share_Kept
  rw [loop_filter (fun (l : List Vec) i => (l, i)) s.Plans (fun p => p.Label == label && decide (p.From ≤ s.Now) && decide (s.Now < p.Until)) (·.Need) (step := share_Kept_l1 s label) (by omega) ?_ ?_]
  · rw [Option.bind_some, sum_eq]
    · rfl
    · rw [List.length_map]
      have := List.length_filter_le (fun p : Plan => p.Label == label && decide (p.From ≤ s.Now) && decide (s.Now < p.Until)) s.Plans
      omega
    · intro v hv
      obtain ⟨n, hn, rfl⟩ := List.mem_map.1 hv
      exact (h.b.pn n (List.mem_filter.1 hn).1).mono (by omega)
  · intro k hk l hl
    unfold share_Kept_l1
    rw [dlt_t hk, idx_at hk]
    simp only [cond_true, Option.bind_some]
    rw [app_some (by simp; omega) (by omega)]
    cases s.Plans[k].Label == label <;> cases decide (s.Plans[k].From ≤ s.Now) <;> cases decide (s.Now < s.Plans[k].Until) <;> rfl
  · intro l
    unfold share_Kept_l1
    rw [dlt_f]
    rfl
/-- the place of the first of a list -/
theorem loop_findI {α τ ρ : Type} (mk : Int → τ) (l : List α) (p : α → Bool) (g : Int → ρ) (z : ρ) {step : τ → Option (τ ⊕ ρ)} (hn : l.length < 1000000000)
    (h1 : ∀ k (hk : k < l.length), p l[k] = false → step (mk (k : Int)) = some (.inl (mk (w64 ((k : Int) + 1)))))
    (h2 : ∀ k (hk : k < l.length), p l[k] = true → step (mk (k : Int)) = some (.inr (g (k : Int))))
    (h3 : step (mk (l.length : Int)) = some (.inr z)) : (∃ k, ∃ (hk : k < l.length), l.find? p = some l[k] ∧ loop step (mk 0) = some (g (k : Int))) ∨ (l.find? p = none ∧ loop step (mk 0) = some z) := by
  have h := gv_for (σ := Unit) (Q := fun x => (∃ k, ∃ (hk : k < l.length), l.find? p = some l[k] ∧ x = g (k : Int)) ∨ (l.find? p = none ∧ x = z)) (fun _ i => mk i) l.length (fun k _ => (l.take k).find? p = none) (step := step) hn ?_ ?_ (s := ()) rfl
  · obtain ⟨x, e, h⟩ := h
    rcases h with ⟨k, hk, h1, rfl⟩ | ⟨h1, rfl⟩
    · exact .inl ⟨k, hk, h1, e⟩
    · exact .inr ⟨h1, e⟩
  · intro k hk _ hs
    cases hp : p l[k] with
    | false =>
      refine gv_eq (h1 k hk hp) (.inl ⟨(), rfl, ?_⟩)
      rw [List.take_succ_eq_append_getElem hk, List.find?_append, hs]
      simp [hp]
    | true =>
      refine gv_eq (h2 k hk hp) (.inr ⟨_, rfl, .inl ⟨k, hk, ?_, rfl⟩⟩)
      conv => lhs; rw [← List.take_append_drop k l]
      rw [List.find?_append, hs, Option.none_or, List.drop_eq_getElem_cons hk, List.find?_cons_of_pos hp]
  · intro _ hs
    rw [List.take_length] at hs
    exact gv_eq h3 ⟨_, rfl, .inr ⟨hs, rfl⟩⟩
theorem rFind_eq {c : Conf} (h : CSmall c) (p : Str) : rule_Find c p = some ((pFind c p).elim (noQ, false) fun q => (q, true)) := by
  unfold rule_Find api_Queue_
  have hq := h.q
  have e := loop_findI (fun i => i) c.Queues (fun q => q.Path == p) (fun i => (.inl i : Int ⊕ Unit)) (.inr ()) (step := api_Queue__l1 c.Queues fun a' => rule_Find_1 a'.1 p) (by omega) ?_ ?_ ?_
  · unfold pFind
    rcases e with ⟨k, hk, e1, e2⟩ | ⟨e1, e2⟩
    · rw [e1, e2]
      simp only [Option.bind_some, Option.elim_some]
      rw [decide_eq_false (by omega), idx_at hk]
      simp only [cond_false, Option.bind_some]
      unfold api_Cap_
      rw [app_some (by have := h.c _ (List.getElem_mem hk); simp; omega) (by omega)]
      rfl
    · rw [e1, e2]
      rfl
  · intro k hk hf
    unfold api_Queue__l1 rule_Find_1
    rw [dlt_t hk, idx_at hk]
    simp only [cond_true, Option.bind_some, hf, cond_false]
  · intro k hk hf
    unfold api_Queue__l1 rule_Find_1
    rw [dlt_t hk, idx_at hk]
    simp only [cond_true, Option.bind_some, hf]
  · unfold api_Queue__l1
    rw [dlt_f]
    rfl
theorem byte_loop (p : Str) (hp : p.length < 1000000000) : ∀ m, m ≤ p.length → loop (bytealg_LastIndexByteString_l1 p 46) ((m : Int) - 1) = some (if ((p.take m).reverse.dropWhile (· != 46)).length = 0 then .inr () else .inl ((((p.take m).reverse.dropWhile (· != 46)).length : Int) - 1)) := by
  intro m
  induction m with
  | zero =>
    intro _
    rw [loop_eq]
    rfl
  | succ m ih =>
    intro hm
    rw [loop_eq]
    have e0 : ((m + 1 : Nat) : Int) - 1 = (m : Int) := by omega
    rw [e0]
    unfold bytealg_LastIndexByteString_l1
    rw [decide_eq_true (by omega), idx_at (show m < p.length by omega)]
    have hb : ((p[m].toNat : Int) == 46) = !(p[m] != 46) := by
      rw [Bool.eq_iff_iff, beq_iff_eq, Bool.not_eq_true', bne_eq_false_iff_eq]
      refine ⟨fun h => ?_, fun h => by rw [h]; rfl⟩
      exact UInt8.toNat_inj.1 (by have : (46 : UInt8).toNat = 46 := rfl; omega)
    have ht : (p.take (m + 1)).reverse = p[m] :: (p.take m).reverse := by rw [List.take_succ_eq_append_getElem (by omega), List.reverse_append]; rfl
    rw [ht, List.dropWhile_cons]
    simp only [cond_true, Option.bind_some, hb]
    cases h : (p[m] != 46) with
    | true =>
      simp only [Bool.not_true, cond_false, if_true]
      rw [w64_id (by omega) (by omega)]
      exact ih (by omega)
    | false =>
      simp only [Bool.not_false, cond_true, Bool.false_eq_true, if_false, List.length_cons, List.length_reverse, List.length_take]
      rw [if_neg (by omega)]
      congr 2
      omega
theorem rAbove_eq {p : Str} (hp : p.length < 1000000000) : ∃ b, rule_above p = some (pAbove p, b) := by
  have e : strings_LastIndex p [46] = bytealg_LastIndexByteString p 46 := by
    unfold strings_LastIndex
    rw [show ((([46] : List UInt8).length : Int) == 0) = false from rfl, show ((([46] : List UInt8).length : Int) == 1) = true from rfl]
    simp only [cond_true, cond_false]
    rw [show idx ([46] : List UInt8) 0 = some 46 from rfl, Option.bind_some]
    show (bytealg_LastIndexByteString p 46).bind some = _
    cases bytealg_LastIndexByteString p 46 <;> rfl
  unfold rule_above
  rw [e]
  unfold bytealg_LastIndexByteString
  dsimp only
  rw [w64_id (by omega) (by omega), byte_loop p hp p.length (Nat.le_refl _), List.take_length, pAbove_take]
  have hle := (List.dropWhile_suffix (· != 46) (l := p.reverse)).length_le
  rw [List.length_reverse] at hle
  generalize (p.reverse.dropWhile (· != 46)).length = n at hle ⊢
  by_cases h : n = 0
  · subst h; exact ⟨false, rfl⟩
  · rw [if_neg h]
    simp only [Option.bind_some]
    rw [decide_eq_false (by omega)]
    unfold slc
    simp only [cond_false]
    rw [if_pos ⟨by omega, by omega, by omega⟩]
    simp only [Option.bind_some, Int.toNat_zero, List.drop_zero]
    refine ⟨true, ?_⟩
    congr 3
    omega
theorem rUp_loop : ∀ (n : Nat) (p : Str) (l : List Str), p.length ≤ n → p.length + l.length ≤ 1000000 → loop rule_Up_l1 (p, l) = some (l ++ pUp p)
  | n, p, l, h1, h2 => by
    by_cases h : p = []
    · subst h
      rw [loop_eq]
      simp [rule_Up_l1, pUp_nil]
    · have hl := pAbove_len h
      have hb : (p == []) = false := by simp [h]
      have hs : rule_Up_l1 (p, l) = some (.inl (pAbove p, l ++ [p])) := by
        unfold rule_Up_l1
        simp only [hb, Bool.not_false, cond_true]
        obtain ⟨b, e⟩ := rAbove_eq (p := p) (by omega)
        rw [app_some (by simp; omega) (by omega), e]
        rfl
      rw [loop_eq, hs]
      dsimp only
      match n with
      | 0 => omega
      | n + 1 =>
        rw [rUp_loop n (pAbove p) (l ++ [p]) (by omega) (by simp; omega), pUp_cons h]
        simp
theorem rUp_eq {p : Str} (h : p.length ≤ 1000000) : rule_Up p = some (pUp p) := by
  unfold rule_Up
  rw [rUp_loop p.length p [] (Nat.le_refl _) (by simpa using h)]
  rfl
theorem sdown_eq {s : State} (h : SC s) {path : Str} (hp : path.length ≤ 1000000) {label : Int} (h0 : 0 ≤ label) (h1 : label < s.Conf.Labels.length) (least : Bool) {part : TupT fam [.st 1] → Option Int}
    (hpart : ∀ c : Cap, part (c, ()) = some (bif least then c.Least else c.Most)) : share_down s path label part = some (pDown s path label least) := by
  have hn := h.n
  unfold share_down pDown
  rw [rUp_eq hp, Option.bind_some, rFind_eq h.b.cf]
  cases hf : pFind s.Conf path with
  | none => simp
  | some q =>
    simp only [Option.elim_some, Option.bind_some, Bool.not_true, cond_false, Option.isSome_some, true_and]
    rw [if_pos ⟨h0, h1⟩, sTotal_eq h, Option.bind_some]
    have hfound := chain_found h.c path.length path (Nat.le_refl _) (by rw [hf]; rfl)
    have hul := pUp_len path
    have hpos : 0 < (pUp path).length := by
      have : path ≠ [] := by
        intro e
        obtain ⟨hm, hq⟩ := pFind_mem hf
        obtain ⟨i, hi, rfl⟩ := List.getElem_of_mem hm
        have := (h.c.q i hi).path.root
        rw [hq, e] at this
        simp at this
      rw [pUp_cons this]
      simp
    rw [w64_id (by omega) (by omega)]
    have key : ∀ m, m ≤ (pUp path).length → ∀ v, VB (s.Nodes.length * 1073741824) v → loop (share_down_l1 s label part (pUp path)) ((⟨0, 0⟩ : Vec), v, (m : Int) - 1) = some (.inr (⟨0, 0⟩, ((pUp path).take m).reverse.foldl (fun v p => vscale v (bpOf s.Conf label least p)) v)) := by
      intro m
      induction m with
      | zero =>
        intro _ v _
        rw [loop_eq]
        rfl
      | succ m ih =>
        intro hm v hv
        have hfm := hfound _ (List.getElem_mem (show m < (pUp path).length by omega))
        have hbp := bp_bd h.c hfm h0 h1 least
        have hs : share_down_l1 s label part (pUp path) ((⟨0, 0⟩ : Vec), v, ((m + 1 : Nat) : Int) - 1) = some (.inl (⟨0, 0⟩, vscale v (bpOf s.Conf label least (pUp path)[m]), (m : Int) - 1)) := by
          unfold share_down_l1
          dsimp only
          rw [show ((m + 1 : Nat) : Int) - 1 = (m : Int) by omega, decide_eq_true (by omega), inb_at (show m < (pUp path).length by omega)]
          simp only [cond_true, Option.bind_some, List.getElem?_eq_getElem (show m < (pUp path).length by omega)]
          obtain ⟨q', e1, e2, e3, e4⟩ := cap_found h.c hfm h0 h1
          rw [rFind_eq h.b.cf, e1]
          simp only [Option.elim_some, Option.bind_some, Bool.not_true, cond_false]
          rw [decide_eq_false (show ¬ label < 0 by omega), decide_eq_false (show ¬ label ≥ (q'.Caps.length : Int) by omega)]
          simp only [cond_false, Option.bind_some]
          have hin : inb label q'.Caps.length = some label.toNat := by
            unfold inb
            rw [if_pos ⟨by omega, e2⟩]
          rw [hin]
          simp only [Option.bind_some, e3]
          rw [hpart]
          simp only [Option.bind_some]
          rw [show (bif least then (capAt s.Conf label (pUp path)[m]).Least else (capAt s.Conf label (pUp path)[m]).Most) = bpOf s.Conf label least (pUp path)[m] from rfl]
          rw [rScale_eq (hv.mono (by omega)) hbp.1 (by omega), Option.bind_some, w64_id (by omega) (by omega)]
        rw [loop_eq, hs]
        dsimp only
        rw [ih (by omega) _ (vscale_le hv hbp.1 hbp.2), List.take_succ_eq_append_getElem (by omega), List.reverse_append]
        rfl
    have := key ((pUp path).length - 1) (by omega) _ (total_bd h.b label)
    rw [show (((pUp path).length - 1 : Nat) : Int) - 1 = ((pUp path).length : Int) - 2 by omega] at this
    rw [this, List.dropLast_eq_take]
    rfl
theorem sLeast_eq {s : State} (h : SC s) {path : Str} (hp : path.length ≤ 1000000) {label : Int} (h0 : 0 ≤ label) (h1 : label < s.Conf.Labels.length) : share_Least s path label = some (pDown s path label true) := by
  unfold share_Least; rw [sdown_eq h hp h0 h1 true (fun c => rfl)]; rfl
theorem sMost_eq {s : State} (h : SC s) {path : Str} (hp : path.length ≤ 1000000) {label : Int} (h0 : 0 ≤ label) (h1 : label < s.Conf.Labels.length) : share_Most s path label = some (pDown s path label false) := by
  unfold share_Most; rw [sdown_eq h hp h0 h1 false (fun c => rfl)]; rfl
theorem sUser_eq {s : State} (h : SC s) {path : Str} (hp : path.length ≤ 1000000) {label : Int} (h0 : 0 ≤ label) (h1 : label < s.Conf.Labels.length) : share_User s path label = some (pUser s path label) := by
  unfold share_User pUser
  have hn := h.n
  rw [rFind_eq h.b.cf, Option.bind_some, sLeast_eq h hp h0 h1, Option.bind_some]
  cases hf : pFind s.Conf path with
  | none =>
    have : pDown s path label true = ⟨0, 0⟩ := by unfold pDown; rw [if_neg (by rw [hf]; simp)]
    rw [this]
    simp only [Option.elim_none]
    rw [rScale_eq (by unfold VB; simp) (by unfold noQ; decide) (by unfold noQ; decide)]
    rfl
  | some q =>
    have hu := pFind_user h.c hf
    simp only [Option.elim_some]
    rw [rScale_eq ((h.down_bd label true).mono (by omega)) (by omega) hu.2]
    rfl
theorem few_eq (x : Script) : dispatchlaw7_Script_Few x = some (decide (x.Ns.length ≤ 30) && decide (x.Acts.length ≤ 80)) := by
  unfold dispatchlaw7_Script_Few
  have e1 : decide ((x.Ns.length : Int) ≤ 30) = decide (x.Ns.length ≤ 30) := by rw [decide_eq_decide]; omega
  have e2 : decide ((x.Acts.length : Int) ≤ 80) = decide (x.Acts.length ≤ 80) := by rw [decide_eq_decide]; omega
  rw [e1, e2]
  cases decide (x.Ns.length ≤ 30) <;> rfl
theorem known_eq : dispatchlaw7_known = some true := by
  unfold dispatchlaw7_known
  have sc : SC newS := newS_inv.sc
  rw [New_eq, Option.bind_some, sTotal_eq sc, Option.bind_some]
  have e1 : pTotal newS 0 = ⟨0, 0⟩ := rfl
  have hl : (0 : Int) < newS.Conf.Labels.length := by decide
  rw [e1]
  have hr : ([114, 111, 111, 116] : List UInt8).length ≤ 1000000 := by decide
  rw [sLeast_eq sc hr (by omega) hl]
  have e2 : pDown newS [114, 111, 111, 116] 0 true = ⟨0, 0⟩ := by kernel_rfl
  rw [Option.bind_some, e2]
  have sc' : SC ⟨⟨newS.Conf.Labels, newS.Conf.Queues⟩, [⟨0, 0, 0, ⟨8, 4⟩, 0, 0, true⟩], newS.Apps, newS.Conts, newS.Slots, newS.Plans, newS.Now, newS.Epoch, newS.Seq⟩ := by
    have b := sc.b
    refine ⟨⟨⟨by simp, b.z.a, b.z.c, b.z.l, b.z.p⟩, b.cf, ?_, b.cs, b.pn, b.aq, b.al, b.ak⟩, sc.c, by simp⟩
    intro n hn
    rcases List.mem_singleton.1 hn with rfl
    unfold VB
    simp
  rw [sMost_eq sc' hr (by omega) hl]
  rfl
/-- rounds that find nothing -/
theorem loop_ok {step : Int → Option (Int ⊕ (Bool ⊕ Unit))} (n : Nat) (hn : n < 1000000000) (h1 : ∀ k, k < n → step (k : Int) = some (.inl (w64 ((k : Int) + 1)))) (h2 : step (n : Int) = some (.inr (.inr ()))) : loop step 0 = some (.inr ()) := by
  obtain ⟨x, e, rfl⟩ := gv_for (σ := Unit) (Q := fun x => x = (.inr () : Bool ⊕ Unit)) (fun _ i => i) n (fun _ _ => True) (step := step) hn (fun k hk _ _ => gv_eq (h1 k hk) (.inl ⟨(), rfl, trivial⟩)) (fun _ _ => gv_eq h2 ⟨_, rfl, rfl⟩) (s := ()) trivial
  exact e
theorem vec_beq (a : Vec) : ((a.Mem == a.Mem) && (a.Cores == a.Cores)) = true := by simp
/-- the paths of all queues behind one -/
theorem rows_eq (s : State) (path : Str) (h : s.Conf.Queues.length ≤ 16) {step : List Str × Int → Option ((List Str × Int) ⊕ List Str)}
    (h1 : ∀ k (hk : k < s.Conf.Queues.length) (l : List Str), l.length ≤ 1000 → step (l, (k : Int)) = some (.inl (l ++ [s.Conf.Queues[k].Path], w64 ((k : Int) + 1)))) (h2 : ∀ l, step (l, (s.Conf.Queues.length : Int)) = some (.inr l)) :
    loop step ([path], 0) = some (path :: s.Conf.Queues.map (·.Path)) := by
  have h := (loop_fold (fun (l : List Str) i => (l, i)) s.Conf.Queues (fun l q => l ++ [q.Path]) (fun k l => l.length ≤ k + 1) (fun l => l) (step := step) (by omega) ?_ (fun l _ => h2 l) (s := [path]) (by simp)).1
  · rw [h]
    have key : ∀ (q : List Queue) (z : List Str), q.foldl (fun l q => l ++ [q.Path]) z = z ++ q.map (·.Path) := by
      intro q
      induction q with
      | nil => simp
      | cons x q ih => intro z; rw [List.foldl_cons, ih]; simp
    rw [key]
    rfl
  · intro k hk l hl
    exact ⟨h1 k hk l (by omega), by simp; omega⟩
theorem row_short {N : Nat} {s : State} (h : Inv N s) {path : Str} (hp : path.length ≤ 60) {x : Str} (hx : x ∈ path :: s.Conf.Queues.map (·.Path)) : x.length ≤ 60 := by
  rcases List.mem_cons.1 hx with rfl | hx
  · exact hp
  · obtain ⟨q, hq, rfl⟩ := List.mem_map.1 hx
    obtain ⟨i, hi, rfl⟩ := List.getElem_of_mem hq
    have := (h.cf.q i hi).path.len
    omega
theorem plainShareAsks (a0 : Script) (a1 : List UInt8) : dispatchlaw7_ShareAsks a0 a1 = some true := by
  unfold dispatchlaw7_ShareAsks
  rw [known_eq, few_eq]
  simp only [Option.bind_some, Bool.not_true, cond_false]
  by_cases h1 : a0.Ns.length ≤ 30
  · by_cases h2 : a0.Acts.length ≤ 80
    · rw [decide_eq_true h1, decide_eq_true h2]
      simp only [Bool.and_self, Bool.not_true, cond_false, Option.bind_some]
      by_cases h3 : a1.length ≤ 60
      · rw [decide_eq_false (by omega)]
        obtain ⟨s, e, hs⟩ := State_gv a0 h1 h2
        simp only [cond_false]
        rw [e, Option.bind_some]
        have sc := hs.sc
        have hq := hs.cf.qs
        have hlab := hs.cf.lab
        have hpl := hs.pl
        rw [rows_eq s a1 (by omega) ?_ ?_, Option.bind_some]
        · have hrow := fun x hx => row_short hs h3 (x := x) hx
          have hlen : (a1 :: s.Conf.Queues.map (·.Path)).length ≤ 17 := by simp; omega
          generalize a1 :: s.Conf.Queues.map (·.Path) = rows at hrow hlen
          rw [loop_ok s.Conf.Labels.length (by omega)]
          · rfl
          · intro k hk
            unfold dispatchlaw7_ShareAsks_l2
            rw [dlt_t hk]
            simp only [cond_true]
            rw [sTotal_eq sc, total_eq sc.b, Option.bind_some, Option.bind_some, sKept_eq sc (by omega), kept_eq sc.b, Option.bind_some, Option.bind_some, vec_beq, vec_beq]
            simp only [Bool.not_true, cond_false, Option.bind_some]
            rw [loop_ok rows.length (by omega)]
            · rfl
            · intro i hi
              have hx := hrow _ (List.getElem_mem hi)
              unfold dispatchlaw7_ShareAsks_l3
              rw [dlt_t hi, inb_at hi]
              simp only [cond_true, Option.bind_some, List.getElem?_eq_getElem hi]
              rw [sLeast_eq sc (by omega) (by omega) (by omega), Least_eq sc (by omega), Option.bind_some, Option.bind_some, vec_beq, sMost_eq sc (by omega) (by omega) (by omega), Most_eq sc (by omega), Option.bind_some, Option.bind_some, vec_beq, sUser_eq sc (by omega) (by omega) (by omega), User_eq sc (by omega), Option.bind_some, Option.bind_some, vec_beq]
              rfl
            · unfold dispatchlaw7_ShareAsks_l3
              rw [dlt_f]
              rfl
          · unfold dispatchlaw7_ShareAsks_l2
            rw [dlt_f]
            rfl
        · intro k hk l hl
          unfold dispatchlaw7_ShareAsks_l1
          rw [dlt_t hk, idx_at hk]
          simp only [cond_true, Option.bind_some]
          rw [app_some (by simp; omega) (by omega)]
          rfl
        · intro l
          unfold dispatchlaw7_ShareAsks_l1
          rw [dlt_f]
          rfl
      · rw [decide_eq_true (by omega)]
        rfl
    · rw [decide_eq_false h2, Bool.and_false]
      rfl
  · rw [decide_eq_false h1]
    rfl
end Go.Fx.D
