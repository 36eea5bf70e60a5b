/-
  The law over plain data: true at all inputs. Conditions: none.
-/
import Derived.Test.YteodpoelbdakgaaGreatS18
import Derived.Lib.Mul64
import Derived.WalkKit
namespace Go.Fx.D
open Go Go.Fx
set_option linter.unusedVariables false
set_option linter.unusedSimpArgs false

theorem rgood_eq (a : Vec) : rvec_vec_good a = some (decide (VB 1125899906842624 a)) := by
  unfold rvec_vec_good
  have e : decide (VB 1125899906842624 a) = ((decide (a.Mem ≥ 0) && decide (a.Mem ≤ 1125899906842624)) && (decide (a.Cores ≥ 0) && decide (a.Cores ≤ 1125899906842624))) := by
    rw [Bool.eq_iff_iff, decide_eq_true_iff]
    simp only [Bool.and_eq_true, decide_eq_true_eq, VB, ge_iff_le]
  rw [e]
  cases decide (a.Mem ≥ 0) <;> cases decide (a.Mem ≤ 1125899906842624) <;> cases decide (a.Cores ≥ 0) <;> cases decide (a.Cores ≤ 1125899906842624) <;> rfl
theorem rover_eq {a : Vec} (h : VB 1125899906842624 a) : rvec_over a = some (a, 0) := by
  unfold rvec_over
  rw [rgood_eq, decide_eq_true h]
  rfl
theorem Add_eq {a b : Vec} {n m : Int} (ha : VB n a) (hb : VB m b) (h : n + m ≤ 1125899906842624) : rvec_Add a b = some (vplus a b, 0) := by
  have hn : 0 ≤ n ∧ 0 ≤ m := by unfold VB at ha hb; omega
  have hs := vplus_bd ha hb
  unfold rvec_Add
  rw [rgood_eq, rgood_eq, decide_eq_true (ha.mono (by omega)), decide_eq_true (hb.mono (by omega))]
  simp only [Option.bind_some, Bool.not_true, cond_false]
  have e : (⟨w64 (a.Mem + b.Mem), w64 (a.Cores + b.Cores)⟩ : Vec) = vplus a b := by
    unfold VB vplus at hs
    dsimp only at hs
    rw [w64_id (by omega) (by omega), w64_id (by omega) (by omega)]
    rfl
  rw [e, rover_eq (hs.mono h)]
  rfl
theorem vplus_comm (a b : Vec) : vplus a b = vplus b a := by unfold vplus; congr 1 <;> omega
theorem vplus_assoc (a b c : Vec) : vplus (vplus a b) c = vplus a (vplus b c) := by unfold vplus; dsimp only; congr 1 <;> omega
theorem vplus_zero (a : Vec) : vplus ⟨0, 0⟩ a = a := by cases a; simp [vplus]
theorem foldl_vplus (l : List Vec) (z : Vec) : l.foldl vplus z = vplus z (vsum l) := by
  induction l generalizing z with
  | nil => rw [vsum_nil, vplus_comm, vplus_zero]; rfl
  | cons x l ih => rw [List.foldl_cons, ih, vsum_cons, vplus_assoc]
theorem sum_eq {l : List Vec} (hl : l.length ≤ 1000) (h : ∀ v ∈ l, VB 1099511627776 v) : share_sum l = some (vsum l) := by
  unfold share_sum
  rw [(loop_fold (fun v i => (v, i)) l vplus (fun k v => VB (1099511627776 * k) v) (fun v => v) (step := share_sum_l1 l) (by omega) ?_ ?_ (s := (⟨0, 0⟩ : Vec)) (by simp [VB])).1]
  · rw [foldl_vplus, vplus_zero]; rfl
  · intro k hk s hs
    have hb := h _ (List.getElem_mem hk)
    refine ⟨?_, (vplus_bd hs hb).mono (by omega)⟩
    unfold share_sum_l1
    rw [dlt_t hk, idx_at hk]
    simp only [cond_true, Option.bind_some]
    rw [Add_eq hs hb (by omega)]
    rfl
  · intro s _
    unfold share_sum_l1
    rw [dlt_f]
    rfl
theorem u64w (x : Int) : IntKind.u64.wrap x = x % 18446744073709551616 := by rw [IntKind.wrap_u64]
theorem u64id {x : Int} (h : 0 ≤ x) (h2 : x < 18446744073709551616) : IntKind.u64.wrap x = x := by rw [u64w]; omega
theorem shr32 (x : Int) : shrK .u64 x 32 = x / 4294967296 := by
  show x.fdiv (2 ^ min (32 : Int).toNat IntKind.u64.bits) = _
  rw [show (2 ^ min (32 : Int).toNat IntKind.u64.bits : Int) = 4294967296 from by decide, Int.fdiv_eq_ediv_of_nonneg _ (by decide)]
theorem andN (a b : Nat) (ha : a < 18446744073709551616) (hb : b < 18446744073709551616) : andK .u64 (a : Int) (b : Int) = ((a &&& b : Nat) : Int) := by
  show IntKind.u64.wrap ((BitVec.ofInt 64 (a : Int) &&& BitVec.ofInt 64 (b : Int)).toNat) = _
  have e : ((BitVec.ofInt 64 (a : Int) &&& BitVec.ofInt 64 (b : Int)).toNat) = a &&& b := by
    rw [BitVec.toNat_and, BitVec.toNat_ofInt, BitVec.toNat_ofInt]
    congr 1 <;> omega
  rw [e]
  have : a &&& b ≤ a := Nat.and_le_left
  exact u64id (by omega) (by omega)
theorem and32 (a : Nat) (ha : a < 18446744073709551616) : andK .u64 (a : Int) 4294967295 = ((a % 4294967296 : Nat) : Int) := by
  have := andN a 4294967295 ha (by omega)
  rw [show ((4294967295 : Nat) : Int) = 4294967295 from rfl] at this
  rw [this, show (4294967295 : Nat) = 2 ^ 32 - 1 from rfl, Nat.and_two_pow_sub_one_eq_mod]
theorem mul64_eq (x y : Nat) (hx : x < 18446744073709551616) (hy : y < 18446744073709551616) :
    bits_Mul64 (x : Int) (y : Int) = some (((x * y / 18446744073709551616 : Nat) : Int), ((x * y % 18446744073709551616 : Nat) : Int)) := by
  obtain ⟨h1, h2, h3, h4⟩ := Lib.mul64_hi x y hx hy
  have a1 := Lib.half_mul_le (a := x / 4294967296) (b := y / 4294967296) (by omega) (by omega)
  have a2 := Lib.half_mul_le (a := x / 4294967296) (b := y % 4294967296) (by omega) (by omega)
  have a3 := Lib.half_mul_le (a := x % 4294967296) (b := y / 4294967296) (by omega) (by omega)
  have a4 := Lib.half_mul_le (a := x % 4294967296) (b := y % 4294967296) (by omega) (by omega)
  have w : ∀ a : Nat, a < 18446744073709551616 → IntKind.u64.wrap (a : Int) = (a : Int) := fun a ha => u64id (by omega) (by omega)
  have d : ∀ a : Nat, (a : Int) / 4294967296 = ((a / 4294967296 : Nat) : Int) := fun a => by omega
  have m : ∀ a b : Nat, (a : Int) * (b : Int) = ((a * b : Nat) : Int) := fun a b => (Int.natCast_mul a b).symm
  have p : ∀ a b : Nat, (a : Int) + (b : Int) = ((a + b : Nat) : Int) := fun a b => (Int.natCast_add a b).symm
  unfold bits_Mul64
  simp only [shr32, d]
  rw [and32 y hy, and32 x hx]
  simp only [m, p]
  rw [w _ (Nat.lt_of_le_of_lt a1 (by omega)), w _ (Nat.lt_of_le_of_lt a2 (by omega)), w _ (Nat.lt_of_le_of_lt a3 (by omega)), w _ (Nat.lt_of_le_of_lt a4 (by omega))]
  simp only [d, p]
  rw [w _ h2]
  simp only [d, p]
  rw [and32 _ h2]
  simp only [p]
  rw [w _ h3]
  simp only [d]
  have hq : x * y / 18446744073709551616 < 18446744073709551616 := by
    have : x * y < 18446744073709551616 * 18446744073709551616 := Nat.mul_lt_mul_of_lt_of_lt hx hy
    omega
  have hs : x / 4294967296 * (y / 4294967296) + (x / 4294967296 * (y % 4294967296) + x % 4294967296 * (y % 4294967296) / 4294967296) / 4294967296 < 18446744073709551616 := by omega
  rw [w _ hs]
  simp only [p]
  rw [h4, w _ hq, u64w]
  simp
theorem part_eq {n bp : Int} (h0 : 0 ≤ n) (h1 : n ≤ 1099511627776) (b0 : 0 ≤ bp) (b1 : bp ≤ 1000000) : rvec_part n bp = some (n * bp / 10000) ∧ 0 ≤ n * bp / 10000 ∧ n * bp / 10000 ≤ 109951162777600 := by
  obtain ⟨a, rfl⟩ := Int.eq_ofNat_of_zero_le h0
  obtain ⟨b, rfl⟩ := Int.eq_ofNat_of_zero_le b0
  have m3 := mul_bd h0 h1 b0 b1
  have hm : (a : Int) * (b : Int) = ((a * b : Nat) : Int) := (Int.natCast_mul a b).symm
  rw [hm] at m3 ⊢
  refine ⟨?_, by omega, by omega⟩
  unfold rvec_part
  rw [u64id (by omega) (by omega), u64id (by omega) (by omega), mul64_eq _ _ (by omega) (by omega)]
  generalize a * b = c at m3 ⊢
  have e1 : c / 18446744073709551616 = 0 := by omega
  have e2 : c % 18446744073709551616 = c := by omega
  rw [e1, e2]
  simp only [Option.bind_some]
  unfold bits_Div64
  have n0 : nz 10000 = some () := rfl
  have c1 : ((10000 : Int) == 0) = false := rfl
  have c2 : decide ((10000 : Int) ≤ ((0 : Nat) : Int)) = false := rfl
  have c3 : (((0 : Nat) : Int) == 0) = true := rfl
  simp only [c1, c2, c3, n0, cond_true, cond_false, Option.bind_some]
  rw [Int.tdiv_eq_ediv_of_nonneg (by omega), u64id (by omega) (by omega), w64_id (by omega) (by omega)]
theorem rScale_eq {a : Vec} {bp : Int} (ha : VB 1099511627776 a) (b0 : 0 ≤ bp) (b1 : bp ≤ 1000000) : rvec_Scale a bp = some (vscale a bp, 0) := by
  have ha' := ha
  unfold VB at ha'
  obtain ⟨e1, p1, p2⟩ := part_eq ha'.1.1 ha'.1.2 b0 b1
  obtain ⟨e2, p3, p4⟩ := part_eq ha'.2.1 ha'.2.2 b0 b1
  have hv : VB 109951162777600 (vscale a bp) := ⟨⟨p1, p2⟩, p3, p4⟩
  unfold rvec_Scale
  rw [rgood_eq, decide_eq_true (ha.mono (by omega))]
  simp only [Option.bind_some, Bool.not_true, cond_false]
  rw [decide_eq_false (by omega), decide_eq_false (by omega)]
  simp only [Option.bind_some, cond_false]
  rw [e1, e2]
  simp only [Option.bind_some]
  have : (⟨a.Mem * bp / 10000, a.Cores * bp / 10000⟩ : Vec) = vscale a bp := rfl
  rw [this, rover_eq (hv.mono (by omega))]
  rfl
theorem sTotal_eq {s : State} (h : SC s) (label : Int) : share_Total s label = some (pTotal s label) := by
  unfold share_Total
  have hn := h.n
  rw [loop_filter (fun (l : List Vec) i => (l, i)) s.Nodes (fun n => n.Up && n.Label == label) (·.Cap) (step := share_Total_l1 s label) (by omega) ?_ ?_]
  · rw [Option.bind_some, sum_eq]
    · rfl
    · rw [List.length_map]
      have := List.length_filter_le (fun n : Node => n.Up && n.Label == label) s.Nodes
      omega
    · intro v hv
      obtain ⟨n, hn, rfl⟩ := List.mem_map.1 hv
      exact (h.b.nc n (List.mem_filter.1 hn).1).mono (by omega)
  · intro k hk l hl
    unfold share_Total_l1
    rw [dlt_t hk, idx_at hk]
    simp only [cond_true, Option.bind_some]
    rw [app_some (by simp; omega) (by omega)]
    cases s.Nodes[k].Up <;> cases s.Nodes[k].Label == label <;> rfl
  · intro l
    unfold share_Total_l1
    rw [dlt_f]
    rfl
/-- the place of the first of a list -/
theorem loop_findI {α τ ρ : Type} (mk : Int → τ) (l : List α) (p : α → Bool) (g : Int → ρ) (z : ρ) {step : τ → Option (τ ⊕ ρ)} (hn : l.length < 1000000000)
    (h1 : ∀ k (hk : k < l.length), p l[k] = false → step (mk (k : Int)) = some (.inl (mk (w64 ((k : Int) + 1)))))
    (h2 : ∀ k (hk : k < l.length), p l[k] = true → step (mk (k : Int)) = some (.inr (g (k : Int))))
    (h3 : step (mk (l.length : Int)) = some (.inr z)) : (∃ k, ∃ (hk : k < l.length), l.find? p = some l[k] ∧ loop step (mk 0) = some (g (k : Int))) ∨ (l.find? p = none ∧ loop step (mk 0) = some z) := by
  have h := gv_for (σ := Unit) (Q := fun x => (∃ k, ∃ (hk : k < l.length), l.find? p = some l[k] ∧ x = g (k : Int)) ∨ (l.find? p = none ∧ x = z)) (fun _ i => mk i) l.length (fun k _ => (l.take k).find? p = none) (step := step) hn ?_ ?_ (s := ()) rfl
  · obtain ⟨x, e, h⟩ := h
    rcases h with ⟨k, hk, h1, rfl⟩ | ⟨h1, rfl⟩
    · exact .inl ⟨k, hk, h1, e⟩
    · exact .inr ⟨h1, e⟩
  · intro k hk _ hs
    cases hp : p l[k] with
    | false =>
      refine gv_eq (h1 k hk hp) (.inl ⟨(), rfl, ?_⟩)
      rw [List.take_succ_eq_append_getElem hk, List.find?_append, hs]
      simp [hp]
    | true =>
      refine gv_eq (h2 k hk hp) (.inr ⟨_, rfl, .inl ⟨k, hk, ?_, rfl⟩⟩)
      conv => lhs; rw [← List.take_append_drop k l]
      rw [List.find?_append, hs, Option.none_or, List.drop_eq_getElem_cons hk, List.find?_cons_of_pos hp]
  · intro _ hs
    rw [List.take_length] at hs
    exact gv_eq h3 ⟨_, rfl, .inr ⟨hs, rfl⟩⟩
theorem rFind_eq {c : Conf} (h : CSmall c) (p : Str) : rule_Find c p = some ((pFind c p).elim (noQ, false) fun q => (q, true)) := by
  unfold rule_Find api_Queue_
  have hq := h.q
  have e := loop_findI (fun i => i) c.Queues (fun q => q.Path == p) (fun i => (.inl i : Int ⊕ Unit)) (.inr ()) (step := api_Queue__l1 c.Queues fun a' => rule_Find_1 a'.1 p) (by omega) ?_ ?_ ?_
  · unfold pFind
    rcases e with ⟨k, hk, e1, e2⟩ | ⟨e1, e2⟩
    · rw [e1, e2]
      simp only [Option.bind_some, Option.elim_some]
      rw [decide_eq_false (by omega), idx_at hk]
      simp only [cond_false, Option.bind_some]
      unfold api_Cap_
      rw [app_some (by have := h.c _ (List.getElem_mem hk); simp; omega) (by omega)]
      rfl
    · rw [e1, e2]
      rfl
  · intro k hk hf
    unfold api_Queue__l1 rule_Find_1
    rw [dlt_t hk, idx_at hk]
    simp only [cond_true, Option.bind_some, hf, cond_false]
  · intro k hk hf
    unfold api_Queue__l1 rule_Find_1
    rw [dlt_t hk, idx_at hk]
    simp only [cond_true, Option.bind_some, hf]
  · unfold api_Queue__l1
    rw [dlt_f]
    rfl
theorem byte_loop (p : Str) (hp : p.length < 1000000000) : ∀ m, m ≤ p.length → loop (bytealg_LastIndexByteString_l1 p 46) ((m : Int) - 1) = some (if ((p.take m).reverse.dropWhile (· != 46)).length = 0 then .inr () else .inl ((((p.take m).reverse.dropWhile (· != 46)).length : Int) - 1)) := by
  intro m
  induction m with
  | zero =>
    intro _
    rw [loop_eq]
    rfl
  | succ m ih =>
    intro hm
    rw [loop_eq]
    have e0 : ((m + 1 : Nat) : Int) - 1 = (m : Int) := by omega
    rw [e0]
    unfold bytealg_LastIndexByteString_l1
    rw [decide_eq_true (by omega), idx_at (show m < p.length by omega)]
    have hb : ((p[m].toNat : Int) == 46) = !(p[m] != 46) := by
      rw [Bool.eq_iff_iff, beq_iff_eq, Bool.not_eq_true', bne_eq_false_iff_eq]
      refine ⟨fun h => ?_, fun h => by rw [h]; rfl⟩
      exact UInt8.toNat_inj.1 (by have : (46 : UInt8).toNat = 46 := rfl; omega)
    have ht : (p.take (m + 1)).reverse = p[m] :: (p.take m).reverse := by rw [List.take_succ_eq_append_getElem (by omega), List.reverse_append]; rfl
    rw [ht, List.dropWhile_cons]
    simp only [cond_true, Option.bind_some, hb]
    cases h : (p[m] != 46) with
    | true =>
      simp only [Bool.not_true, cond_false, if_true]
      rw [w64_id (by omega) (by omega)]
      exact ih (by omega)
    | false =>
      simp only [Bool.not_false, cond_true, Bool.false_eq_true, if_false, List.length_cons, List.length_reverse, List.length_take]
      rw [if_neg (by omega)]
      congr 2
      omega
theorem rAbove_eq {p : Str} (hp : p.length < 1000000000) : ∃ b, rule_above p = some (pAbove p, b) := by
  have e : strings_LastIndex p [46] = bytealg_LastIndexByteString p 46 := by
    unfold strings_LastIndex
    rw [show ((([46] : List UInt8).length : Int) == 0) = false from rfl, show ((([46] : List UInt8).length : Int) == 1) = true from rfl]
    simp only [cond_true, cond_false]
    rw [show idx ([46] : List UInt8) 0 = some 46 from rfl, Option.bind_some]
    show (bytealg_LastIndexByteString p 46).bind some = _
    cases bytealg_LastIndexByteString p 46 <;> rfl
  unfold rule_above
  rw [e]
  unfold bytealg_LastIndexByteString
  dsimp only
  rw [w64_id (by omega) (by omega), byte_loop p hp p.length (Nat.le_refl _), List.take_length, pAbove_take]
  have hle := (List.dropWhile_suffix (· != 46) (l := p.reverse)).length_le
  rw [List.length_reverse] at hle
  generalize (p.reverse.dropWhile (· != 46)).length = n at hle ⊢
  by_cases h : n = 0
  · subst h; exact ⟨false, rfl⟩
  · rw [if_neg h]
    simp only [Option.bind_some]
    rw [decide_eq_false (by omega)]
    unfold slc
    simp only [cond_false]
    rw [if_pos ⟨by omega, by omega, by omega⟩]
    simp only [Option.bind_some, Int.toNat_zero, List.drop_zero]
    refine ⟨true, ?_⟩
    congr 3
    omega
theorem rUp_loop : ∀ (n : Nat) (p : Str) (l : List Str), p.length ≤ n → p.length + l.length ≤ 1000000 → loop rule_Up_l1 (p, l) = some (l ++ pUp p)
  | n, p, l, h1, h2 => by
    by_cases h : p = []
    · subst h
      rw [loop_eq]
      simp [rule_Up_l1, pUp_nil]
    · have hl := pAbove_len h
      have hb : (p == []) = false := by simp [h]
      have hs : rule_Up_l1 (p, l) = some (.inl (pAbove p, l ++ [p])) := by
        unfold rule_Up_l1
        simp only [hb, Bool.not_false, cond_true]
        obtain ⟨b, e⟩ := rAbove_eq (p := p) (by omega)
        rw [app_some (by simp; omega) (by omega), e]
        rfl
      rw [loop_eq, hs]
      dsimp only
      match n with
      | 0 => omega
      | n + 1 =>
        rw [rUp_loop n (pAbove p) (l ++ [p]) (by omega) (by simp; omega), pUp_cons h]
        simp
theorem rUp_eq {p : Str} (h : p.length ≤ 1000000) : rule_Up p = some (pUp p) := by
  unfold rule_Up
  rw [rUp_loop p.length p [] (Nat.le_refl _) (by simpa using h)]
  rfl
theorem sdown_eq {s : State} (h : SC s) {path : Str} (hp : path.length ≤ 1000000) {label : Int} (h0 : 0 ≤ label) (h1 : label < s.Conf.Labels.length) (least : Bool) {part : TupT fam [.st 1] → Option Int}
    (hpart : ∀ c : Cap, part (c, ()) = some (bif least then c.Least else c.Most)) : share_down s path label part = some (pDown s path label least) := by
  have hn := h.n
  unfold share_down pDown
  rw [rUp_eq hp, Option.bind_some, rFind_eq h.b.cf]
  cases hf : pFind s.Conf path with
  | none => simp
  | some q =>
    simp only [Option.elim_some, Option.bind_some, Bool.not_true, cond_false, Option.isSome_some, true_and]
    rw [if_pos ⟨h0, h1⟩, sTotal_eq h, Option.bind_some]
    have hfound := chain_found h.c path.length path (Nat.le_refl _) (by rw [hf]; rfl)
    have hul := pUp_len path
    have hpos : 0 < (pUp path).length := by
      have : path ≠ [] := by
        intro e
        obtain ⟨hm, hq⟩ := pFind_mem hf
        obtain ⟨i, hi, rfl⟩ := List.getElem_of_mem hm
        have := (h.c.q i hi).path.root
        rw [hq, e] at this
        simp at this
      rw [pUp_cons this]
      simp
    rw [w64_id (by omega) (by omega)]
    have key : ∀ m, m ≤ (pUp path).length → ∀ v, VB (s.Nodes.length * 1073741824) v → loop (share_down_l1 s label part (pUp path)) ((⟨0, 0⟩ : Vec), v, (m : Int) - 1) = some (.inr (⟨0, 0⟩, ((pUp path).take m).reverse.foldl (fun v p => vscale v (bpOf s.Conf label least p)) v)) := by
      intro m
      induction m with
      | zero =>
        intro _ v _
        rw [loop_eq]
        rfl
      | succ m ih =>
        intro hm v hv
        have hfm := hfound _ (List.getElem_mem (show m < (pUp path).length by omega))
        have hbp := bp_bd h.c hfm h0 h1 least
        have hs : share_down_l1 s label part (pUp path) ((⟨0, 0⟩ : Vec), v, ((m + 1 : Nat) : Int) - 1) = some (.inl (⟨0, 0⟩, vscale v (bpOf s.Conf label least (pUp path)[m]), (m : Int) - 1)) := by
          unfold share_down_l1
          dsimp only
          rw [show ((m + 1 : Nat) : Int) - 1 = (m : Int) by omega, decide_eq_true (by omega), inb_at (show m < (pUp path).length by omega)]
          simp only [cond_true, Option.bind_some, List.getElem?_eq_getElem (show m < (pUp path).length by omega)]
          obtain ⟨q', e1, e2, e3, e4⟩ := cap_found h.c hfm h0 h1
          rw [rFind_eq h.b.cf, e1]
          simp only [Option.elim_some, Option.bind_some, Bool.not_true, cond_false]
          rw [decide_eq_false (show ¬ label < 0 by omega), decide_eq_false (show ¬ label ≥ (q'.Caps.length : Int) by omega)]
          simp only [cond_false, Option.bind_some]
          have hin : inb label q'.Caps.length = some label.toNat := by
            unfold inb
            rw [if_pos ⟨by omega, e2⟩]
          rw [hin]
          simp only [Option.bind_some, e3]
          rw [hpart]
          simp only [Option.bind_some]
          rw [show (bif least then (capAt s.Conf label (pUp path)[m]).Least else (capAt s.Conf label (pUp path)[m]).Most) = bpOf s.Conf label least (pUp path)[m] from rfl]
          rw [rScale_eq (hv.mono (by omega)) hbp.1 (by omega), Option.bind_some, w64_id (by omega) (by omega)]
        rw [loop_eq, hs]
        dsimp only
        rw [ih (by omega) _ (vscale_le hv hbp.1 hbp.2), List.take_succ_eq_append_getElem (by omega), List.reverse_append]
        rfl
    have := key ((pUp path).length - 1) (by omega) _ (total_bd h.b label)
    rw [show (((pUp path).length - 1 : Nat) : Int) - 1 = ((pUp path).length : Int) - 2 by omega] at this
    rw [this, List.dropLast_eq_take]
    rfl
theorem sLeast_eq {s : State} (h : SC s) {path : Str} (hp : path.length ≤ 1000000) {label : Int} (h0 : 0 ≤ label) (h1 : label < s.Conf.Labels.length) : share_Least s path label = some (pDown s path label true) := by
  unfold share_Least; rw [sdown_eq h hp h0 h1 true (fun c => rfl)]; rfl
theorem few_eq (x : Script) : dispatchlaw7_Script_Few x = some (decide (x.Ns.length ≤ 30) && decide (x.Acts.length ≤ 80)) := by
  unfold dispatchlaw7_Script_Few
  have e1 : decide ((x.Ns.length : Int) ≤ 30) = decide (x.Ns.length ≤ 30) := by rw [decide_eq_decide]; omega
  have e2 : decide ((x.Acts.length : Int) ≤ 80) = decide (x.Acts.length ≤ 80) := by rw [decide_eq_decide]; omega
  rw [e1, e2]
  cases decide (x.Ns.length ≤ 30) <;> rfl
/-- rounds that find nothing -/
theorem loop_ok {step : Int → Option (Int ⊕ (Bool ⊕ Unit))} (n : Nat) (hn : n < 1000000000) (h1 : ∀ k, k < n → step (k : Int) = some (.inl (w64 ((k : Int) + 1)))) (h2 : step (n : Int) = some (.inr (.inr ()))) : loop step 0 = some (.inr ()) := by
  obtain ⟨x, e, rfl⟩ := gv_for (σ := Unit) (Q := fun x => x = (.inr () : Bool ⊕ Unit)) (fun _ i => i) n (fun _ _ => True) (step := step) hn (fun k hk _ _ => gv_eq (h1 k hk) (.inl ⟨(), rfl, trivial⟩)) (fun _ _ => gv_eq h2 ⟨_, rfl, rfl⟩) (s := ()) trivial
  exact e
/-- a path: what is above it, a dot, and what has none -/
theorem path_cut (q : Str) : (46 ∉ q ∧ pAbove q = []) ∨ ∃ r, 46 ∉ r ∧ q = pAbove q ++ 46 :: r := by
  have h0 : q.reverse.takeWhile (· != 46) ++ q.reverse.dropWhile (· != 46) = q.reverse := List.takeWhile_append_dropWhile
  have h1 : 46 ∉ (q.reverse.takeWhile (· != 46)).reverse := by
    intro h
    have := List.all_eq_true.1 (List.all_takeWhile (p := (· != 46)) (l := q.reverse)) _ (List.mem_reverse.1 h)
    simp at this
  have h2 : q = (q.reverse.dropWhile (· != 46)).reverse ++ (q.reverse.takeWhile (· != 46)).reverse := by rw [← List.reverse_append, h0, List.reverse_reverse]
  cases hd : q.reverse.dropWhile (· != 46) with
  | nil =>
    left
    rw [hd] at h2
    refine ⟨?_, by unfold pAbove; rw [hd]; rfl⟩
    rw [h2]
    simpa using h1
  | cons x d =>
    right
    have hx : x = 46 := by
      have : (q.reverse.dropWhile (· != 46)).head? = some x := by rw [hd]; rfl
      have := List.head?_dropWhile_not (· != 46) q.reverse
      rw [hd] at this
      simpa using this
    refine ⟨(q.reverse.takeWhile (· != 46)).reverse, h1, ?_⟩
    unfold pAbove
    rw [hd]
    conv => lhs; rw [h2, hd, hx]
    simp
theorem pre_cut {p u r : Str} (hr : 46 ∉ r) : (p ++ [46]) <+: (u ++ 46 :: r) ↔ p = u ∨ (p ++ [46]) <+: u := by
  constructor
  · intro h
    by_cases h1 : p.length < u.length
    · right
      exact List.prefix_of_prefix_length_le h (List.prefix_append _ _) (by simp; omega)
    · by_cases h2 : p.length = u.length
      · left
        have := List.prefix_of_prefix_length_le (List.IsPrefix.trans (List.prefix_append p [46]) h) (List.prefix_append u _) (by omega)
        exact List.IsPrefix.eq_of_length this h2
      · exfalso
        have hp : u ++ [46] <+: p := by
          refine List.prefix_of_prefix_length_le (l₃ := u ++ 46 :: r) ⟨r, by simp⟩ (List.IsPrefix.trans (List.prefix_append p [46]) h) (by simp; omega)
        obtain ⟨z, rfl⟩ := hp
        obtain ⟨y, hy⟩ := h
        have : z ++ [46] ++ y = r := by
          have : u ++ (46 :: (z ++ [46] ++ y)) = u ++ (46 :: r) := by rw [← hy]; simp
          have := List.append_cancel_left this
          simpa using this
        exact hr (by rw [← this]; simp)
  · rintro (rfl | h)
    · exact ⟨r, by simp⟩
    · exact List.IsPrefix.trans h (List.prefix_append _ _)
theorem up_mem {p : Str} (hp : p ≠ []) : ∀ (n : Nat) (q : Str), q.length ≤ n → (p ∈ pUp q ↔ p = q ∨ (p ++ [46]) <+: q)
  | n, q, hn => by
    by_cases hq : q = []
    · subst hq
      rw [pUp_nil]
      constructor
      · intro h; cases h
      · rintro (h | h)
        · exact absurd h hp
        · have := h.length_le; simp at this
    · rw [pUp_cons hq, List.mem_cons]
      refine or_congr Iff.rfl ?_
      have ha := pAbove_len hq
      match n with
      | 0 => omega
      | n + 1 =>
        rw [up_mem hp n (pAbove q) (by omega)]
        rcases path_cut q with ⟨h1, h2⟩ | ⟨r, h1, h2⟩
        · rw [h2]
          constructor
          · rintro (h | h)
            · exact absurd h hp
            · have := h.length_le; simp at this
          · intro h
            exact absurd (h.subset (by simp)) h1
        · conv => rhs; rw [h2]
          rw [pre_cut h1]
/-- the program's test -/
def pHasP (q p : Str) : Bool := q == p || (p ++ [46]).isPrefixOf q
theorem hasP_eq {q : Str} (hq : PathOk q) (p : Str) : pHasP q p = pBelow q p := by
  have hqn : q ≠ [] := by
    intro e
    have := hq.root
    rw [e] at this
    simp at this
  unfold pHasP pBelow
  rw [Bool.eq_iff_iff, Bool.or_eq_true, beq_iff_eq, List.isPrefixOf_iff_prefix, List.contains_iff_mem]
  by_cases hp : p = []
  · subst hp
    constructor
    · rintro (h | h)
      · exact absurd h hqn
      · exfalso
        rcases hq.root with h1 | h1
        · rw [h1] at h; revert h; decide
        · obtain ⟨z, rfl⟩ := h1
          obtain ⟨y, hy⟩ := h
          have := congrArg List.head? hy
          simp at this
    · intro h
      exfalso
      have key : ∀ (n : Nat) (x : Str), x.length ≤ n → [] ∉ pUp x := by
        intro n
        induction n with
        | zero =>
          intro x hx
          have : x = [] := List.length_eq_zero_iff.1 (by omega)
          subst this
          simp [pUp_nil]
        | succ n ih =>
          intro x hx
          by_cases h : x = []
          · subst h; simp [pUp_nil]
          · have := pAbove_len h
            rw [pUp_cons h]
            simp only [List.mem_cons, not_or]
            exact ⟨fun e => h e.symm, ih _ (by omega)⟩
      exact key _ _ (Nat.le_refl _) h
  · rw [up_mem hp q.length q (Nat.le_refl _)]
    constructor
    · rintro (rfl | h)
      · exact .inl rfl
      · exact .inr h
    · rintro (rfl | h)
      · exact .inl rfl
      · exact .inr h
theorem hasPre_eq (s p : Str) : strings_HasPrefix s p = some (p.isPrefixOf s) := by
  unfold strings_HasPrefix stringslite_HasPrefix
  by_cases h : p.length ≤ s.length
  · rw [decide_eq_true (by omega)]
    unfold slc
    simp only [cond_true]
    rw [if_pos ⟨by omega, by omega, by omega⟩]
    simp only [Option.bind_some, Int.toNat_zero, List.drop_zero, Int.toNat_natCast]
    congr 1
    rw [Bool.eq_iff_iff, beq_iff_eq, List.isPrefixOf_iff_prefix, List.prefix_iff_eq_take]
    exact eq_comm
  · rw [decide_eq_false (by omega)]
    have : p.isPrefixOf s = false := by
      rw [Bool.eq_false_iff]
      intro hc
      have := (List.isPrefixOf_iff_prefix.1 hc).length_le
      omega
    rw [this]
    rfl
theorem has_eq {v : View} {a : App} (hp : v.path.length ≤ 1000000) (ha : PathOk a.Queue) : qtree_view_has v a = some (pBelow a.Queue v.path && (v.user == (-1) || a.User == v.user)) := by
  unfold qtree_view_has
  rw [cat_some (by simp; omega), Option.bind_some, hasPre_eq, ← hasP_eq ha]
  unfold pHasP
  cases a.Queue == v.path <;> cases (v.path ++ [46]).isPrefixOf a.Queue <;> cases v.user == (-1) <;> rfl
theorem owner_eq {v : View} (h : v.s.Apps.length ≤ 100000) (c : Cont) : qtree_view_owner v c = some ((appAt v.s c.App).elim (noA, false) fun x => (x, true)) := by
  unfold qtree_view_owner
  have e := loop_find (fun i => (noA, i)) v.s.Apps (fun x => x.Id == c.App) (fun x => (.inl (x, true) : (App × Bool) ⊕ App)) (.inr noA) (step := qtree_view_owner_l1 v c) (by omega) ?_ ?_ ?_
  · unfold noA at e
    rw [e]
    unfold appAt noA
    cases v.s.Apps.find? fun x => x.Id == c.App <;> rfl
  · intro k hk hf
    unfold qtree_view_owner_l1
    rw [dlt_t hk, idx_at hk]
    simp only [cond_true, Option.bind_some, hf, cond_false]
  · intro k hk hf
    unfold qtree_view_owner_l1
    rw [dlt_t hk, idx_at hk]
    simp only [cond_true, Option.bind_some, hf]
  · unfold qtree_view_owner_l1
    rw [dlt_f]
    rfl
/-- the sizes of what is there, of its label, of its queue, its user's -/
theorem qused_eq {N : Nat} {s : State} (h : Inv N s) {path : Str} (hp : path.length ≤ 1000000) (label user : Int) : qtree_view_used ⟨s, path, label, user⟩ = some (pUsed s path label (user == (-1)) user) := by
  have hcl := h.cl
  have hal := h.al
  unfold qtree_view_used
  rw [loop_vsum (fun v i => (v, i)) s.Conts (pHas s path label (user == (-1)) user) (·.Size) (step := qtree_view_used_l1 ⟨s, path, label, user⟩) (by omega) (fun c hc _ => ((h.sb.cs c hc).mono (by omega))) ?_ ?_]
  · rfl
  · intro k hk v hv
    unfold qtree_view_used_l1
    dsimp only
    rw [dlt_t hk]
    simp only [idx_at hk, cond_true, Option.bind_some]
    rw [owner_eq (by dsimp only; omega), Option.bind_some, Add_eq hv (h.sb.cs _ (List.getElem_mem hk)) (by omega)]
    unfold pHas
    dsimp only
    cases ha : appAt s s.Conts[k].App with
    | none => simp
    | some a =>
      simp only [Option.elim_some, Option.bind_some, cond_true]
      rw [has_eq (by dsimp only; omega) (h.ak a (find_id2 (id := fun x : App => x.Id) ha).1).path]
      dsimp only
      rcases Bool.eq_false_or_eq_true (pBelow a.Queue path) with hb | hb <;> simp only [hb] <;> cases s.Conts[k].Label == label <;> cases user == (-1) <;> cases a.User == user <;> rfl
  · intro v
    unfold qtree_view_used_l1
    dsimp only
    rw [dlt_f]
    rfl
theorem pUsed_all (s : State) (path : Str) (label u w : Int) : pUsed s path label true u = pUsed s path label true w := by
  have : pHas s path label true u = pHas s path label true w := by
    funext c
    unfold pHas
    cases appAt s c.App <;> simp
  unfold pUsed
  rw [this]
theorem qUsed_eq {N : Nat} {s : State} (h : Inv N s) {path : Str} (hp : path.length ≤ 1000000) (label : Int) : qtree_Used s path label = some (pUsed s path label true 0) := by
  unfold qtree_Used
  have := qused_eq h hp label (-1)
  rw [show ((-1 : Int) == -1) = true from rfl, pUsed_all s path label (-1) 0] at this
  rw [this]
  rfl
theorem script_law {x : Script} {m : State → Option Bool} (h : ∀ s, Inv 400000 s → m s = some true) : ((dispatchlaw7_Script_Few x).bind fun x2 => bif ! x2 then some true else (dispatchlaw7_Script_State x).bind m) = some true := by
  rw [few_eq]
  by_cases h1 : x.Ns.length ≤ 30
  · by_cases h2 : x.Acts.length ≤ 80
    · rw [decide_eq_true h1, decide_eq_true h2]
      obtain ⟨s, e, hs⟩ := State_gv x h1 h2
      simp only [Bool.and_self, Bool.not_true, cond_false, Option.bind_some]
      rw [e, Option.bind_some]
      exact h s hs
    · rw [decide_eq_false h2, Bool.and_false]
      rfl
  · rw [decide_eq_false h1]
    rfl
theorem bl_irrefl : ∀ a : Str, Op.bytesLess a a = false
  | [] => rfl
  | x :: a => by
    unfold Op.bytesLess
    rw [bl_irrefl a]
    have : ¬ x < x := by rw [UInt8.lt_iff_toNat_lt]; omega
    simp [this]
theorem bl_trans : ∀ {a b c : Str}, Op.bytesLess a b = true → Op.bytesLess b c = true → Op.bytesLess a c = true
  | _, [], _, h, _ => by simp [Op.bytesLess] at h
  | _, _ :: _, [], _, h => by simp [Op.bytesLess] at h
  | [], y :: b, z :: c, _, _ => by simp [Op.bytesLess]
  | x :: a, y :: b, z :: c, h1, h2 => by
    unfold Op.bytesLess at *
    simp only [Bool.or_eq_true, decide_eq_true_eq, Bool.and_eq_true, beq_iff_eq] at *
    simp only [UInt8.lt_iff_toNat_lt] at *
    rcases h1 with h1 | ⟨rfl, h1⟩
    · rcases h2 with h2 | ⟨rfl, h2⟩
      · left; omega
      · left; exact h1
    · rcases h2 with h2 | ⟨rfl, h2⟩
      · left; exact h2
      · right; exact ⟨rfl, bl_trans h1 h2⟩
theorem bl_tri : ∀ {a b : Str}, Op.bytesLess a b = false → a ≠ b → Op.bytesLess b a = true
  | [], [], _, h => absurd rfl h
  | [], _ :: _, h, _ => by simp [Op.bytesLess] at h
  | _ :: _, [], _, _ => by simp [Op.bytesLess]
  | x :: a, y :: b, h, hn => by
    unfold Op.bytesLess at *
    simp only [Bool.or_eq_false_iff, decide_eq_false_iff_not, Bool.and_eq_false_iff, beq_eq_false_iff_ne, Bool.or_eq_true, decide_eq_true_eq, Bool.and_eq_true, beq_iff_eq] at *
    simp only [UInt8.lt_iff_toNat_lt] at *
    by_cases hx : x = y
    · subst hx
      right
      refine ⟨rfl, bl_tri ?_ (fun e => hn (by rw [e]))⟩
      rcases h.2 with h | h
      · exact absurd rfl h
      · exact h
    · left
      have : x.toNat ≠ y.toNat := fun e => hx (UInt8.toNat_inj.1 e)
      omega
theorem paths_rise {c : Conf} (h : ConfOk c) : (c.Queues.map (·.Path)).Pairwise fun x y => Op.bytesLess x y = true := by
  have hn : ∀ j (hj : j + 1 < c.Queues.length), Op.bytesLess c.Queues[j].Path c.Queues[j + 1].Path = true := by
    intro j hj
    have := (h.q (j + 1) hj).less c.Queues[j] (by omega) (by simp)
    unfold strLe at this
    rw [Bool.or_eq_false_iff, beq_eq_false_iff_ne] at this
    exact bl_tri this.1 this.2
  have key : ∀ j i (hij : i < j) (hj : j < c.Queues.length), Op.bytesLess (c.Queues[i]'(by omega)).Path c.Queues[j].Path = true := by
    intro j
    induction j with
    | zero => intro i hij; omega
    | succ j ih =>
      intro i hij hj
      by_cases he : i = j
      · subst he; exact hn i hj
      · exact bl_trans (ih i (by omega) (by omega)) (hn j hj)
  rw [List.pairwise_iff_getElem]
  intro i j hi hj hij
  rw [List.getElem_map, List.getElem_map]
  exact key j i hij (by simpa using hj)
theorem paths_nodup {c : Conf} (h : ConfOk c) : (c.Queues.map (·.Path)).Nodup :=
  (paths_rise h).imp fun hab e => by rw [e, bl_irrefl] at hab; cases hab
theorem kids_nodup {c : Conf} (h : ConfOk c) (p : Str) : (pKids c p).Nodup := by
  unfold pKids
  split
  · exact List.nodup_nil
  · exact (List.filter_sublist.map _).nodup (paths_nodup h)
/-- a vector within the bounds -/
def Ok (v : Vec) : Prop := 0 ≤ v.Mem ∧ v.Mem ≤ 1125899906842624 ∧ 0 ≤ v.Cores ∧ v.Cores ≤ 1125899906842624
instance (v : Vec) : Decidable (Ok v) := by unfold Ok; exact inferInstance
theorem ogood_eq (v : Vec) : rvec_vec_good v = some (decide (Ok v)) := by
  unfold rvec_vec_good Ok
  by_cases h1 : 0 ≤ v.Mem <;> by_cases h2 : v.Mem ≤ 1125899906842624 <;> by_cases h3 : 0 ≤ v.Cores <;> by_cases h4 : v.Cores ≤ 1125899906842624 <;> simp [h1, h2, h3, h4]
theorem omay_eq (v : Vec) : dispatchref1_may v = some (decide (Ok v)) := by
  unfold dispatchref1_may dispatchref1_part Ok
  by_cases h1 : 0 ≤ v.Mem <;> by_cases h2 : v.Mem ≤ 1125899906842624 <;> by_cases h3 : 0 ≤ v.Cores <;> by_cases h4 : v.Cores ≤ 1125899906842624 <;> simp [h1, h2, h3, h4]
/-- two ratios, held against one another -/
def rcmp (n a m b : Int) : Int := if a = 0 then (if b = 0 then 0 else 1) else if b = 0 then -1 else if n * b < m * a then -1 else if n * b = m * a then 0 else 1
theorem compare_eq (r q : Ratio) (h1 : 0 ≤ r.n ∧ r.n ≤ 1125899906842624) (h2 : 0 ≤ r.of ∧ r.of ≤ 1125899906842624) (h3 : 0 ≤ q.n ∧ q.n ≤ 1125899906842624) (h4 : 0 ≤ q.of ∧ q.of ≤ 1125899906842624) :
    rvec_ratio_compare r q = some (rcmp r.n r.of q.n q.of) := by
  obtain ⟨n, a⟩ := r
  obtain ⟨m, b⟩ := q
  dsimp only at *
  obtain ⟨n, rfl⟩ := Int.eq_ofNat_of_zero_le h1.1
  obtain ⟨a, rfl⟩ := Int.eq_ofNat_of_zero_le h2.1
  obtain ⟨m, rfl⟩ := Int.eq_ofNat_of_zero_le h3.1
  obtain ⟨b, rfl⟩ := Int.eq_ofNat_of_zero_le h4.1
  unfold rvec_ratio_compare rcmp
  dsimp only
  rw [mul64_eq n b (by omega) (by omega), mul64_eq m a (by omega) (by omega)]
  by_cases ha : a = 0
  · subst ha
    by_cases hb : b = 0
    · subst hb; rfl
    · have e : (((b : Nat) : Int) == 0) = false := by rw [beq_eq_false_iff_ne]; omega
      rw [if_pos (show (((0 : Nat) : Int)) = 0 from rfl), if_neg (show ¬ ((b : Nat) : Int) = 0 by omega)]
      simp [e]
  · have ea : (((a : Nat) : Int) == 0) = false := by rw [beq_eq_false_iff_ne]; omega
    rw [if_neg (show ¬ ((a : Nat) : Int) = 0 by omega)]
    by_cases hb : b = 0
    · subst hb
      rw [if_pos (show (((0 : Nat) : Int)) = 0 from rfl)]
      simp [ea]
    · have eb : (((b : Nat) : Int) == 0) = false := by rw [beq_eq_false_iff_ne]; omega
      rw [if_neg (show ¬ ((b : Nat) : Int) = 0 by omega)]
      simp only [ea, eb, cond_false, Option.bind_some]
      rw [← Int.natCast_mul, ← Int.natCast_mul]
      generalize n * b = X
      generalize m * a = Y
      rcases Nat.lt_trichotomy X Y with h | h | h
      · rw [if_pos (by omega)]
        by_cases hh : X / 18446744073709551616 < Y / 18446744073709551616
        · have : decide (((X / 18446744073709551616 : Nat) : Int) < ((Y / 18446744073709551616 : Nat) : Int)) = true := by rw [decide_eq_true_eq]; omega
          simp only [this, cond_true, Option.bind_some]
        · have e1 : decide (((X / 18446744073709551616 : Nat) : Int) < ((Y / 18446744073709551616 : Nat) : Int)) = false := by rw [decide_eq_false_iff_not]; omega
          have e2 : (((X / 18446744073709551616 : Nat) : Int) == ((Y / 18446744073709551616 : Nat) : Int)) = true := by rw [beq_iff_eq]; omega
          have e3 : decide (((X % 18446744073709551616 : Nat) : Int) < ((Y % 18446744073709551616 : Nat) : Int)) = true := by rw [decide_eq_true_eq]; omega
          simp only [e1, e2, e3, cond_true, cond_false, Option.bind_some]
      · subst h
        rw [if_neg (by omega), if_pos rfl]
        have e1 : ∀ x : Int, decide (x < x) = false := fun x => by rw [decide_eq_false_iff_not]; omega
        simp only [e1, beq_self_eq_true, cond_true, cond_false, Option.bind_some]
      · rw [if_neg (by omega), if_neg (by omega)]
        by_cases hh : Y / 18446744073709551616 < X / 18446744073709551616
        · have e1 : decide (((X / 18446744073709551616 : Nat) : Int) < ((Y / 18446744073709551616 : Nat) : Int)) = false := by rw [decide_eq_false_iff_not]; omega
          have e2 : (((X / 18446744073709551616 : Nat) : Int) == ((Y / 18446744073709551616 : Nat) : Int)) = false := by rw [beq_eq_false_iff_ne]; omega
          simp only [e1, e2, cond_true, cond_false, Option.bind_some]
        · have e1 : decide (((X / 18446744073709551616 : Nat) : Int) < ((Y / 18446744073709551616 : Nat) : Int)) = false := by rw [decide_eq_false_iff_not]; omega
          have e2 : (((X / 18446744073709551616 : Nat) : Int) == ((Y / 18446744073709551616 : Nat) : Int)) = true := by rw [beq_iff_eq]; omega
          have e3 : decide (((X % 18446744073709551616 : Nat) : Int) < ((Y % 18446744073709551616 : Nat) : Int)) = false := by rw [decide_eq_false_iff_not]; omega
          have e4 : (((X % 18446744073709551616 : Nat) : Int) == ((Y % 18446744073709551616 : Nat) : Int)) = false := by rw [beq_eq_false_iff_ne]; omega
          simp only [e1, e2, e3, e4, cond_true, cond_false, Option.bind_some]
theorem shr25 (x : Int) : shrK .i64 x 25 = x / 33554432 := by
  show x.fdiv (2 ^ min (25 : Int).toNat IntKind.i64.bits) = _
  rw [show (2 ^ min (25 : Int).toNat IntKind.i64.bits : Int) = 33554432 from by decide, Int.fdiv_eq_ediv_of_nonneg _ (by decide)]
theorem shr50 (x : Int) : shrK .i64 x 50 = x / 1125899906842624 := by
  show x.fdiv (2 ^ min (50 : Int).toNat IntKind.i64.bits) = _
  rw [show (2 ^ min (50 : Int).toNat IntKind.i64.bits : Int) = 1125899906842624 from by decide, Int.fdiv_eq_ediv_of_nonneg _ (by decide)]
theorem shl25 (x : Int) : shlK .i64 x 25 = w64 (x * 33554432) := by
  show IntKind.i64.wrap (x * 2 ^ min (25 : Int).toNat IntKind.i64.bits) = _
  rw [show (2 ^ min (25 : Int).toNat IntKind.i64.bits : Int) = 33554432 from by decide]
theorem andI (a b : Nat) (ha : a < 9223372036854775808) (hb : b < 9223372036854775808) : andK .i64 (a : Int) (b : Int) = ((a &&& b : Nat) : Int) := by
  show IntKind.i64.wrap ((BitVec.ofInt 64 (a : Int) &&& BitVec.ofInt 64 (b : Int)).toNat) = _
  have e : ((BitVec.ofInt 64 (a : Int) &&& BitVec.ofInt 64 (b : Int)).toNat) = a &&& b := by
    rw [BitVec.toNat_and, BitVec.toNat_ofInt, BitVec.toNat_ofInt]
    congr 1 <;> omega
  rw [e]
  have : a &&& b ≤ a := Nat.and_le_left
  exact w64_id (by omega) (by omega)
theorem and25 (a : Nat) (ha : a < 9223372036854775808) : andK .i64 (a : Int) 33554431 = ((a % 33554432 : Nat) : Int) := by
  have := andI a 33554431 ha (by omega)
  rw [show ((33554431 : Nat) : Int) = 33554431 from rfl] at this
  rw [this, show (33554431 : Nat) = 2 ^ 25 - 1 from rfl, Nat.and_two_pow_sub_one_eq_mod]
theorem and50 (a : Nat) (ha : a < 9223372036854775808) : andK .i64 (a : Int) 1125899906842623 = ((a % 1125899906842624 : Nat) : Int) := by
  have := andI a 1125899906842623 ha (by omega)
  rw [show ((1125899906842623 : Nat) : Int) = 1125899906842623 from rfl] at this
  rw [this, show (1125899906842623 : Nat) = 2 ^ 50 - 1 from rfl, Nat.and_two_pow_sub_one_eq_mod]
theorem wide_eq (a b : Nat) (ha : a ≤ 1125899906842624) (hb : b ≤ 1125899906842624) : dispatchref1_wide (a : Int) (b : Int) = some (((a * b / 1125899906842624 : Nat) : Int), ((a * b % 1125899906842624 : Nat) : Int)) := by
  have le : ∀ {x y X Y : Nat}, x ≤ X → y ≤ Y → x * y ≤ X * Y := fun h k => Nat.mul_le_mul h k
  have p1 := le (show a / 33554432 ≤ 33554432 by omega) (show b / 33554432 ≤ 33554432 by omega)
  have p2 := le (show a / 33554432 ≤ 33554432 by omega) (show b % 33554432 ≤ 33554432 by omega)
  have p3 := le (show a % 33554432 ≤ 33554432 by omega) (show b / 33554432 ≤ 33554432 by omega)
  have p4 := le (show a % 33554432 ≤ 33554432 by omega) (show b % 33554432 ≤ 33554432 by omega)
  have hab : a * b = a / 33554432 * (b / 33554432) * 1125899906842624 + (a / 33554432 * (b % 33554432) + a % 33554432 * (b / 33554432)) * 33554432 + a % 33554432 * (b % 33554432) := by
    have e1 : a = a / 33554432 * 33554432 + a % 33554432 := by omega
    have e2 : b = b / 33554432 * 33554432 + b % 33554432 := by omega
    have := Lib.split_mul (a / 33554432) (a % 33554432) (b / 33554432) (b % 33554432) 33554432
    rw [← e1, ← e2] at this
    rw [this]
  have w : ∀ x : Nat, x ≤ 9223372036854775807 → w64 (x : Int) = (x : Int) := fun x hx => w64_id (by omega) (by omega)
  have d : ∀ x : Nat, (x : Int) / 33554432 = ((x / 33554432 : Nat) : Int) := fun x => by omega
  have d5 : ∀ x : Nat, (x : Int) / 1125899906842624 = ((x / 1125899906842624 : Nat) : Int) := fun x => by omega
  have m : ∀ x y : Nat, (x : Int) * (y : Int) = ((x * y : Nat) : Int) := fun x y => (Int.natCast_mul x y).symm
  have m5 : ∀ x : Nat, (x : Int) * 33554432 = ((x * 33554432 : Nat) : Int) := fun x => by omega
  have p : ∀ x y : Nat, (x : Int) + (y : Int) = ((x + y : Nat) : Int) := fun x y => (Int.natCast_add x y).symm
  unfold dispatchref1_wide
  simp only [shr25, shr50, shl25, d]
  rw [and25 a (by omega), and25 b (by omega)]
  simp only [m]
  rw [hab]
  generalize a / 33554432 * (b / 33554432) = X1 at *
  generalize a / 33554432 * (b % 33554432) = X2 at *
  generalize a % 33554432 * (b / 33554432) = X3 at *
  generalize a % 33554432 * (b % 33554432) = X4 at *
  rw [w X1 (by omega), w X2 (by omega), w X3 (by omega), w X4 (by omega)]
  simp only [p]
  rw [w (X2 + X3) (by omega), and25 (X2 + X3) (by omega)]
  simp only [d, m5]
  rw [w ((X2 + X3) % 33554432 * 33554432) (by omega)]
  simp only [p]
  rw [w (X1 + (X2 + X3) / 33554432) (by omega), w (X4 + (X2 + X3) % 33554432 * 33554432) (by omega), and50 _ (by omega)]
  simp only [d5, p]
  rw [w _ (by omega)]
  congr 2
  · congr 1; omega
  · congr 1; omega
/-- what is nothing is a part of one -/
def nm (n a : Int) : Int := if n = 0 then 1 else a
theorem two_words (X Y : Nat) : (((bif decide (((X / 1125899906842624 : Nat) : Int) < ((Y / 1125899906842624 : Nat) : Int)) then some true else
    bif ((X / 1125899906842624 : Nat) : Int) == ((Y / 1125899906842624 : Nat) : Int) then some (decide (((X % 1125899906842624 : Nat) : Int) < ((Y % 1125899906842624 : Nat) : Int))) else some false) : Option Bool) = some (decide (X < Y))) ∧
    (((bif ((X / 1125899906842624 : Nat) : Int) == ((Y / 1125899906842624 : Nat) : Int) then some (((X % 1125899906842624 : Nat) : Int) == ((Y % 1125899906842624 : Nat) : Int)) else some false) : Option Bool) = some (decide (X = Y))) := by
  have t1 : ((((X / 1125899906842624 : Nat) : Int) == ((Y / 1125899906842624 : Nat) : Int))) = decide (X / 1125899906842624 = Y / 1125899906842624) := by
    rw [Bool.eq_iff_iff, beq_iff_eq, decide_eq_true_eq]; omega
  have t2 : ((((X % 1125899906842624 : Nat) : Int) == ((Y % 1125899906842624 : Nat) : Int))) = decide (X % 1125899906842624 = Y % 1125899906842624) := by
    rw [Bool.eq_iff_iff, beq_iff_eq, decide_eq_true_eq]; omega
  rw [t1, t2]
  constructor
  · by_cases h : X / 1125899906842624 < Y / 1125899906842624
    · rw [decide_eq_true (by omega : ((X / 1125899906842624 : Nat) : Int) < ((Y / 1125899906842624 : Nat) : Int)), decide_eq_true (by omega : X < Y)]; rfl
    · rw [decide_eq_false (by omega : ¬ ((X / 1125899906842624 : Nat) : Int) < ((Y / 1125899906842624 : Nat) : Int))]
      by_cases k : X / 1125899906842624 = Y / 1125899906842624
      · rw [decide_eq_true k]
        simp only [cond_true, cond_false, Option.some.injEq, decide_eq_decide]
        omega
      · rw [decide_eq_false k, decide_eq_false (by omega : ¬ X < Y)]; rfl
  · by_cases k : X / 1125899906842624 = Y / 1125899906842624
    · rw [decide_eq_true k]
      simp only [cond_true, Option.some.injEq, decide_eq_decide]
      omega
    · rw [decide_eq_false k, decide_eq_false (by omega : ¬ X = Y)]; rfl
theorem rorder_nat (x a y b : Nat) (hx : x ≤ 1125899906842624) (ha : a ≤ 1125899906842624) (hy : y ≤ 1125899906842624) (hb : b ≤ 1125899906842624) :
    dispatchref1_order ⟨(x : Int), (a : Int)⟩ ⟨(y : Int), (b : Int)⟩ = some (rcmp x (nm x a) y (nm y b)) := by
  unfold dispatchref1_order
  have n1 : ((bif ((x : Int) == 0) then some (⟨(x : Int), 1⟩ : Frac) else some ⟨(x : Int), (a : Int)⟩) : Option Frac) = some ⟨(x : Int), nm x a⟩ := by
    unfold nm
    by_cases h : (x : Int) = 0
    · rw [if_pos h, (beq_iff_eq.2 h : ((x : Int) == 0) = true)]; rfl
    · rw [if_neg h, (beq_eq_false_iff_ne.2 h : ((x : Int) == 0) = false)]; rfl
  have n2 : ((bif ((y : Int) == 0) then some (⟨(y : Int), 1⟩ : Frac) else some ⟨(y : Int), (b : Int)⟩) : Option Frac) = some ⟨(y : Int), nm y b⟩ := by
    unfold nm
    by_cases h : (y : Int) = 0
    · rw [if_pos h, (beq_iff_eq.2 h : ((y : Int) == 0) = true)]; rfl
    · rw [if_neg h, (beq_eq_false_iff_ne.2 h : ((y : Int) == 0) = false)]; rfl
  dsimp only
  rw [n1, n2]
  obtain ⟨a', ha', ea⟩ : ∃ k : Nat, k ≤ 1125899906842624 ∧ nm x a = (k : Int) := by
    unfold nm
    split
    · exact ⟨1, by omega, rfl⟩
    · exact ⟨a, ha, rfl⟩
  obtain ⟨b', hb', eb⟩ : ∃ k : Nat, k ≤ 1125899906842624 ∧ nm y b = (k : Int) := by
    unfold nm
    split
    · exact ⟨1, by omega, rfl⟩
    · exact ⟨b, hb, rfl⟩
  rw [ea, eb]
  dsimp only [Option.bind_some]
  unfold rcmp
  by_cases h0 : a' = 0
  · subst h0
    by_cases k0 : b' = 0
    · subst k0; rfl
    · have e : (((b' : Nat) : Int) == 0) = false := by rw [beq_eq_false_iff_ne]; omega
      rw [if_pos (show (((0 : Nat) : Int)) = 0 from rfl), if_neg (show ¬ ((b' : Nat) : Int) = 0 by omega)]
      simp [e]
  · have e0 : (((a' : Nat) : Int) == 0) = false := by rw [beq_eq_false_iff_ne]; omega
    rw [if_neg (show ¬ ((a' : Nat) : Int) = 0 by omega)]
    by_cases k0 : b' = 0
    · subst k0
      rw [if_pos (show (((0 : Nat) : Int)) = 0 from rfl)]
      simp [e0]
    · have e1 : (((b' : Nat) : Int) == 0) = false := by rw [beq_eq_false_iff_ne]; omega
      rw [if_neg (show ¬ ((b' : Nat) : Int) = 0 by omega), wide_eq x b' hx hb', wide_eq y a' hy ha', ← Int.natCast_mul, ← Int.natCast_mul]
      simp only [e0, e1, cond_false, Option.bind_some]
      obtain ⟨w1, w2⟩ := two_words (x * b') (y * a')
      rw [w1, w2]
      generalize x * b' = X
      generalize y * a' = Y
      simp only [Option.bind_some]
      rcases Nat.lt_trichotomy X Y with h | h | h
      · rw [decide_eq_true h, if_pos (by omega)]; rfl
      · rw [decide_eq_false (by omega : ¬ X < Y), decide_eq_true h, if_neg (by omega), if_pos (by omega)]; rfl
      · rw [decide_eq_false (by omega : ¬ X < Y), decide_eq_false (by omega : ¬ X = Y), if_neg (by omega), if_neg (by omega)]; rfl
theorem of_mem (a p : Vec) (ha : Ok a) (hp : Ok p) : rvec_of a p (fun a => rvec_vec_mem a.1) = some ⟨a.Mem, nm a.Mem p.Mem⟩ := by
  unfold rvec_of rvec_vec_mem nm
  simp only [Option.bind_some]
  unfold Ok at ha hp
  by_cases h : a.Mem = 0
  · rw [if_pos h, (beq_iff_eq.2 h : (a.Mem == 0) = true), h]; rfl
  · rw [if_neg h, (beq_eq_false_iff_ne.2 h : (a.Mem == 0) = false), u64id (by omega) (by omega), u64id (by omega) (by omega)]; rfl
theorem of_cores (a p : Vec) (ha : Ok a) (hp : Ok p) : rvec_of a p (fun a => rvec_vec_cores a.1) = some ⟨a.Cores, nm a.Cores p.Cores⟩ := by
  unfold rvec_of rvec_vec_cores nm
  simp only [Option.bind_some]
  unfold Ok at ha hp
  by_cases h : a.Cores = 0
  · rw [if_pos h, (beq_iff_eq.2 h : (a.Cores == 0) = true), h]; rfl
  · rw [if_neg h, (beq_eq_false_iff_ne.2 h : (a.Cores == 0) = false), u64id (by omega) (by omega), u64id (by omega) (by omega)]; rfl
theorem nm_bd {n a : Int} (h : 0 ≤ a ∧ a ≤ 1125899906842624) : 0 ≤ nm n a ∧ nm n a ≤ 1125899906842624 := by unfold nm; split <;> omega
/-- a load: the greater one of two parts -/
def ld (a p : Vec) : Int × Int := if rcmp a.Mem (nm a.Mem p.Mem) a.Cores (nm a.Cores p.Cores) < 0 then (a.Cores, nm a.Cores p.Cores) else (a.Mem, nm a.Mem p.Mem)
theorem ld_bd {a p : Vec} (ha : Ok a) (hp : Ok p) : (0 ≤ (ld a p).1 ∧ (ld a p).1 ≤ 1125899906842624) ∧ (0 ≤ (ld a p).2 ∧ (ld a p).2 ≤ 1125899906842624) := by
  have h1 := nm_bd (n := a.Mem) (a := p.Mem) ⟨hp.1, hp.2.1⟩
  have h2 := nm_bd (n := a.Cores) (a := p.Cores) ⟨hp.2.2.1, hp.2.2.2⟩
  unfold ld
  unfold Ok at ha
  split
  · exact ⟨⟨ha.2.2.1, ha.2.2.2⟩, h2⟩
  · exact ⟨⟨ha.1, ha.2.1⟩, h1⟩
theorem load_eq {a p : Vec} (ha : Ok a) (hp : Ok p) : rvec_load a p = some ⟨(ld a p).1, (ld a p).2⟩ := by
  unfold rvec_load
  rw [of_mem a p ha hp, of_cores a p ha hp]
  have h1 := nm_bd (n := a.Mem) (a := p.Mem) ⟨hp.1, hp.2.1⟩
  have h2 := nm_bd (n := a.Cores) (a := p.Cores) ⟨hp.2.2.1, hp.2.2.2⟩
  simp only [Option.bind_some]
  rw [compare_eq _ _ ⟨ha.1, ha.2.1⟩ h1 ⟨ha.2.2.1, ha.2.2.2⟩ h2]
  unfold ld
  simp only [Option.bind_some]
  by_cases h : rcmp a.Mem (nm a.Mem p.Mem) a.Cores (nm a.Cores p.Cores) < 0
  · rw [if_pos h, decide_eq_true h]; rfl
  · rw [if_neg h, decide_eq_false h]; rfl
theorem order_eq (a p b q : Vec) : rvec_Order a p b q = some (if Ok a ∧ Ok p ∧ Ok b ∧ Ok q then rcmp (ld a p).1 (ld a p).2 (ld b q).1 (ld b q).2 else 0) := by
  unfold rvec_Order
  simp only [ogood_eq]
  by_cases h1 : Ok a <;> by_cases h2 : Ok p <;> by_cases h3 : Ok b <;> by_cases h4 : Ok q <;> simp only [h1, h2, h3, h4, decide_true, decide_false, Option.bind_some, Bool.not_true, Bool.not_false, cond_true, cond_false, and_self, and_true, and_false, false_and, if_true, if_false]
  rw [load_eq h1 h2, load_eq h3 h4]
  simp only [Option.bind_some]
  rw [compare_eq _ _ (ld_bd h1 h2).1 (ld_bd h1 h2).2 (ld_bd h3 h4).1 (ld_bd h3 h4).2]
  rfl
theorem rorder_eq (x y : Frac) (h1 : 0 ≤ x.A ∧ x.A ≤ 1125899906842624) (h2 : 0 ≤ x.P ∧ x.P ≤ 1125899906842624) (h3 : 0 ≤ y.A ∧ y.A ≤ 1125899906842624) (h4 : 0 ≤ y.P ∧ y.P ≤ 1125899906842624) :
    dispatchref1_order x y = some (rcmp x.A (nm x.A x.P) y.A (nm y.A y.P)) := by
  obtain ⟨n, a⟩ := x
  obtain ⟨m, b⟩ := y
  dsimp only at *
  obtain ⟨n, rfl⟩ := Int.eq_ofNat_of_zero_le h1.1
  obtain ⟨a, rfl⟩ := Int.eq_ofNat_of_zero_le h2.1
  obtain ⟨m, rfl⟩ := Int.eq_ofNat_of_zero_le h3.1
  obtain ⟨b, rfl⟩ := Int.eq_ofNat_of_zero_le h4.1
  exact rorder_nat n a m b (by omega) (by omega) (by omega) (by omega)
theorem rOrder_eq (a p b q : Vec) : dispatchref1_Order a p b q = rvec_Order a p b q := by
  rw [order_eq]
  have key : ∀ {a p : Vec}, Ok a → Ok p → ∃ f : Frac, dispatchref1_load a p = some f ∧ (0 ≤ f.A ∧ f.A ≤ 1125899906842624) ∧ (0 ≤ f.P ∧ f.P ≤ 1125899906842624) ∧ (ld a p).1 = f.A ∧ (ld a p).2 = nm f.A f.P := by
    intro a p ha hp
    unfold dispatchref1_load ld
    rw [rorder_eq _ _ ⟨ha.1, ha.2.1⟩ ⟨hp.1, hp.2.1⟩ ⟨ha.2.2.1, ha.2.2.2⟩ ⟨hp.2.2.1, hp.2.2.2⟩]
    simp only [Option.bind_some]
    by_cases h : rcmp a.Mem (nm a.Mem p.Mem) a.Cores (nm a.Cores p.Cores) < 0
    · rw [if_pos h, decide_eq_true h]
      exact ⟨_, rfl, ⟨ha.2.2.1, ha.2.2.2⟩, ⟨hp.2.2.1, hp.2.2.2⟩, rfl, rfl⟩
    · rw [if_neg h, decide_eq_false h]
      exact ⟨_, rfl, ⟨ha.1, ha.2.1⟩, ⟨hp.1, hp.2.1⟩, rfl, rfl⟩
  unfold dispatchref1_Order
  simp only [omay_eq]
  by_cases h1 : Ok a <;> by_cases h2 : Ok p <;> by_cases h3 : Ok b <;> by_cases h4 : Ok q <;> simp only [h1, h2, h3, h4, decide_true, decide_false, Option.bind_some, Bool.not_true, Bool.not_false, cond_true, cond_false, and_self, and_true, and_false, false_and, if_true, if_false]
  obtain ⟨f, e1, f1, f2, f3, f4⟩ := key h1 h2
  obtain ⟨k, e2, k1, k2, k3, k4⟩ := key h3 h4
  rw [e1, e2]
  simp only [Option.bind_some]
  rw [rorder_eq f k f1 f2 k1 k2, f3, f4, k3, k4]
  rfl
/-- loads stand in an order -/
theorem cmp_neg {n a m b : Int} (h1 : 0 ≤ a) (h2 : 0 ≤ b) : rcmp n a m b < 0 ↔ (b = 0 ∧ a ≠ 0) ∨ (a ≠ 0 ∧ b ≠ 0 ∧ n * b < m * a) := by
  unfold rcmp
  repeat' split
  all_goals omega
theorem cmp_le {n a m b : Int} (h1 : 0 ≤ a) (h2 : 0 ≤ b) : rcmp n a m b ≤ 0 ↔ b = 0 ∨ (a ≠ 0 ∧ b ≠ 0 ∧ n * b ≤ m * a) := by
  unfold rcmp
  repeat' split
  all_goals omega
theorem mul_chain {n a m b k c : Int} (ha : 0 < a) (hb : 0 < b) (hc : 0 < c) (h1 : n * b ≤ m * a) (h2 : m * c ≤ k * b) : n * c ≤ k * a ∧ (n * b < m * a ∨ m * c < k * b → n * c < k * a) ∧ (n * b = m * a → m * c = k * b → n * c = k * a) := by
  have e1 : n * c * b = n * b * c := by rw [Int.mul_assoc, Int.mul_comm c b, ← Int.mul_assoc]
  have e2 : m * a * c = m * c * a := by rw [Int.mul_assoc, Int.mul_comm a c, ← Int.mul_assoc]
  have e3 : k * b * a = k * a * b := by rw [Int.mul_assoc, Int.mul_comm b a, ← Int.mul_assoc]
  have l1 : n * b * c ≤ m * a * c := Int.mul_le_mul_of_nonneg_right h1 (by omega)
  have l2 : m * c * a ≤ k * b * a := Int.mul_le_mul_of_nonneg_right h2 (by omega)
  refine ⟨?_, ?_, ?_⟩
  · apply Int.le_of_mul_le_mul_right _ hb
    omega
  · rintro (h | h)
    · have l3 : n * b * c < m * a * c := Int.mul_lt_mul_of_pos_right h hc
      apply Int.lt_of_mul_lt_mul_right _ (Int.le_of_lt hb)
      omega
    · have l3 : m * c * a < k * b * a := Int.mul_lt_mul_of_pos_right h ha
      apply Int.lt_of_mul_lt_mul_right _ (Int.le_of_lt hb)
      omega
  · intro h h'
    have : n * c * b = k * a * b := by rw [e1, h, e2, h', e3]
    exact Int.eq_of_mul_eq_mul_right (by omega) this
theorem cmp_chain {n a m b k c : Int} (h1 : 0 ≤ a) (h2 : 0 ≤ b) (h3 : 0 ≤ c) (x : rcmp n a m b ≤ 0) (y : rcmp m b k c ≤ 0) : rcmp n a k c ≤ 0 ∧ (rcmp n a k c < 0 ↔ rcmp n a m b < 0 ∨ rcmp m b k c < 0) := by
  rw [cmp_le h1 h2] at x
  rw [cmp_le h2 h3] at y
  rw [cmp_le h1 h3, cmp_neg h1 h3, cmp_neg h1 h2, cmp_neg h2 h3]
  by_cases hc : c = 0
  · subst hc
    refine ⟨.inl rfl, ?_⟩
    constructor
    · rintro (⟨_, h⟩ | ⟨_, h, _⟩)
      · by_cases hb : b = 0
        · exact .inl (.inl ⟨hb, h⟩)
        · exact .inr (.inl ⟨rfl, hb⟩)
      · exact absurd rfl h
    · rintro ((⟨_, h⟩ | ⟨h, _, _⟩) | (⟨_, h⟩ | ⟨_, h, _⟩))
      · exact .inl ⟨rfl, h⟩
      · exact .inl ⟨rfl, h⟩
      · rcases x with x | ⟨x, _⟩
        · exact absurd x h
        · exact .inl ⟨rfl, x⟩
      · exact absurd rfl h
  · rcases y with y | ⟨y1, _, y2⟩
    · exact absurd y hc
    · rcases x with x | ⟨x1, _, x2⟩
      · exact absurd x y1
      · obtain ⟨k1, k2, k3⟩ := mul_chain (by omega : 0 < a) (by omega : 0 < b) (by omega : 0 < c) x2 y2
        refine ⟨.inr ⟨x1, hc, k1⟩, ?_⟩
        constructor
        · rintro (⟨h, _⟩ | ⟨_, _, h⟩)
          · exact absurd h hc
          · by_cases e1 : n * b < m * a
            · exact .inl (.inr ⟨x1, y1, e1⟩)
            · by_cases e2 : m * c < k * b
              · exact .inr (.inr ⟨y1, hc, e2⟩)
              · have := k3 (by omega) (by omega)
                omega
        · rintro ((⟨h, _⟩ | ⟨_, _, h⟩) | (⟨h, _⟩ | ⟨_, _, h⟩))
          · exact absurd h y1
          · exact .inr ⟨x1, hc, k2 (.inl h)⟩
          · exact absurd h hc
          · exact .inr ⟨x1, hc, k2 (.inr h)⟩
/-- a strict order of what is in l -/
structure SO {α : Type} (lt : α → α → Bool) (l : List α) : Prop where
  irr : ∀ x ∈ l, lt x x = false
  tr : ∀ x ∈ l, ∀ y ∈ l, ∀ z ∈ l, lt x y = true → lt y z = true → lt x z = true
  tot : ∀ x ∈ l, ∀ y ∈ l, x ≠ y → lt x y = true ∨ lt y x = true
theorem SO.sub {α : Type} {lt : α → α → Bool} {l m : List α} (h : SO lt l) (hm : ∀ x ∈ m, x ∈ l) : SO lt m :=
  ⟨fun x hx => h.irr x (hm x hx), fun x hx y hy z hz => h.tr x (hm x hx) y (hm y hy) z (hm z hz), fun x hx y hy => h.tot x (hm x hx) y (hm y hy)⟩
theorem SO.asm {α : Type} {lt : α → α → Bool} {l : List α} (h : SO lt l) {x y : α} (hx : x ∈ l) (hy : y ∈ l) (hl : lt x y = true) : lt y x = false := by
  cases e : lt y x with
  | false => rfl
  | true =>
    have h1 := h.tr x hx y hy x hx hl e
    rw [h.irr x hx] at h1
    exact h1.symm
theorem SO.uniq {α : Type} {lt : α → α → Bool} {l l1 l2 : List α} (h : SO lt l) (p1 : l1.Perm l) (p2 : l2.Perm l) (s1 : l1.Pairwise fun a b => lt a b = true) (s2 : l2.Pairwise fun a b => lt a b = true) : l1 = l2 :=
  List.Perm.eq_of_pairwise (fun a b ha hb h1 h2 => by
    have := h.asm (p1.mem_iff.1 ha) (p2.mem_iff.1 hb) h1
    rw [this] at h2
    cases h2) s1 s2 (p1.trans p2.symm)
theorem SO.isort_pw {α : Type} {lt : α → α → Bool} : ∀ {l : List α}, SO lt l → l.Nodup → (isort lt l).Pairwise fun a b => lt a b = true
  | [], _, _ => .nil
  | x :: l, h, hn => by
    have hn' := List.nodup_cons.1 hn
    have ih := SO.isort_pw (h.sub fun y hy => List.mem_cons_of_mem x hy) hn'.2
    have hp : (isort lt l).Perm l := perm_isort
    unfold isort
    have gen : ∀ m : List α, (∀ y ∈ m, y ∈ l) → m.Pairwise (fun a b => lt a b = true) → (Fx.insG lt x m).Pairwise fun a b => lt a b = true := by
      intro m
      induction m with
      | nil => intro _ _; exact List.pairwise_singleton _ _
      | cons y m ihm =>
        intro hm hs
        have hs' := List.pairwise_cons.1 hs
        have hy : y ∈ l := hm y (by simp)
        unfold Fx.insG
        split
        · rename_i hyx
          refine List.pairwise_cons.2 ⟨fun z hz => ?_, ihm (fun z hz => hm z (by simp [hz])) hs'.2⟩
          rcases Fx.mem_insG.1 hz with rfl | hz
          · exact hyx
          · exact hs'.1 z hz
        · rename_i hyx
          have hxy : lt x y = true := by
            rcases h.tot x (by simp) y (by simp [hy]) (fun e => hn'.1 (e ▸ hy)) with h1 | h1
            · exact h1
            · exact absurd h1 hyx
          refine List.pairwise_cons.2 ⟨fun z hz => ?_, hs⟩
          rcases List.mem_cons.1 hz with rfl | hz'
          · exact hxy
          · exact h.tr x (by simp) y (by simp [hy]) z (by simp [hm z hz]) hxy (hs'.1 z hz')
    exact gen _ (fun y hy => hp.mem_iff.1 hy) ih
theorem SO.insB_pw {α : Type} {lt : α → α → Bool} {l : List α} (h : SO lt l) (hn : l.Nodup) : (l.foldl (insB lt) []).Pairwise fun a b => lt a b = true := by
  have gen : ∀ (m out : List α), (∀ y ∈ m, y ∈ l) → (∀ y ∈ out, y ∈ l) → m.Nodup → (∀ y ∈ m, y ∉ out) → out.Pairwise (fun a b => lt a b = true) → (m.foldl (insB lt) out).Pairwise fun a b => lt a b = true := by
    intro m
    induction m with
    | nil => intro out _ _ _ _ h; exact h
    | cons x m ih =>
      intro out hm ho hnd hd hs
      have hnd' := List.nodup_cons.1 hnd
      have hx : x ∈ l := hm x (by simp)
      rw [List.foldl_cons]
      refine ih _ (fun y hy => hm y (by simp [hy])) (fun y hy => ?_) hnd'.2 (fun y hy hy2 => ?_) ?_
      · rcases insB_mem.1 hy with rfl | hy
        · exact hx
        · exact ho y hy
      · rcases insB_mem.1 hy2 with rfl | hy2
        · exact hnd'.1 hy
        · exact hd y (by simp [hy]) hy2
      · have hxo : x ∉ out := hd x (by simp)
        unfold insB
        have hcat := List.takeWhile_append_dropWhile (p := fun y => !lt x y) (l := out)
        have hs2 : (out.takeWhile (fun y => !lt x y) ++ out.dropWhile fun y => !lt x y).Pairwise fun a b => lt a b = true := by rw [hcat]; exact hs
        have hs3 := List.pairwise_append.1 hs2
        have hdw : ∀ y ∈ out.dropWhile (fun y => !lt x y), lt x y = true := by
          intro y hy
          cases e : out.dropWhile (fun y => !lt x y) with
          | nil => rw [e] at hy; cases hy
          | cons z r =>
            have hz : lt x z = true := by
              have := List.head?_dropWhile_not (fun y => !lt x y) out
              rw [e] at this
              simpa using this
            have hzo : z ∈ out := List.dropWhile_subset _ (by rw [e]; simp)
            rw [e] at hy
            rcases List.mem_cons.1 hy with rfl | hy'
            · exact hz
            · have := hs3.2.1
              rw [e] at this
              exact h.tr x hx z (ho z hzo) y (ho y (List.dropWhile_subset _ (by rw [e]; exact hy))) hz ((List.pairwise_cons.1 this).1 y hy')
        have htw : ∀ y ∈ out.takeWhile (fun y => !lt x y), lt y x = true := by
          intro y hy
          have h1 : lt x y = false := by simpa using tw_imp hy
          have hyo : y ∈ out := (List.takeWhile_sublist _).subset hy
          rcases h.tot x hx y (ho y hyo) (fun e => hxo (e ▸ hyo)) with h2 | h2
          · rw [h1] at h2; cases h2
          · exact h2
        refine List.pairwise_append.2 ⟨hs3.1, List.pairwise_cons.2 ⟨hdw, hs3.2.1⟩, fun a ha b hb => ?_⟩
        rcases List.mem_cons.1 hb with rfl | hb
        · exact htw a ha
        · exact hs3.2.2 a ha b hb
  exact gen l [] (fun _ h => h) (by simp) hn (by simp) .nil
/-- both ways of sorting give the same -/
theorem SO.isort_eq {α : Type} {lt : α → α → Bool} {l : List α} (h : SO lt l) (hn : l.Nodup) : isort lt l = l.foldl (insB lt) [] :=
  h.uniq perm_isort (insB_sort_perm lt l) (h.isort_pw hn) (h.insB_pw hn)
theorem isort_congr {α : Type} {lt lt' : α → α → Bool} {l : List α} (h : ∀ x ∈ l, ∀ y ∈ l, lt x y = lt' x y) : isort lt l = isort lt' l := by
  have gi : ∀ (x : α) (m : List α), (∀ y ∈ m, lt y x = lt' y x) → Fx.insG lt x m = Fx.insG lt' x m := by
    intro x m
    induction m with
    | nil => intro _; rfl
    | cons y m ih =>
      intro hm
      unfold Fx.insG
      rw [hm y (by simp), ih fun z hz => hm z (by simp [hz])]
  induction l with
  | nil => rfl
  | cons x l ih =>
    unfold isort
    rw [ih fun a ha b hb => h a (by simp [ha]) b (by simp [hb])]
    exact gi x _ fun y hy => h y (by simp [(perm_isort (lt := lt') (l := l)).mem_iff.1 hy]) x (by simp)
/-- the program's sorting: where the comparison answers, and stands for a strict order -/
theorem sortA_eq {α : Type} {φ : α → α → Option Int} {lt : α → α → Bool} {l : List α} (hφ : ∀ x ∈ l, ∀ y ∈ l, ∃ c, φ x y = some c ∧ decide (c < 0) = lt x y) (h : SO lt l) (hn : l.Nodup) (hl : l.length < 1000000000) :
    sortA φ l = some (l.foldl (insB lt) []) := by
  have hlt : ∀ x ∈ l, ∀ y ∈ l, ltG φ x y = lt x y := by
    intro x hx y hy
    obtain ⟨c, e, h2⟩ := hφ x hx y hy
    unfold ltG
    rw [e]
    exact h2
  cases l with
  | nil => rfl
  | cons x l =>
    show (if okG (cG φ (x :: l) x) (l.length + 1) && decide (l.length < 1000000000) then some (isort (ltG φ) (x :: l)) else none) = _
    have hl' : l.length + 1 < 1000000000 := hl
    rw [isort_congr hlt, h.isort_eq hn]
    generalize hL : x :: l = L at *
    have hlen : l.length + 1 = L.length := by rw [← hL]; rfl
    rw [hlen]
    have gd : ∀ i (hi : i < L.length), getG L x i = L[i] := fun i hi => by
      unfold getG
      rw [List.getD_eq_getElem?_getD, List.getElem?_eq_getElem hi]
      rfl
    have key : okG (cG φ L x) L.length = true := by
      unfold okG
      simp only [List.all_eq_true, List.mem_range]
      intro i hi j hj
      unfold cG
      rw [gd i hi, gd j hj]
      have mi := List.getElem_mem hi
      have mj := List.getElem_mem hj
      obtain ⟨a, ea, ha⟩ := hφ _ mi _ mj
      obtain ⟨b, eb, hb⟩ := hφ _ mj _ mi
      rw [ea, eb]
      dsimp only
      rw [Bool.and_eq_true]
      constructor
      · split
        · rename_i e
          subst e
          rw [ha, h.irr _ mi]
          rfl
        · rename_i e
          rw [ha, hb]
          have hne : L[i] ≠ L[j] := fun e2 => e ((List.getElem_inj hn).1 e2)
          rcases h.tot _ mi _ mj hne with h1 | h1
          · rw [h1, h.asm mi mj h1]; rfl
          · rw [h1, h.asm mj mi h1]; rfl
      · rw [List.all_eq_true]
        intro k hk
        have hk := List.mem_range.1 hk
        rw [gd k hk]
        have mk := List.getElem_mem hk
        obtain ⟨c, ec, hc⟩ := hφ _ mj _ mk
        obtain ⟨d, ed, hd⟩ := hφ _ mi _ mk
        rw [ec, ed]
        dsimp only
        rw [ha, hc, hd]
        cases h1 : lt L[i] L[j] with
        | false => rfl
        | true =>
          cases h2 : lt L[j] L[k] with
          | false => rfl
          | true => rw [h.tr _ mi _ mj _ mk h1 h2]; rfl
    rw [key, decide_eq_true (by omega : l.length < 1000000000)]
    rfl
/-- how loads stand, by place and name -/
theorem pOrder_rcmp (a p b q : Vec) : pOrder a p b q = if Ok a ∧ Ok p ∧ Ok b ∧ Ok q then rcmp (ld a p).1 (ld a p).2 (ld b q).1 (ld b q).2 else 0 := by
  unfold pOrder
  rw [rOrder_eq, order_eq]
  rfl
theorem VB.ok {n : Int} {v : Vec} (h : VB n v) (hn : n ≤ 1125899906842624) : Ok v := by
  unfold VB at h; unfold Ok; omega
/-- strictly ahead, of loads a over p with the name x -/
def kAhead (a p : Vec) (x : Str) (b q : Vec) (y : Str) : Bool := decide (pOrder a p b q < 0) || (pOrder a p b q == 0 && Op.bytesLess x y)
theorem rcmp_swap {n a m b : Int} (h1 : 0 ≤ a) (h2 : 0 ≤ b) : rcmp n a m b < 0 ∨ rcmp m b n a < 0 ∨ (rcmp n a m b = 0 ∧ rcmp m b n a = 0) := by
  unfold rcmp
  repeat' split
  all_goals omega
theorem rcmp_self (n a : Int) : rcmp n a n a = 0 := by
  unfold rcmp
  repeat' split
  all_goals omega
theorem kAhead_so {α : Type} (f : α → Vec) (g : α → Vec) (nm : α → Str) {l : List α} (hn : ∀ x ∈ l, ∀ y ∈ l, nm x = nm y → x = y) (hf : ∀ x ∈ l, Ok (f x)) (hg : ∀ x ∈ l, Ok (g x)) : SO (fun x y => kAhead (f x) (g x) (nm x) (f y) (g y) (nm y)) l := by
  have ho : ∀ x ∈ l, ∀ y ∈ l, pOrder (f x) (g x) (f y) (g y) = rcmp (ld (f x) (g x)).1 (ld (f x) (g x)).2 (ld (f y) (g y)).1 (ld (f y) (g y)).2 := fun x hx y hy => by
    rw [pOrder_rcmp, if_pos ⟨hf x hx, hg x hx, hf y hy, hg y hy⟩]
  have hb : ∀ x ∈ l, 0 ≤ (ld (f x) (g x)).2 := fun x hx => (ld_bd (hf x hx) (hg x hx)).2.1
  refine ⟨fun x hx => ?_, fun x hx y hy z hz h1 h2 => ?_, fun x hx y hy hne => ?_⟩
  · unfold kAhead
    rw [ho x hx x hx, rcmp_self, bl_irrefl]
    rfl
  · unfold kAhead at h1 h2 ⊢
    rw [ho x hx y hy] at h1
    rw [ho y hy z hz] at h2
    rw [ho x hx z hz]
    simp only [Bool.or_eq_true, Bool.and_eq_true, decide_eq_true_eq, beq_iff_eq] at h1 h2 ⊢
    have c1 : rcmp (ld (f x) (g x)).1 (ld (f x) (g x)).2 (ld (f y) (g y)).1 (ld (f y) (g y)).2 ≤ 0 := by rcases h1 with h | ⟨h, _⟩ <;> omega
    have c2 : rcmp (ld (f y) (g y)).1 (ld (f y) (g y)).2 (ld (f z) (g z)).1 (ld (f z) (g z)).2 ≤ 0 := by rcases h2 with h | ⟨h, _⟩ <;> omega
    obtain ⟨k1, k2⟩ := cmp_chain (hb x hx) (hb y hy) (hb z hz) c1 c2
    rcases h1 with h1 | ⟨h1, b1⟩
    · exact .inl (k2.2 (.inl h1))
    · rcases h2 with h2 | ⟨h2, b2⟩
      · exact .inl (k2.2 (.inr h2))
      · by_cases h3 : rcmp (ld (f x) (g x)).1 (ld (f x) (g x)).2 (ld (f z) (g z)).1 (ld (f z) (g z)).2 < 0
        · exact .inl h3
        · exact .inr ⟨by omega, bl_trans b1 b2⟩
  · unfold kAhead
    rw [ho x hx y hy, ho y hy x hx]
    simp only [Bool.or_eq_true, Bool.and_eq_true, decide_eq_true_eq, beq_iff_eq]
    rcases rcmp_swap (n := (ld (f x) (g x)).1) (m := (ld (f y) (g y)).1) (hb x hx) (hb y hy) with h | h | ⟨h1, h2⟩
    · exact .inl (.inl h)
    · exact .inr (.inl h)
    · cases e : Op.bytesLess (nm x) (nm y) with
      | true => exact .inl (.inr ⟨h1, rfl⟩)
      | false => exact .inr (.inr ⟨h2, bl_tri e fun e2 => hne (hn x hx y hy e2)⟩)
theorem rAbove_ok {p : Str} (h : PathOk p) : rule_above p = some (pAbove p, !(pAbove p == [])) := by
  have hp : p.length < 1000000000 := by have := h.len; omega
  have e : strings_LastIndex p [46] = bytealg_LastIndexByteString p 46 := by
    unfold strings_LastIndex
    rw [show ((([46] : List UInt8).length : Int) == 0) = false from rfl, show ((([46] : List UInt8).length : Int) == 1) = true from rfl]
    simp only [cond_true, cond_false]
    rw [show idx ([46] : List UInt8) 0 = some 46 from rfl, Option.bind_some]
    show (bytealg_LastIndexByteString p 46).bind some = _
    cases bytealg_LastIndexByteString p 46 <;> rfl
  have hhead : ∀ r, p ≠ 46 :: r := by
    intro r er
    rcases h.root with h1 | h1
    · rw [h1] at er; cases er
    · obtain ⟨t, h1⟩ := h1
      rw [er] at h1; cases h1
  unfold rule_above
  rw [e]
  unfold bytealg_LastIndexByteString
  dsimp only
  rw [w64_id (by omega) (by omega), byte_loop p hp p.length (Nat.le_refl _), List.take_length, pAbove_take]
  have hle := (List.dropWhile_suffix (· != 46) (l := p.reverse)).length_le
  rw [List.length_reverse] at hle
  have hone : (p.reverse.dropWhile (· != 46)).length ≠ 1 := by
    intro h1
    rcases path_cut p with ⟨h2, _⟩ | ⟨r, h2, h3⟩
    · cases hd : p.reverse.dropWhile (· != 46) with
      | nil => rw [hd] at h1; cases h1
      | cons x d =>
        have := List.head?_dropWhile_not (fun y : UInt8 => y != 46) p.reverse
        rw [hd] at this
        have hx : x = 46 := by simpa using this
        have hm : x ∈ p.reverse := List.dropWhile_subset _ (by rw [hd]; simp)
        exact h2 (hx ▸ List.mem_reverse.1 hm)
    · rw [pAbove_take, h1] at h3
      exact hhead r (by simpa using h3)
  generalize (p.reverse.dropWhile (· != 46)).length = n at hle hone ⊢
  by_cases h : n = 0
  · subst h; rfl
  · rw [if_neg h]
    simp only [Option.bind_some]
    rw [decide_eq_false (by omega)]
    unfold slc
    simp only [cond_false]
    rw [if_pos ⟨by omega, by omega, by omega⟩]
    simp only [Option.bind_some, Int.toNat_zero, List.drop_zero]
    have hne : (p.take (n - 1) == []) = false := by
      rw [beq_eq_false_iff_ne]
      intro e0
      have := congrArg List.length e0
      rw [List.length_take, List.length_nil] at this
      omega
    have e1 : ((n : Int) - 1).toNat = n - 1 := by omega
    rw [e1, hne]
    rfl
theorem rKids_eq {c : Conf} (h : ConfOk c) (p : Str) : rule_Kids c p = some (pKids c p) := by
  have hq := h.qs
  have e := loop_filter (fun (l : List Str) i => (l, i)) c.Queues (fun q => !(pAbove q.Path == []) && pAbove q.Path == p) (·.Path) (step := rule_Kids_l1 c p) (by omega) ?_ ?_
  · unfold rule_Kids
    rw [e, Option.bind_some]
    unfold pKids
    by_cases hp : p = []
    · subst hp
      rw [if_pos rfl, List.filter_eq_nil_iff.2 (by simp)]
      rfl
    · rw [if_neg hp]
      congr 2
      refine List.filter_congr fun q _ => ?_
      by_cases e1 : pAbove q.Path = p
      · have : pAbove q.Path ≠ [] := by rw [e1]; exact hp
        rw [beq_eq_false_iff_ne.2 this]; simp
      · rw [beq_eq_false_iff_ne.2 e1]; simp
  · intro k hk l hl
    unfold rule_Kids_l1
    rw [dlt_t hk, cond_true]
    dsimp only
    rw [idx_at hk, Option.bind_some, rAbove_ok (path_len h (List.getElem_mem hk)), Option.bind_some]
    dsimp only
    cases e1 : (pAbove c.Queues[k].Path == []) with
    | true => simp
    | false =>
      cases e2 : (pAbove c.Queues[k].Path == p) with
      | false => simp
      | true =>
        simp only [Bool.not_false, cond_true, Option.bind_some, Bool.and_self, if_true]
        rw [app_some (by simp; omega) (by omega)]
        rfl
  · intro l
    unfold rule_Kids_l1
    rw [dlt_f]
    rfl
theorem insB_map {α β : Type} (f : α → β) (lt : β → β → Bool) (out : List α) (x : α) : (insB (fun a b => lt (f a) (f b)) out x).map f = insB lt (out.map f) (f x) := by
  unfold insB
  rw [List.map_append, List.map_cons, List.takeWhile_map, List.dropWhile_map]
  rfl
theorem insB_fold_map {α β : Type} (f : α → β) (lt : β → β → Bool) : ∀ (l out : List α), (l.foldl (insB fun a b => lt (f a) (f b)) out).map f = (l.map f).foldl (insB lt) (out.map f)
  | [], _ => rfl
  | x :: l, out => by rw [List.foldl_cons, insB_fold_map f lt l, insB_map, List.map_cons, List.foldl_cons]
/-- a kid's load -/
def mkLoad (s : State) (label : Int) (x : Str) : Load := ⟨x, pUsed s x label true 0, pDown s x label true⟩
theorem strCmp_eq (x y : Str) : cmp_Compare_string_ x y = some (if Op.bytesLess x y then -1 else if strLe x y then 0 else 1) := by
  unfold cmp_Compare_string_ cmp_isNaN_string_
  have h1 : (x == x) = true := by simp
  have h2 : (y == y) = true := by simp
  rw [h1, h2]
  cases Op.bytesLess x y <;> cases strLe x y <;> rfl
theorem or2 (a b : Int) : cmp_Or_int_ [a, b] = some (if a ≠ 0 then a else b) := by
  unfold cmp_Or_int_
  rw [loop_eq]
  by_cases ha : a = 0
  · subst ha
    rw [show cmp_Or_int__l1 [0, b] 0 = some (.inl 1) from rfl]
    dsimp only
    rw [loop_eq]
    by_cases hb : b = 0
    · subst hb
      rw [show cmp_Or_int__l1 [0, 0] 1 = some (.inl 2) from rfl]
      dsimp only
      rw [loop_eq]
      rfl
    · have e : (b != 0) = true := by simp [hb]
      have : cmp_Or_int__l1 [0, b] 1 = some (.inr (.inl b)) := by
        show (bif (b != 0) then _ else _) = _
        rw [e]; rfl
      rw [this]
      rfl
  · have e : (a != 0) = true := by simp [ha]
    have : cmp_Or_int__l1 [a, b] 0 = some (.inr (.inl a)) := by
      show (bif (a != 0) then _ else _) = _
      rw [e]; rfl
    rw [this]
    simp [ha]
theorem compare_load (x y : Load) : ∃ c, order_load_compare x y = some c ∧ decide (c < 0) = kAhead x.used x.least x.path y.used y.least y.path := by
  unfold order_load_compare
  have e : rvec_Order x.used x.least y.used y.least = some (pOrder x.used x.least y.used y.least) := by rw [← rOrder_eq, Order_eq]
  rw [e, Option.bind_some, strCmp_eq, Option.bind_some, or2, Option.bind_some]
  refine ⟨_, rfl, ?_⟩
  unfold kAhead
  generalize pOrder x.used x.least y.used y.least = o
  by_cases h : o = 0
  · subst h
    rw [if_neg (by simp)]
    cases Op.bytesLess x.path y.path
    · cases strLe x.path y.path <;> rfl
    · rfl
  · rw [if_pos h, beq_eq_false_iff_ne.2 h]
    simp
theorem copy_loop (K : List Load) (hK : K.length ≤ 1000) : ((mkl 16 (K.length : Int) (K.length : Int) ([] : Str)).bind fun l2 => (loop (order_Kids_l2 K) (l2, 0)).bind fun out => some out) = some (K.map (·.path)) := by
  have hmk : mkl 16 (K.length : Int) (K.length : Int) ([] : Str) = some (List.replicate K.length []) := by
    unfold mkl
    rw [if_pos ⟨by omega, by omega, by unfold maxLen; omega, by omega⟩]
    rfl
  rw [hmk, Option.bind_some]
  generalize hM : K.map (·.path) = M
  have hml : M.length = K.length := by rw [← hM, List.length_map]
  have g := gv_for (Q := fun x => x = M) (fun (out : List Str) i => (out, i)) K.length (fun k out => out = M.take k ++ List.replicate (K.length - k) []) (step := order_Kids_l2 K) (by omega) ?_ ?_ (s := List.replicate K.length []) (by simp)
  · obtain ⟨x, ex, rfl⟩ := g
    rw [ex]; rfl
  · rintro k hk out rfl
    have hol : (M.take k ++ List.replicate (K.length - k) ([] : Str)).length = K.length := by simp; omega
    refine gv_eq (a := .inl (M.take (k + 1) ++ List.replicate (K.length - (k + 1)) [], w64 ((k : Int) + 1))) ?_ (.inl ⟨_, rfl, rfl⟩)
    unfold order_Kids_l2
    dsimp only
    rw [dlt_t hk, cond_true, inb_at hk, Option.bind_some, List.getElem?_eq_getElem hk, Option.bind_some, hol]
    have i1 : inS (k : Int) (K.length : Int) K.length = some (k, K.length - k) := by unfold inS; rw [if_pos ⟨by omega, by omega, by omega⟩]; simp
    rw [i1, Option.bind_some]
    dsimp only
    have ec : cpy (M.take k ++ List.replicate (K.length - k) ([] : Str)) k (K.length - k) [K[k].path] = M.take (k + 1) ++ List.replicate (K.length - (k + 1)) [] := by
      unfold cpy
      have hk1 : K.length - k = (K.length - (k + 1)) + 1 := by omega
      have hpk : K[k].path = M[k]'(by omega) := by simp [← hM]
      have htl : (M.take k).length = k := by rw [List.length_take]; omega
      rw [List.take_append_of_le_length (by omega), List.take_take, Nat.min_self, hk1, List.take_of_length_le (l := [K[k].path]) (by simp)]
      have : min (K.length - (k + 1) + 1) [K[k].path].length = 1 := by simp
      rw [this, List.replicate_succ, List.drop_append, htl, List.drop_of_length_le (by omega), show k + 1 - k = 1 by omega, List.take_succ_eq_append_getElem (by omega), hpk]
      simp
    rw [ec]
  · rintro out rfl
    refine gv_eq (a := .inr M) ?_ ⟨_, rfl, rfl⟩
    unfold order_Kids_l2
    dsimp only
    rw [dlt_f, ← hml]
    simp
/-- a load ahead of another -/
def ltL (x y : Load) : Bool := kAhead x.used x.least x.path y.used y.least y.path
theorem load_so {l : List Load} (hn : ∀ x ∈ l, ∀ y ∈ l, x.path = y.path → x = y) (hf : ∀ x ∈ l, Ok x.used) (hg : ∀ x ∈ l, Ok x.least) : SO ltL l := kAhead_so Load.used Load.least Load.path hn hf hg
theorem order_sorted {L : List Load} (hso : SO ltL L) (hnd : L.Nodup) (hl : L.length < 1000000000) : order_load_ L (fun a' => order_load_compare a'.1 a'.2.1) = some (L.foldl (insB ltL) []) :=
  sortA_eq (α := Load) (φ := order_load_compare) (fun x _ y _ => compare_load x y) hso hnd hl
theorem mk_path (s : State) (label : Int) (K : List Str) : (K.map (mkLoad s label)).map (·.path) = K := by
  rw [List.map_map]
  exact (List.map_congr_left (fun x _ => rfl)).trans (List.map_id K)
theorem mk_sorted {N : Nat} {s : State} (h : Inv N s) (label : Int) {K : List Str} (hn : K.Nodup) (hK : K.length ≤ 1000) :
    order_load_ (K.map (mkLoad s label)) (fun a' => order_load_compare a'.1 a'.2.1) = some ((K.foldl (insB fun a b => pAhead s a b label) []).map (mkLoad s label)) := by
  have okU : ∀ x, Ok (pUsed s x label true 0) := fun x => (used_bd h.sb x label true 0).ok (by have := h.cl; omega)
  have okD : ∀ x, Ok (pDown s x label true) := fun x => (h.sc.down_bd label true).ok (by have := h.nl; omega)
  have hnd : (K.map (mkLoad s label)).Nodup := List.pairwise_map.2 (hn.imp fun {a b} hab e => hab (congrArg Load.path e))
  have hso : SO ltL (K.map (mkLoad s label)) := by
    refine load_so ?_ ?_ ?_
    · intro x hx y hy e
      obtain ⟨a, _, rfl⟩ := List.mem_map.1 hx
      obtain ⟨b, _, rfl⟩ := List.mem_map.1 hy
      have : a = b := e
      rw [this]
    · intro x hx
      obtain ⟨a, _, rfl⟩ := List.mem_map.1 hx
      exact okU a
    · intro x hx
      obtain ⟨a, _, rfl⟩ := List.mem_map.1 hx
      exact okD a
  rw [order_sorted hso hnd (by rw [List.length_map]; omega)]
  have e3 := insB_fold_map (mkLoad s label) ltL K []
  rw [List.map_nil] at e3
  rw [← e3]
  rfl
theorem oKids_eq {N : Nat} {s : State} (h : Inv N s) (path : Str) {label : Int} (h0 : 0 ≤ label) (h1 : label < s.Conf.Labels.length) : order_Kids s path label = some (pOKids s path label) := by
  have hc := h.cf
  have hq := hc.qs
  have hkl := pKids_len s.Conf path
  have hkp : ∀ x ∈ pKids s.Conf path, PathOk x := fun x hx => kid_ok hc hx
  unfold order_Kids
  rw [rKids_eq hc, Option.bind_some]
  have e1 := loop_filter (fun (l : List Load) i => (l, i)) (pKids s.Conf path) (fun _ => true) (mkLoad s label) (step := order_Kids_l1 s label (pKids s.Conf path)) (by omega) ?_ ?_
  · have e1' : loop (order_Kids_l1 s label (pKids s.Conf path)) ([], 0) = some ((pKids s.Conf path).map (mkLoad s label)) := by
      rw [e1, List.filter_eq_self.2 (by simp)]
    rw [e1', Option.bind_some]
    rw [mk_sorted h label (kids_nodup hc path) (by omega), Option.bind_some]
    have e4 : (pKids s.Conf path).foldl (insB fun a b => pAhead s a b label) [] = pOKids s path label := rfl
    rw [e4]
    have hlen : (pOKids s path label).length = (pKids s.Conf path).length := (pOKids_perm s path label).length_eq
    generalize hK : pOKids s path label = K at *
    have hc2 := copy_loop (K.map (mkLoad s label)) (by rw [List.length_map]; omega)
    have hm2 := mk_path s label K
    rw [hm2] at hc2
    exact hc2
  · intro k hk l hl
    have hx := hkp _ (List.getElem_mem hk)
    have hxl := hx.len
    unfold order_Kids_l1
    rw [dlt_t hk, cond_true]
    dsimp only
    rw [inb_at hk, Option.bind_some, List.getElem?_eq_getElem hk, Option.bind_some, qUsed_eq h (by omega), Option.bind_some, sLeast_eq h.sc (by omega) h0 h1, Option.bind_some, app_some (by simp; omega) (by omega)]
    rfl
  · intro l
    unfold order_Kids_l1
    rw [dlt_f]
    rfl
theorem below_eqN {N : Nat} {s : State} (h : Inv N s) {label : Int} (h0 : 0 ≤ label) (h1 : label < s.Conf.Labels.length) : ∀ (d n : Nat) (path : Str), 3 ≤ path.count 46 + d → d ≤ n → d ≤ 3 →
    order_below_r (n + 1) s path label (4 - (d : Int)) = some (pLeavesN d s path label) := by
  intro d
  induction d with
  | zero =>
    intro n path hc _ _
    have hk : pKids s.Conf path = [] := by
      cases hk : pKids s.Conf path with
      | nil => rfl
      | cons x l =>
        have hx : x ∈ pKids s.Conf path := by rw [hk]; simp
        obtain ⟨hp, q, hq, rfl, ha⟩ := pKids_mem hx
        have h1 := above_count hp ha
        have h2 := (path_len h.cf hq).deep
        omega
    show order_below_s _ s path label _ = _
    unfold order_below_s
    have hp : pOKids s path label = [] := by have := pOKids_perm s path label; rw [hk] at this; exact this.eq_nil
    rw [oKids_eq h path h0 h1, Option.bind_some, hp]
    rfl
  | succ d ih =>
    intro n path hc hn hd3
    obtain ⟨n, rfl⟩ : ∃ m, n = m + 1 := ⟨n - 1, by omega⟩
    have hperm := pOKids_perm s path label
    have hlen := hperm.length_eq
    have hkl := pKids_len s.Conf path
    have hq := h.cf.qs
    have e0 : (pKids s.Conf path = []) ↔ pOKids s path label = [] := ⟨fun e => by rw [e] at hperm; exact hperm.eq_nil, fun e => by rw [e] at hperm; exact hperm.symm.eq_nil⟩
    have hkid : ∀ x ∈ pOKids s path label, order_below_r (n + 1) s x label (4 - (d : Int)) = some (pLeavesN d s x label) ∧ (pLeavesN d s x label).length ≤ 16 ^ d := by
      intro x hx
      obtain ⟨hp, q, hq', rfl, ha⟩ := pKids_mem (hperm.mem_iff.1 hx)
      have h1 := above_count hp ha
      exact ⟨ih n q.Path (by omega) (by omega) (by omega), (leaves_eqN h.sc label d n q.Path (by omega) (by omega) (by omega)).2⟩
    show order_below_s (order_below_r (n + 1)) s path label _ = _
    unfold order_below_s
    rw [oKids_eq h path h0 h1, Option.bind_some]
    unfold pLeavesN
    by_cases hk : pKids s.Conf path = []
    · rw [if_pos hk, e0.1 hk]; rfl
    · rw [if_neg hk]
      have hne : pOKids s path label ≠ [] := fun e => hk (e0.2 e)
      have hpos : 0 < (pOKids s path label).length := List.length_pos_iff.2 hne
      have e1 : (((pOKids s path label).length : Int) == 0) = false := by
        rw [beq_eq_false_iff_ne]; omega
      rw [e1, cond_false, Option.bind_some, decide_eq_false (by omega), cond_false]
      have hpow : 16 ^ d ≤ 16 ^ 3 := Nat.pow_le_pow_right (by omega) (by omega)
      have e := (loop_fold (fun (out : List Str) i => (out, i)) (pOKids s path label) (fun out x => out ++ pLeavesN d s x label) (fun k out => out.length ≤ k * 16 ^ d) (fun out => out)
        (step := order_below_s_l1 s label (4 - ((d + 1 : Nat) : Int)) (order_below_r (n + 1)) (pOKids s path label)) (by omega) ?_ ?_ (s := []) (by simp)).1
      · rw [e, Option.bind_some]
        have gen : ∀ (l z : List Str), l.foldl (fun out x => out ++ pLeavesN d s x label) z = z ++ l.flatMap fun x => pLeavesN d s x label := by
          intro l
          induction l with
          | nil => intro z; simp
          | cons x l ihl => intro z; rw [List.foldl_cons, ihl, List.flatMap_cons, List.append_assoc]
        rw [gen]
        rfl
      · intro k hk out ho
        obtain ⟨k1, k2⟩ := hkid _ (List.getElem_mem hk)
        have hmul : k * 16 ^ d ≤ 16 * 16 ^ 3 := Nat.mul_le_mul (by omega) hpow
        refine ⟨?_, by rw [List.length_append, Nat.succ_mul]; omega⟩
        unfold order_below_s_l1
        rw [dlt_t hk, cond_true]
        dsimp only
        have ew : w64 (4 - ((d + 1 : Nat) : Int) + 1) = 4 - (d : Int) := by rw [w64_id (by omega) (by omega)]; omega
        rw [inb_at hk, Option.bind_some, List.getElem?_eq_getElem hk, Option.bind_some, ew, k1, Option.bind_some, app_some (by omega) (by omega), Option.bind_some]
      · intro out _
        unfold order_below_s_l1
        rw [dlt_f]
        rfl
theorem oLeaves_eq {N : Nat} {s : State} (h : Inv N s) {label : Int} (h0 : 0 ≤ label) (h1 : label < s.Conf.Labels.length) : order_Leaves s label = some (pLeaves s label) := by
  unfold order_Leaves order_below
  have := below_eqN h h0 h1 3 63 root (by decide) (by omega) (by omega)
  show (order_below_r 64 s root label 1).bind _ = _
  rw [show (1 : Int) = 4 - ((3 : Nat) : Int) by rfl, this]
  rfl
theorem leavesC_nodup {c : Conf} (h : ConfOk c) : (pLeavesC c).Nodup := by
  unfold pLeavesC
  exact (paths_nodup h).sublist (List.filter_sublist.map _)
theorem known12_eq : dispatchlaw12_known = some true := by
  have hl : (0 : Int) < newS.Conf.Labels.length := by decide
  unfold dispatchlaw12_known
  rw [New_eq, Option.bind_some, oLeaves_eq newS_inv (by omega) hl, Option.bind_some, show pLeaves newS 0 = [root] by kernel_rfl, Option.bind_some]
  show ((order_Kids newS root 0).bind fun x3 => some ((x3.length : Int) == 0)) = _
  rw [oKids_eq newS_inv root (by omega) hl, show pOKids newS root 0 = [] by kernel_rfl]
  rfl
theorem loop_out {τ σ : Type} {step : τ → Option (τ ⊕ σ)} {t : τ} {r : σ} (h : step t = some (.inr r)) : loop step t = some r := by
  rw [loop_eq, h]
theorem loop_next {τ σ : Type} {step : τ → Option (τ ⊕ σ)} {t t' : τ} (h : step t = some (.inl t')) : loop step t = loop step t' := by
  rw [loop_eq, h]
theorem inb_lt {k n : Nat} (h : k < n) : inb (k : Int) n = some k := inb_at h
theorem step_succ {k : Nat} (h : k < 1000000000) : w64 ((k : Int) + 1) = ((k + 1 : Nat) : Int) := step_up h
def LtA (a b : App) : Prop := b.Prio < a.Prio ∨ (b.Prio = a.Prio ∧ a.Id < b.Id)
theorem ltA_trans {a b c : App} (h : LtA a b) (k : LtA b c) : LtA a c := by unfold LtA at *; omega
theorem ltA_total {a b : App} (h : a.Id ≠ b.Id) (k : ¬ LtA a b) : LtA b a := by unfold LtA at *; omega
theorem cmpI (x y : Int) : cmp_Compare_int_ x y = some (if x < y then -1 else if x > y then 1 else 0) := by
  unfold cmp_Compare_int_ cmp_isNaN_int_
  have h1 : (x != x) = false := by simp
  have h2 : (y != y) = false := by simp
  simp only [h1, h2, Option.bind_some, cond_false]
  by_cases h : x < y
  · simp [h]
  · by_cases k : x > y
    · simp [h, k]
    · simp [h, k]
theorem ord1 (a b : App) : ∃ r, order_Apps_1 a b = some r ∧ (r < 0 ↔ LtA a b) := by
  unfold order_Apps_1
  rw [cmpI, cmpI]
  simp only [Option.bind_some]
  rw [or2]
  refine ⟨_, rfl, ?_⟩
  unfold LtA
  rcases Int.lt_trichotomy b.Prio a.Prio with h | h | h
  · simp [h]
  · have h1 : ¬ b.Prio < a.Prio := by omega
    have h2 : ¬ b.Prio > a.Prio := by omega
    rcases Int.lt_trichotomy a.Id b.Id with k | k | k
    · simp [h1, h2, h, k]
    · have k1 : ¬ a.Id < b.Id := by omega
      have k2 : ¬ a.Id > b.Id := by omega
      simp [h1, h2, h, k]
    · have k1 : ¬ a.Id < b.Id := by omega
      simp [h1, h2, h, k, k1]
  · have h1 : ¬ b.Prio < a.Prio := by omega
    have h2 : b.Prio > a.Prio := by omega
    have h3 : ¬ b.Prio = a.Prio := by omega
    simp [h1, h2, h3]

noncomputable abbrev cmpF : TupT fam [.st 6, .st 6] → Option Int := fun a' => order_Apps_1 a'.1 a'.2.1
theorem in0 (x : App) (T : List App) : api_App__l2 0 cmpF (x :: T, 0) = some (.inr (x :: T)) := by
  unfold api_App__l2
  rfl
theorem inS_ (B T : List App) (x y : App) (hbig : B.length < 1000000000) : (LtA x y → api_App__l2 0 cmpF (B ++ y :: x :: T, ((B.length + 1 : Nat) : Int)) = some (.inl (B ++ x :: y :: T, (B.length : Int)))) ∧
    (¬ LtA x y → api_App__l2 0 cmpF (B ++ y :: x :: T, ((B.length + 1 : Nat) : Int)) = some (.inr (B ++ y :: x :: T))) := by
  obtain ⟨r, hr, hlt⟩ := ord1 x y
  have hL : (B ++ y :: x :: T).length = B.length + (T.length + 2) := by simp
  have g1 : (B ++ y :: x :: T)[B.length + 1]? = some x := by rw [List.getElem?_append_right (by omega)]; simp
  have g0 : (B ++ y :: x :: T)[B.length]? = some y := by rw [List.getElem?_append_right (by omega)]; simp
  have w1 : w64 (((B.length + 1 : Nat) : Int) - 1) = (B.length : Int) := by rw [w64_id (by omega) (by omega)]; omega
  have i1 : inb (((B.length + 1 : Nat) : Int)) (B ++ y :: x :: T).length = some (B.length + 1) := inb_lt (by omega)
  have i0 : inb ((B.length : Int)) (B ++ y :: x :: T).length = some B.length := inb_lt (by omega)
  have e1 : List.set (B ++ y :: x :: T) (B.length + 1) y = B ++ y :: y :: T := by
    rw [List.set_append_right _ _ (by omega)]; simp
  have i2 : inb ((B.length : Int)) (B ++ y :: y :: T).length = some B.length := inb_lt (by simp)
  have g2 : (B ++ y :: y :: T)[B.length]? = some y := by rw [List.getElem?_append_right (by omega)]; simp
  have e2 : List.set (B ++ y :: y :: T) B.length x = B ++ x :: y :: T := by
    rw [List.set_append_right _ _ (by omega)]; simp
  have d1 : decide (((B.length + 1 : Nat) : Int) > 0) = true := by rw [decide_eq_true_iff]; omega
  constructor
  · intro h
    unfold api_App__l2
    simp only [d1, cond_true, i1, i0, w1, Option.bind_some, g1, g0, hr, decide_eq_true (hlt.2 h), e1, i2, g2, e2]
  · intro h
    unfold api_App__l2
    simp only [d1, cond_true, i1, i0, w1, Option.bind_some, g1, g0, hr, decide_eq_false (fun k => h (hlt.1 k)), cond_false]
theorem inner : ∀ (n : Nat) (B : List App), B.length = n → n < 1000000000 → ∀ (x : App) (T : List App), ∃ B1 B2, B = B1 ++ B2 ∧ loop (api_App__l2 0 cmpF) (B ++ x :: T, (B.length : Int)) = some (B1 ++ x :: (B2 ++ T)) ∧ (∀ y ∈ B2, LtA x y) ∧ (∀ C y, B1 = C ++ [y] → ¬ LtA x y)
  | 0, B, hn, _, x, T => by
    have : B = [] := List.length_eq_zero_iff.1 hn
    subst this
    exact ⟨[], [], rfl, loop_out (in0 x T), by simp, fun C y h => by simp at h⟩
  | n + 1, B, hn, hb, x, T => by
    rcases List.eq_nil_or_concat B with h | ⟨B', y, h⟩
    · subst h; simp at hn
    · have h : B = B' ++ [y] := by simpa using h
      subst h
      have hl : B'.length = n := by simp at hn; exact hn
      have e : B' ++ [y] ++ x :: T = B' ++ y :: x :: T := by simp
      have el : ((B' ++ [y]).length : Int) = ((B'.length + 1 : Nat) : Int) := by simp
      obtain ⟨q1, q2⟩ := inS_ B' T x y (by omega)
      rw [e, el]
      by_cases hlt : LtA x y
      · rw [loop_next (q1 hlt)]
        obtain ⟨B1, B2, k1, k2, k3, k4⟩ := inner n B' hl (by omega) x (y :: T)
        refine ⟨B1, B2 ++ [y], by rw [k1]; simp, by rw [k2]; simp, ?_, k4⟩
        intro z hz
        rcases List.mem_append.1 hz with h | h
        · exact k3 z h
        · rw [List.mem_singleton.1 h]; exact hlt
      · refine ⟨B' ++ [y], [], by simp, by rw [loop_out (q2 hlt)]; simp, by simp, ?_⟩
        intro C z hz
        have := List.append_inj' hz rfl
        rw [← (List.cons.inj this.2).1]; exact hlt
theorem outer (n : Nat) (hn : n < 1000000000) : ∀ (R A : List App), (A ++ R).length = n → A.Pairwise LtA → (A ++ R).Pairwise (fun a b => a.Id ≠ b.Id) →
    ∃ r, loop (api_App__l1 0 (n : Int) cmpF) (A ++ R, (A.length : Int)) = some r ∧ r.Perm (A ++ R) ∧ r.Pairwise LtA
  | [], A, hl, hs, hd => by
    have hl' : A.length = n := by simpa using hl
    refine ⟨A, ?_, by simp, hs⟩
    refine loop_out ?_
    unfold api_App__l1
    have : decide ((A.length : Int) < (n : Int)) = false := by rw [decide_eq_false_iff_not]; omega
    simp only [this, cond_false, List.append_nil]
  | x :: R, A, hl, hs, hd => by
    have hl' : A.length + (R.length + 1) = n := by simpa using hl
    obtain ⟨B1, B2, k1, k2, k3, k4⟩ := inner A.length A rfl (by omega) x R
    have d1 : decide ((A.length : Int) < (n : Int)) = true := by rw [decide_eq_true_iff]; omega
    have hst : api_App__l1 0 (n : Int) cmpF (A ++ x :: R, (A.length : Int)) = some (.inl ((B1 ++ x :: B2) ++ R, (((B1 ++ x :: B2).length : Nat) : Int))) := by
      unfold api_App__l1
      simp only [d1, cond_true, k2, Option.bind_some]
      rw [step_succ (by omega)]
      have : (B1 ++ x :: B2).length = A.length + 1 := by rw [k1]; simp; omega
      rw [this]
      simp
    have hp : ((B1 ++ x :: B2) ++ R).Perm (A ++ x :: R) := by
      rw [k1]
      have : (B1 ++ x :: B2).Perm (B1 ++ B2 ++ [x]) := by
        refine List.perm_middle.trans ?_
        exact (List.perm_append_singleton x (B1 ++ B2)).symm
      have := this.append_right R
      simpa using this
    have hpA : (B1 ++ x :: B2).Pairwise LtA := by
      rw [k1] at hs
      obtain ⟨s1, s2, s3⟩ := List.pairwise_append.1 hs
      refine List.pairwise_append.2 ⟨s1, List.pairwise_cons.2 ⟨k3, s2⟩, ?_⟩
      have hx : ∀ y ∈ B1, LtA y x := by
        rcases List.eq_nil_or_concat B1 with h | ⟨C, z, h⟩
        · subst h; simp
        · have h : B1 = C ++ [z] := by simpa using h
          have hz : LtA z x := by
            refine ltA_total ?_ (k4 C z h)
            rw [k1, h] at hd
            have := (List.pairwise_append.1 hd).2.2 z (by simp) x (by simp)
            exact fun e => this e.symm
          intro y hy
          rw [h] at hy s1
          rcases List.mem_append.1 hy with hy | hy
          · exact ltA_trans ((List.pairwise_append.1 s1).2.2 y hy z (by simp)) hz
          · rw [List.mem_singleton.1 hy]; exact hz
      intro y hy z hz
      rcases List.mem_cons.1 hz with rfl | hz
      · exact hx y hy
      · exact s3 y hy z hz
    obtain ⟨r, r1, r2, r3⟩ := outer n hn R (B1 ++ x :: B2) (by rw [hp.length_eq]; exact hl) hpA (hp.symm.pairwise hd (fun h => fun e => h e.symm))
    exact ⟨r, by rw [loop_next hst]; exact r1, r2.trans hp, r3⟩
theorem sortA_ok (l : List App) (hl : l.length ≤ 19) (hd : l.Pairwise (fun a b => a.Id ≠ b.Id)) : ∃ r, api_App__66 l cmpF = some r ∧ r.Perm l ∧ r.Pairwise LtA := by
  have h0 : ∃ r, api_App_ l 0 (l.length : Int) cmpF = some r ∧ r.Perm l ∧ r.Pairwise LtA := by
    unfold api_App_
    cases l with
    | nil =>
      refine ⟨[], ?_, List.Perm.refl _, List.Pairwise.nil⟩
      have : api_App__l1 0 ((([] : List App).length : Nat) : Int) cmpF ([], w64 (0 + 1)) = some (.inr []) := rfl
      rw [loop_out this]; rfl
    | cons x l =>
      obtain ⟨r, r1, r2, r3⟩ := outer (x :: l).length (by omega) l [x] (by simp) (by simp) hd
      refine ⟨r, ?_, r2, r3⟩
      have e : ((x :: l : List App), w64 (0 + 1)) = ([x] ++ l, (([x] : List App).length : Int)) := rfl
      rw [e, r1]; rfl
  obtain ⟨r, r1, r2, r3⟩ := h0
  refine ⟨r, ?_, r2, r3⟩
  unfold api_App__66 api_App__140
  have e1 : api_App__140_l1 (l.length : Int) cmpF (l, 0, 20) = some (.inr (l, 0)) := by
    unfold api_App__140_l1
    have : decide ((20 : Int) ≤ (l.length : Int)) = false := by rw [decide_eq_false_iff_not]; omega
    simp only [this, cond_false]
  have e2 : api_App__140_l2 (l.length : Int) cmpF (r, 20) = some (.inr r) := by
    unfold api_App__140_l2
    have : decide ((20 : Int) < (l.length : Int)) = false := by rw [decide_eq_false_iff_not]; omega
    simp only [this, cond_false]
  rw [loop_out e1]
  simp only [Option.bind_some, r1]
  rw [loop_out e2]
  rfl
/-- the order of a leaf's applications -/
def ltA (a b : App) : Bool := decide (b.Prio < a.Prio) || (decide (b.Prio = a.Prio) && decide (a.Id < b.Id))
theorem ltA_iff {a b : App} : ltA a b = true ↔ LtA a b := by unfold ltA LtA; simp
theorem ltA_so {l : List App} (h : l.Pairwise fun x y => x.Id < y.Id) : SO ltA l := by
  refine ⟨fun x _ => ?_, fun x _ y _ z _ h1 h2 => ?_, fun x hx y hy hne => ?_⟩
  · cases e : ltA x x with
    | false => rfl
    | true => have := ltA_iff.1 e; unfold LtA at this; omega
  · exact ltA_iff.2 (ltA_trans (ltA_iff.1 h1) (ltA_iff.1 h2))
  · have hid : x.Id ≠ y.Id := fun e => by
      have h1 := find_id h hx
      have h2 := find_id h hy
      rw [e] at h1
      rw [h1] at h2
      exact hne (Option.some.inj h2)
    by_cases k : LtA x y
    · exact .inl (ltA_iff.2 k)
    · exact .inr (ltA_iff.2 (ltA_total hid k))
theorem rise_nodup {l : List App} (h : l.Pairwise fun x y => x.Id < y.Id) : l.Nodup := h.imp fun {a b} hab e => by rw [e] at hab; omega
theorem appPut_fold : ∀ (l out : List App), l.Pairwise (fun x y => x.Id < y.Id) → (∀ x ∈ out, ∀ y ∈ l, x.Id < y.Id) → l.foldl appPut out = l.foldl (insB ltA) out
  | [], _, _, _ => rfl
  | x :: l, out, h, ho => by
    have h' := List.pairwise_cons.1 h
    have e : appPut out x = insB ltA out x := by
      unfold appPut insB
      have hc : ∀ y ∈ out, (!(!decide (y.Prio ≥ x.Prio))) = (!ltA x y) := by
        intro y hy
        have := ho y hy x (by simp)
        rw [Bool.eq_iff_iff, Bool.not_not, decide_eq_true_eq, Bool.not_eq_true', ← Bool.not_eq_true, ltA_iff]
        unfold LtA
        omega
      have t : ∀ o : List App, (∀ y ∈ o, (!(!decide (y.Prio ≥ x.Prio))) = (!ltA x y)) → (o.takeWhile fun y => !(!decide (y.Prio ≥ x.Prio))) = (o.takeWhile fun y => !ltA x y) ∧ (o.dropWhile fun y => !(!decide (y.Prio ≥ x.Prio))) = (o.dropWhile fun y => !ltA x y) := by
        intro o
        induction o with
        | nil => intro _; exact ⟨rfl, rfl⟩
        | cons y o ih =>
          intro hc
          obtain ⟨i1, i2⟩ := ih fun z hz => hc z (by simp [hz])
          rw [List.takeWhile_cons, List.takeWhile_cons, List.dropWhile_cons, List.dropWhile_cons, hc y (by simp), i1, i2]
          exact ⟨rfl, rfl⟩
      obtain ⟨t1, t2⟩ := t out hc
      rw [t1, t2]
    rw [List.foldl_cons, List.foldl_cons, e]
    refine appPut_fold l _ h'.2 fun y hy z hz => ?_
    rcases insB_mem.1 hy with rfl | hy
    · exact h'.1 z hz
    · exact ho y hy z (by simp [hz])
theorem appsA_pw {N : Nat} {s : State} (h : Inv N s) (queue : Str) : (pAppsA s queue).Pairwise LtA := by
  have hf : (s.Apps.filter fun a => pLive a && a.Queue == queue).Pairwise fun x y => x.Id < y.Id := h.asr.sublist List.filter_sublist
  unfold pAppsA
  rw [appPut_fold _ _ hf (by simp)]
  exact ((ltA_so hf).insB_pw (rise_nodup hf)).imp fun {a b} k => ltA_iff.1 k
theorem live_eq (a : App) : apps_Live a = some (pLive a) := by
  unfold apps_Live pLive
  cases a.State == 1 <;> rfl
theorem fill_loop (K : List App) (hK : K.length ≤ 1000) : ((mkl 8 (K.length : Int) (K.length : Int) (0 : Int)).bind fun l3 => (loop (order_Apps_l2 K) (l3, 0)).bind fun out => some out) = some (K.map (·.Id)) := by
  have e0 : mkl 8 (K.length : Int) (K.length : Int) (0 : Int) = some (List.replicate K.length 0) := by
    unfold mkl
    rw [if_pos ⟨by omega, by omega, by unfold maxLen; omega, by omega⟩]
    simp
  rw [e0, Option.bind_some]
  have h := gv_for (Q := fun x => x = K.map (·.Id)) (fun (l : List Int) i => (l, i)) K.length (fun k l => l = (K.take k).map (·.Id) ++ List.replicate (K.length - k) 0) (step := order_Apps_l2 K) (by omega) ?_ ?_ (s := List.replicate K.length 0) (by simp)
  · obtain ⟨x, e, rfl⟩ := h
    rw [e]; rfl
  · rintro k hk l rfl
    have hlen : ((K.take k).map (·.Id) ++ List.replicate (K.length - k) (0 : Int)).length = K.length := by simp; omega
    have hr : List.replicate (K.length - k) (0 : Int) = 0 :: List.replicate (K.length - (k + 1)) 0 := by
      rw [show K.length - k = (K.length - (k + 1)) + 1 by omega, List.replicate_succ]
    have htl : ((K.take k).map (·.Id)).length = k := by simp; omega
    refine gv_eq (a := .inl ((K.take (k + 1)).map (·.Id) ++ List.replicate (K.length - (k + 1)) 0, w64 ((k : Int) + 1))) ?_ (.inl ⟨_, rfl, rfl⟩)
    unfold order_Apps_l2
    dsimp only
    rw [dlt_t hk, cond_true, inb_at hk, Option.bind_some, List.getElem?_eq_getElem hk, Option.bind_some, hlen, inb_at hk, Option.bind_some, List.getElem?_eq_getElem (by omega), Option.bind_some]
    congr 3
    rw [List.set_append_right _ _ (by omega), htl, Nat.sub_self, hr, List.set_cons_zero, List.take_succ_eq_append_getElem hk, List.map_append]
    simp
  · rintro l rfl
    refine gv_eq (a := .inr _) ?_ ⟨_, rfl, rfl⟩
    unfold order_Apps_l2
    dsimp only
    rw [dlt_f, cond_false]
    simp
theorem oApps_eq {N : Nat} {s : State} (h : Inv N s) (queue : Str) : order_Apps s queue = some (pApps s queue) := by
  unfold order_Apps
  have hal := h.al
  have hf : (s.Apps.filter fun a => pLive a && a.Queue == queue).Pairwise fun x y => x.Id < y.Id := h.asr.sublist List.filter_sublist
  have hfl : (s.Apps.filter fun a => pLive a && a.Queue == queue).length ≤ 16 := Nat.le_trans (List.length_filter_le _ _) hal
  have e1 := loop_filter (fun (l : List App) i => (l, i)) s.Apps (fun a => pLive a && a.Queue == queue) (fun x => x) (step := order_Apps_l1 s queue) (by omega) ?_ ?_
  · rw [List.map_id'] at e1
    rw [e1, Option.bind_some]
    generalize hL : (s.Apps.filter fun a => pLive a && a.Queue == queue) = L at *
    obtain ⟨r, r1, r2, r3⟩ := sortA_ok L (by omega) (hf.imp fun {a b} hab => by omega)
    have er : r = pAppsA s queue := by
      have h2 := appsA_pw h queue
      have h3 := pAppsA_perm s queue
      rw [hL] at h3
      have so := ltA_so hf
      have cv : ∀ {m : List App}, m.Pairwise LtA → m.Pairwise fun a b => ltA a b = true := fun hm => hm.imp fun {a b} k => ltA_iff.2 k
      exact so.uniq r2 h3 (cv r3) (cv h2)
    rw [show api_App__66 L (fun a' => order_Apps_1 a'.1 a'.2.1) = some r from r1, Option.bind_some]
    have := fill_loop r (by have := r2.length_eq; omega)
    rw [this, er]
    rfl
  · intro k hk l hl
    unfold order_Apps_l1
    dsimp only
    rw [dlt_t hk, cond_true, idx_at hk, Option.bind_some, live_eq, Option.bind_some]
    cases pLive s.Apps[k] with
    | false => rfl
    | true =>
      rw [cond_true, Option.bind_some, Bool.true_and]
      cases s.Apps[k].Queue == queue with
      | false => rfl
      | true =>
        rw [cond_true, app_some (by simp; omega) (by omega)]
        rfl
  · intro l
    unfold order_Apps_l1
    dsimp only
    rw [dlt_f]
    rfl
def sumV (l : List Vec) : Vec := ⟨(l.map (·.Mem)).sum, (l.map (·.Cores)).sum⟩
def sel (label t : Int) (x : Plan) : Bool := (x.Label == label) && (decide (x.From ≤ t) && decide (x.Until > t))
def atV (l : List Plan) (label t : Int) : Vec := sumV ((l.filter (sel label t)).map (·.Need))
def addV (a b : Vec) : Vec := ⟨a.Mem + b.Mem, a.Cores + b.Cores⟩
def fitsV (a b : Vec) : Bool := decide (a.Mem ≤ b.Mem) && decide (a.Cores ≤ b.Cores)
/-- does it fit at a time? -/
def okAt (l : List Plan) (total : Vec) (p : Plan) (t : Int) : Bool := fitsV (addV (atV l p.Label t) p.Need) total
def inwin (t long : Int) (x : Plan) : Bool := decide (x.From > t) && decide (x.From < t + long)
def fits (l : List Plan) (total : Vec) (p : Plan) (t long : Int) : Bool := okAt l total p t && l.all fun x => !(inwin t long x) || okAt l total p x.From
/-- where a plan may begin -/
def cands (l : List Plan) (p : Plan) : List Int := p.From :: (l.filter fun x => decide (x.Until > p.From)).map (·.Until)
def goodT (l : List Plan) (total : Vec) (p : Plan) (long t : Int) : Bool := decide (t ≤ p.Until - long) && fits l total p t long
/-- the first of them -/
structure IsMin (l : List Plan) (total : Vec) (p : Plan) (long r : Int) : Prop where
  mem : r ∈ cands l p
  good : goodT l total p long r = true
  le : ∀ t ∈ cands l p, goodT l total p long t = true → r ≤ t
theorem IsMin.uniq {l : List Plan} {total : Vec} {p : Plan} {long r r' : Int} (h : IsMin l total p long r) (h' : IsMin l total p long r') : r = r' := by
  have := h.le r' h'.mem h'.good
  have := h'.le r h.mem h.good
  omega
theorem sumN_zero {β : Type} : ∀ (l : List β), (l.map fun _ => 0).sum = 0
  | [] => rfl
  | _ :: l => by simp [sumN_zero l]
/-- a list parted by what 'f' says of its elements -/
theorem part_len {α β : Type} [BEq β] [LawfulBEq β] (f : α → β) (l : List β) (hn : l.Nodup) : ∀ (A : List α), (∀ a ∈ A, f a ∈ l) → (l.map fun q => (A.filter fun a => f a == q).length).sum = A.length
  | [], _ => by simpa using sumN_zero l
  | a :: A, h => by
    have gen : ∀ m : List β, (m.map fun q => ((a :: A).filter fun a => f a == q).length).sum = (m.map fun q => (A.filter fun a => f a == q).length).sum + m.count (f a) := by
      intro m
      induction m with
      | nil => rfl
      | cons q m ih =>
        rw [List.map_cons, List.sum_cons, ih, List.map_cons, List.sum_cons, List.count_cons, List.filter_cons]
        by_cases e : f a = q
        · subst e; simp; omega
        · have e1 : (f a == q) = false := by simpa using e
          have e2 : (q == f a) = false := by simpa using fun k : q = f a => e k.symm
          rw [e1, e2]
          simp
          omega
    rw [gen, part_len f l hn A (fun a ha => h a (by simp [ha])), hn.count, if_pos (h a (by simp))]
    rfl
theorem live_loop (s : State) (h : s.Apps.length ≤ 16) : loop (dispatchlaw12_OrderApps_l3 s) (0, 0) = some ((s.Apps.filter pLive).length : Int) := by
  have h := gv_for (Q := fun x => x = ((s.Apps.filter pLive).length : Int)) (fun (n : Int) j => (n, j)) s.Apps.length (fun k n => n = (((s.Apps.take k).filter pLive).length : Int)) (step := dispatchlaw12_OrderApps_l3 s) (by omega) ?_ ?_ (s := 0) (by simp)
  · obtain ⟨x, e, rfl⟩ := h
    exact e
  · rintro k hk n rfl
    have hc : ((s.Apps.take k).filter pLive).length ≤ 16 := Nat.le_trans (List.length_filter_le _ _) (by rw [List.length_take]; omega)
    refine gv_eq (a := .inl ((((s.Apps.take (k + 1)).filter pLive).length : Int), w64 ((k : Int) + 1))) ?_ (.inl ⟨_, rfl, rfl⟩)
    unfold dispatchlaw12_OrderApps_l3
    dsimp only
    rw [dlt_t hk, cond_true, idx_at hk, Option.bind_some, Live_eq, Option.bind_some, List.take_succ_eq_append_getElem hk, List.filter_append, List.length_append, List.filter_cons, List.filter_nil]
    cases pLive s.Apps[k] with
    | true => rw [cond_true, Option.bind_some, w64_id (by omega) (by omega)]; rfl
    | false => rfl
  · rintro n rfl
    rw [List.take_length]
    refine gv_eq (a := .inr _) ?_ ⟨_, rfl, rfl⟩
    unfold dispatchlaw12_OrderApps_l3
    dsimp only
    rw [dlt_f]
    rfl
theorem appsA_mem {s : State} {queue : Str} {a : App} (h : a ∈ pAppsA s queue) : a ∈ s.Apps ∧ pLive a = true ∧ a.Queue = queue := by
  have := List.mem_filter.1 ((pAppsA_perm s queue).mem_iff.1 h)
  simp only [Bool.and_eq_true, beq_iff_eq] at this
  exact ⟨this.1, this.2.1, this.2.2⟩
theorem appsA_len (s : State) (queue : Str) : (pAppsA s queue).length = (s.Apps.filter fun a => pLive a && a.Queue == queue).length := (pAppsA_perm s queue).length_eq
theorem find_app {N : Nat} {s : State} (hs : Inv N s) {a : App} (h : a ∈ s.Apps) : dispatchref10_Find s a.Id = some (a, true) := by
  rw [appFind_eq hs.z]
  have : appAt s a.Id = some a := find_id hs.asr h
  rw [this]
  rfl
theorem plainOrderApps (a0 : Script) : dispatchlaw12_OrderApps a0 = some true := by
  unfold dispatchlaw12_OrderApps
  rw [known12_eq]
  simp only [Option.bind_some, Bool.not_true, cond_false]
  refine script_law fun s hs => ?_
  have hal := hs.al
  rw [LeavesC_eq hs.cf, Option.bind_some]
  have hla := (LeavesC_pos hs.cf).2
  have hnd := leavesC_nodup hs.cf
  have hin : ∀ a ∈ s.Apps.filter pLive, a.Queue ∈ pLeavesC s.Conf := by
    intro a ha
    obtain ⟨h1, h2⟩ := List.mem_filter.1 ha
    have hl := (hs.ak a h1).leaf (by unfold pLive at h2; simpa using h2)
    unfold pLeaf at hl
    simp only [Bool.and_eq_true] at hl
    obtain ⟨q, hq⟩ := Option.isSome_iff_exists.1 hl.1
    obtain ⟨q1, q2⟩ := pFind_mem hq
    unfold pLeavesC
    refine List.mem_map.2 ⟨q, List.mem_filter.2 ⟨q1, ?_⟩, q2⟩
    rw [q2]
    unfold pLeaf
    simp only [Bool.and_eq_true]
    exact hl
  have hsum := part_len (fun a : App => a.Queue) (pLeavesC s.Conf) hnd (s.Apps.filter pLive) hin
  have hsum2 : ((pLeavesC s.Conf).map fun q => (pApps s q).length).sum = (s.Apps.filter pLive).length := by
    rw [← hsum]
    congr 1
    refine List.map_congr_left fun q _ => ?_
    unfold pApps
    rw [List.length_map, appsA_len, List.filter_filter]
    congr 1
    refine List.filter_congr fun a _ => ?_
    cases pLive a <;> simp
  generalize pLeavesC s.Conf = L at hla hsum2 ⊢
  have hap : ∀ q, (pApps s q).length ≤ 16 := fun q => Nat.le_trans (Apps_len q) hal
  have hb : ∀ k, ((L.take k).map fun q => (pApps s q).length).sum ≤ 16 * 16 := by
    intro k
    have gen : ∀ m : List Str, (m.map fun q => (pApps s q).length).sum ≤ m.length * 16 := by
      intro m
      induction m with
      | nil => simp
      | cons q m ih => simp only [List.map_cons, List.sum_cons, List.length_cons]; have := hap q; omega
    have h1 := gen (L.take k)
    have h2 : (L.take k).length ≤ 16 := by rw [List.length_take]; omega
    omega
  have e1 := gv_for (σ := Int) (Q := fun x => x = (.inr (((L.map fun q => (pApps s q).length).sum : Nat) : Int) : Bool ⊕ Int)) (fun (n : Int) i => (n, i)) L.length (fun k n => n = ((((L.take k).map fun q => (pApps s q).length).sum : Nat) : Int)) (step := dispatchlaw12_OrderApps_l1 s L) (by omega) ?_ ?_ (s := 0) (by simp)
  · obtain ⟨x, e, rfl⟩ := e1
    rw [e, Option.bind_some]
    dsimp only
    rw [live_loop s hal, Option.bind_some, hsum2, beq_self_eq_true]
  · rintro i hi n rfl
    have hbi := hb i
    refine gv_eq (a := .inl ((((L.take (i + 1)).map fun q => (pApps s q).length).sum : Nat), w64 ((i : Int) + 1))) ?_ (.inl ⟨_, rfl, rfl⟩)
    unfold dispatchlaw12_OrderApps_l1
    dsimp only
    rw [dlt_t hi, cond_true, inb_at hi, Option.bind_some, List.getElem?_eq_getElem hi, Option.bind_some, oApps_eq hs, Option.bind_some]
    have hpl := hap L[i]
    rw [loop_ok (pApps s L[i]).length (by omega)]
    · rw [Option.bind_some]
      dsimp only
      rw [w64_id (by omega) (by omega), List.take_succ_eq_append_getElem hi, List.map_append, List.sum_append]
      simp
    · intro k hk
      unfold dispatchlaw12_OrderApps_l2
      rw [dlt_t hk, cond_true, inb_at hk, Option.bind_some, List.getElem?_eq_getElem hk, Option.bind_some]
      have hkA : k < (pAppsA s L[i]).length := by unfold pApps at hk; rw [List.length_map] at hk; exact hk
      have eid : ∀ j (hj : j < (pAppsA s L[i]).length) (hj' : j < (pApps s L[i]).length), (pApps s L[i])[j] = (pAppsA s L[i])[j].Id := by
        intro j hj hj'
        simp [pApps]
      obtain ⟨m1, m2, m3⟩ := appsA_mem (List.getElem_mem hkA)
      rw [eid k hkA hk, find_app hs m1, Option.bind_some]
      dsimp only
      rw [Bool.not_true, cond_false, Live_eq, Option.bind_some, m2, Bool.not_true, cond_false, inb_at hi, Option.bind_some, List.getElem?_eq_getElem hi, Option.bind_some, m3, beq_self_eq_true, Bool.not_true, Option.bind_some, cond_false]
      cases k with
      | zero => rfl
      | succ j =>
        have h0 : decide (((j + 1 : Nat) : Int) > 0) = true := decide_eq_true (by omega)
        have ej : w64 (((j + 1 : Nat) : Int) - 1) = (j : Int) := by rw [w64_id (by omega) (by omega)]; omega
        have hj : j < (pAppsA s L[i]).length := by omega
        obtain ⟨n1, n2, n3⟩ := appsA_mem (List.getElem_mem hj)
        rw [h0, cond_true, ej, inb_at (show j < (pApps s L[i]).length by omega), Option.bind_some, List.getElem?_eq_getElem (show j < (pApps s L[i]).length by omega), Option.bind_some, eid j hj (by omega), find_app hs n1, Option.bind_some]
        dsimp only
        have hlt : LtA (pAppsA s L[i])[j] (pAppsA s L[i])[j + 1] := (List.pairwise_iff_getElem.1 (appsA_pw hs L[i])) j (j + 1) hj hkA (by omega)
        unfold LtA at hlt
        rw [decide_eq_false (by omega), cond_false]
        by_cases hp : (pAppsA s L[i])[j].Prio = (pAppsA s L[i])[j + 1].Prio
        · rw [hp, beq_self_eq_true, cond_true, Option.bind_some, decide_eq_false (by omega), cond_false, Option.bind_some]
        · rw [show ((pAppsA s L[i])[j].Prio == (pAppsA s L[i])[j + 1].Prio) = false by simpa using hp, cond_false, Option.bind_some, cond_false, Option.bind_some]
    · unfold dispatchlaw12_OrderApps_l2
      rw [dlt_f]
      rfl
  · rintro n rfl
    refine gv_eq (a := .inr (.inr ((((L.take L.length).map fun q => (pApps s q).length).sum : Nat) : Int))) ?_ ⟨_, rfl, by rw [List.take_length]⟩
    unfold dispatchlaw12_OrderApps_l1
    dsimp only
    rw [dlt_f]
    rfl
end Go.Fx.D
