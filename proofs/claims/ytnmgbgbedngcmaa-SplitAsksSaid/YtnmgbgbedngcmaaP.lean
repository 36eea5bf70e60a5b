/-
  Laws over plain data: true at all inputs. Conditions: none.
-/
import Derived.Test.YtnmgbgbedngcmaaC
import Derived.Test.YtnmgbgbedngcmaaFxB
namespace Go.Fx.D
open Go Go.Fx
set_option linter.unusedVariables false
set_option linter.unusedSimpArgs false

theorem w64_id {x : Int} (h1 : -9223372036854775808 ≤ x) (h2 : x < 9223372036854775808) : w64 x = x := by
  simp only [w64, IntKind.wrap, IntKind.bits, IntKind.signed]
  simp
  omega

theorem within_eq {a n : Int} (h0 : 0 < n) (h1 : n ≤ 4611686018427387904) : dispatchlaw21_within a n = some (a % n) := by
  unfold dispatchlaw21_within
  have hn : nz n = some () := by unfold nz; rw [if_pos (by omega)]
  rw [hn]
  have hm : Int.tmod a n = if 0 ≤ a ∨ n ∣ a then a % n else a % n - n := by
    rw [Int.tmod_eq_emod]
    split <;> simp [Int.natAbs_of_nonneg (Int.le_of_lt h0)]
  have e0 := Int.emod_nonneg a (show n ≠ 0 by omega)
  have e1 := Int.emod_lt_of_pos a h0
  simp only [Option.bind_some, Bool.cond_eq_ite, decide_eq_true_eq]
  rw [hm]
  by_cases hc : 0 ≤ a ∨ n ∣ a
  · rw [if_pos hc, if_neg (by omega)]; rfl
  · rw [if_neg hc, if_pos (by omega), w64_id (by omega) (by omega)]
    simp only [Option.bind_some, Option.some.injEq]
    omega

/-- rounds that count up to n, with what holds at each -/
theorem loop_inv {τ ρ σ : Type} (mk : σ → Int → τ) (step : τ → Option (τ ⊕ ρ)) (n : Nat) (Inv : Nat → σ → Prop) (fin : σ → ρ)
    (h1 : ∀ k, k < n → ∀ s, Inv k s → ∃ s', step (mk s (k : Int)) = some (.inl (mk s' ((k + 1 : Nat) : Int))) ∧ Inv (k + 1) s')
    (h2 : ∀ s, Inv n s → step (mk s (n : Int)) = some (.inr (fin s))) {s : σ} (h0 : Inv 0 s) : ∃ s', loop step (mk s 0) = some (fin s') ∧ Inv n s' := by
  have key : ∀ (m k : Nat), m + k = n → ∀ s, Inv k s → ∃ s', loop step (mk s (k : Int)) = some (fin s') ∧ Inv n s' := by
    intro m
    induction m with
    | zero =>
      intro k hk s hs
      have hk : k = n := by omega
      subst hk
      exact ⟨s, by rw [loop_eq, h2 s hs], hs⟩
    | succ m ih =>
      intro k hk s hs
      obtain ⟨s', e, hs'⟩ := h1 k (by omega) s hs
      rw [loop_eq, e]
      exact ih (k + 1) (by omega) s' hs'
  exact key n 0 rfl s h0

theorem idx_lt {α : Type} {l : List α} {k : Nat} (h : k < l.length) : idx l (k : Int) = some l[k] := by
  unfold idx
  rw [if_pos (by omega), Int.toNat_natCast, List.getElem?_eq_getElem h]
theorem app_ok {α : Type} {b : Nat} {l m : List α} (h : (l ++ m).length ≤ 1000000) (hb : b ≤ 100000) : app b l m = some (l ++ m) := by
  unfold app
  rw [if_pos]
  have : (l ++ m).length * b ≤ 1000000 * 100000 := Nat.mul_le_mul h hb
  unfold maxLen
  omega
theorem step_succ {k : Nat} (h : k < 1000000000) : w64 ((k : Int) + 1) = ((k + 1 : Nat) : Int) := by
  rw [w64_id (by omega) (by omega)]; omega
theorem inb_lt {i n : Nat} (h : i < n) : inb (i : Int) n = some i := by
  unfold inb
  rw [Int.toNat_natCast, if_pos ⟨by omega, h⟩]
theorem nz_ok {x : Int} (h : x ≠ 0) : nz x = some () := by unfold nz; rw [if_pos h]

/-! tables -/
def tab {α : Type} (n : Nat) (f : Nat → α) : List α := (List.range n).map f
theorem tab_len {α : Type} (n : Nat) (f : Nat → α) : (tab n f).length = n := by simp [tab]
theorem tab_get {α : Type} {n : Nat} {f : Nat → α} {i : Nat} (h : i < n) : (tab n f)[i]? = some (f i) := by simp [tab, h]
theorem tab_ext {α : Type} {n : Nat} {f g : Nat → α} (h : ∀ i, i < n → f i = g i) : tab n f = tab n g := by
  unfold tab
  apply List.map_congr_left
  intro i hi
  exact h i (List.mem_range.1 hi)
theorem tab_set {α : Type} {n k : Nat} {f : Nat → α} {v : α} (h : k < n) : (tab n f).set k v = tab n fun i => if i = k then v else f i := by
  apply List.ext_getElem?
  intro i
  rw [List.getElem?_set, tab_len]
  by_cases hi : i < n
  · rw [tab_get (f := fun i => if i = k then v else f i) hi]
    by_cases e : k = i
    · subst e
      simp [h]
    · have e' : ¬ i = k := fun h => e h.symm
      simp only [e, e', if_false]
      exact tab_get hi
  · rw [List.getElem?_eq_none (by rw [tab_len]; omega), if_neg (by omega), List.getElem?_eq_none (by rw [tab_len]; omega)]
theorem tab_upd {α : Type} {n k : Nat} (f g : Nat → α) {v : α} (h : k < n) (hv : v = f k) : (tab n fun i => if i < k then f i else g i).set k v = tab n fun i => if i < k + 1 then f i else g i := by
  subst hv
  rw [tab_set h]
  apply tab_ext
  intro i hi
  by_cases e : i = k
  · subst e; rw [if_pos rfl, if_pos (by omega)]
  · rw [if_neg e]
    by_cases h : i < k
    · rw [if_pos h, if_pos (by omega)]
    · rw [if_neg h, if_neg (by omega)]
theorem tab_rep {α : Type} (n : Nat) (v : α) : List.replicate n v = tab n fun _ => v := by
  apply List.ext_getElem?
  intro i
  by_cases hi : i < n
  · rw [tab_get hi]; simp [hi]
  · rw [List.getElem?_eq_none (by simp; omega), List.getElem?_eq_none (by rw [tab_len]; omega)]
theorem tab_of (l : List Int) : l = tab l.length fun i => l.getD i 0 := by
  apply List.ext_getElem?
  intro i
  by_cases hi : i < l.length
  · rw [tab_get hi]; simp [List.getD, hi]
  · rw [List.getElem?_eq_none (by omega), List.getElem?_eq_none (by rw [tab_len]; omega)]
theorem tab_snoc {α : Type} (n : Nat) (f : Nat → α) : tab n f ++ [f n] = tab (n + 1) f := by simp [tab, List.range_succ]
theorem tab_inj {α : Type} {n : Nat} {f g : Nat → α} (h : tab n f = tab n g) {i : Nat} (hi : i < n) : f i = g i := by
  have := tab_get (f := f) hi
  rw [h, tab_get hi] at this
  exact (Option.some.inj this).symm
theorem tab_mem {α : Type} {n : Nat} {f : Nat → α} {x : α} : x ∈ tab n f ↔ ∃ i, i < n ∧ f i = x := by simp [tab]

/-! sums -/
def S (f : Nat → Int) : Nat → Int
  | 0 => 0
  | n + 1 => S f n + f n
theorem S_congr {f g : Nat → Int} {n : Nat} (h : ∀ i, i < n → f i = g i) : S f n = S g n := by
  induction n with
  | zero => rfl
  | succ n ih => rw [S, S, ih (fun i hi => h i (by omega)), h n (by omega)]
theorem S_add {f g : Nat → Int} {n : Nat} : S (fun i => f i + g i) n = S f n + S g n := by
  induction n with
  | zero => rfl
  | succ n ih => rw [S, S, S, ih]; omega
theorem S_mul {f : Nat → Int} {c : Int} {n : Nat} : S (fun i => c * f i) n = c * S f n := by
  induction n with
  | zero => simp [S]
  | succ n ih => rw [S, S, ih, Int.mul_add]
theorem S_le {f g : Nat → Int} {n : Nat} (h : ∀ i, i < n → f i ≤ g i) : S f n ≤ S g n := by
  induction n with
  | zero => exact Int.le_refl _
  | succ n ih =>
    rw [S, S]
    have := ih (fun i hi => h i (by omega))
    have := h n (by omega)
    omega
theorem S_const {c : Int} {n : Nat} : S (fun _ => c) n = n * c := by
  induction n with
  | zero => simp [S]
  | succ n ih => rw [S, ih, Int.natCast_add, Int.add_mul]; simp
theorem S_nonneg {f : Nat → Int} {n : Nat} (h : ∀ i, i < n → 0 ≤ f i) : 0 ≤ S f n := by
  have := S_le (f := fun _ => 0) (g := f) (n := n) h
  rw [S_const] at this
  omega
theorem S_one {j n : Nat} (h : j < n) : S (fun i => if i = j then 1 else 0) n = 1 := by
  induction n with
  | zero => omega
  | succ n ih =>
    rw [S]
    by_cases e : j = n
    · subst e
      have : S (fun i => if i = j then 1 else 0) j = 0 := by
        rw [S_congr (g := fun _ => 0) (fun i hi => if_neg (by omega)), S_const]; simp
      rw [this, if_pos rfl]; rfl
    · rw [ih (by omega), if_neg (fun e' => e e'.symm)]; rfl
theorem S_mem {f : Nat → Int} {n i : Nat} (h : ∀ i, i < n → 0 ≤ f i) (hi : i < n) : f i ≤ S f n := by
  induction n with
  | zero => omega
  | succ n ih =>
    rw [S]
    by_cases e : i = n
    · subst e
      have := S_nonneg (f := f) (n := i) (fun j hj => h j (by omega))
      omega
    · have := ih (fun j hj => h j (by omega)) (by omega)
      have := h n (by omega)
      omega
theorem S_zero {f : Nat → Int} {n : Nat} (h : ∀ i, i < n → 0 ≤ f i) (h0 : S f n = 0) : ∀ i, i < n → f i = 0 := by
  intro i hi
  have := S_mem h hi
  have := h i hi
  omega

theorem sum_eq {n : Nat} {f : Nat → Int} (hn : n ≤ 1000) (hf : ∀ i, i < n → 0 ≤ f i ∧ f i ≤ 1099511627776) : split_sum (tab n f) = some (S f n) := by
  unfold split_sum
  obtain ⟨v, e, hv⟩ := loop_inv (fun (v : Int) k => (v, k)) (split_sum_l1 (tab n f)) n (fun k v => v = S f k) (fun v => v) (by
    rintro k hk v rfl
    refine ⟨S f (k + 1), ?_, rfl⟩
    have b1 := S_nonneg (f := f) (n := k) (fun i hi => (hf i (by omega)).1)
    have b2 := S_le (f := f) (g := fun _ => 1099511627776) (n := k) (fun i hi => (hf i (by omega)).2)
    rw [S_const] at b2
    have b3 := hf k hk
    unfold split_sum_l1
    rw [decide_eq_true (by dsimp only; rw [tab_len]; omega), idx_lt (by rw [tab_len]; exact hk), step_succ (by omega)]
    have : (tab n f)[k]'(by rw [tab_len]; exact hk) = f k := by
      have := tab_get (f := f) hk
      rw [List.getElem?_eq_getElem (by rw [tab_len]; exact hk)] at this
      exact Option.some.inj this
    rw [this]
    simp only [cond_true, Option.bind_some]
    rw [w64_id (by omega) (by omega)]
    rfl) (by
    rintro v rfl
    unfold split_sum_l1
    rw [decide_eq_false (by dsimp only; rw [tab_len]; omega)]
    rfl) (s := 0) rfl
  rw [e, hv]
  rfl

def gd (x : Int) : Int := if x < 0 ∨ x > 1048576 then 0 else x
theorem gd_bd (x : Int) : 0 ≤ gd x ∧ gd x ≤ 1048576 := by unfold gd; split <;> omega
theorem gd_id {x : Int} (h1 : 0 ≤ x) (h2 : x ≤ 1048576) : gd x = x := by unfold gd; rw [if_neg (by omega)]
theorem good_eq (x : Int) : split_good x = some (gd x) := by
  unfold split_good gd
  by_cases h : x < 0
  · rw [decide_eq_true h, if_pos (.inl h)]; rfl
  · rw [decide_eq_false h]
    by_cases h2 : x > 1048576
    · rw [decide_eq_true h2, if_pos (.inr h2)]; rfl
    · rw [decide_eq_false h2, if_neg (by omega)]; rfl
end Go.Fx.D
