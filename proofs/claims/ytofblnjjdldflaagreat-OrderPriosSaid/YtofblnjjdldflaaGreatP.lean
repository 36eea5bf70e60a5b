/-
  Laws over plain data: true at all inputs. Conditions: none.
-/
import Derived.Test.YtofblnjjdldflaaGreatV
namespace Go.Fx.D
open Go Go.Fx
set_option linter.unusedVariables false
set_option linter.unusedSimpArgs false
set_option maxRecDepth 100000

theorem w64_id {x : Int} (h1 : -9223372036854775808 ≤ x) (h2 : x < 9223372036854775808) : w64 x = x := by
  simp only [w64, IntKind.wrap, IntKind.bits, IntKind.signed]
  simp
  omega

theorem within_eq {a n : Int} (h0 : 0 < n) (h1 : n ≤ 4611686018427387904) : dispatchlaw12_within a n = some (a % n) := by
  unfold dispatchlaw12_within
  have hn : nz n = some () := by unfold nz; rw [if_pos (by omega)]
  rw [hn]
  have hm : Int.tmod a n = if 0 ≤ a ∨ n ∣ a then a % n else a % n - n := by
    rw [Int.tmod_eq_emod]
    split <;> simp [Int.natAbs_of_nonneg (Int.le_of_lt h0)]
  have e0 := Int.emod_nonneg a (show n ≠ 0 by omega)
  have e1 := Int.emod_lt_of_pos a h0
  simp only [Option.bind_some, Bool.cond_eq_ite, decide_eq_true_eq]
  rw [hm]
  by_cases hc : 0 ≤ a ∨ n ∣ a
  · rw [if_pos hc, if_neg (by omega)]; rfl
  · rw [if_neg hc, if_pos (by omega), w64_id (by omega) (by omega)]
    simp only [Option.bind_some, Option.some.injEq]
    omega

/-- rounds that count up to n, with what holds at each -/
theorem loop_inv {τ ρ σ : Type} (mk : σ → Int → τ) (step : τ → Option (τ ⊕ ρ)) (n : Nat) (Inv : Nat → σ → Prop) (fin : σ → ρ)
    (h1 : ∀ k, k < n → ∀ s, Inv k s → ∃ s', step (mk s (k : Int)) = some (.inl (mk s' ((k + 1 : Nat) : Int))) ∧ Inv (k + 1) s')
    (h2 : ∀ s, Inv n s → step (mk s (n : Int)) = some (.inr (fin s))) {s : σ} (h0 : Inv 0 s) : ∃ s', loop step (mk s 0) = some (fin s') ∧ Inv n s' := by
  have key : ∀ (m k : Nat), m + k = n → ∀ s, Inv k s → ∃ s', loop step (mk s (k : Int)) = some (fin s') ∧ Inv n s' := by
    intro m
    induction m with
    | zero =>
      intro k hk s hs
      have hk : k = n := by omega
      subst hk
      exact ⟨s, by rw [loop_eq, h2 s hs], hs⟩
    | succ m ih =>
      intro k hk s hs
      obtain ⟨s', e, hs'⟩ := h1 k (by omega) s hs
      rw [loop_eq, e]
      exact ih (k + 1) (by omega) s' hs'
  exact key n 0 rfl s h0
theorem idx_lt {α : Type} {l : List α} {k : Nat} (h : k < l.length) : idx l (k : Int) = some l[k] := by
  unfold idx
  rw [if_pos (by omega), Int.toNat_natCast, List.getElem?_eq_getElem h]
theorem app_ok {α : Type} {b : Nat} {l m : List α} (h : (l ++ m).length ≤ 1000000) (hb : b ≤ 100000) : app b l m = some (l ++ m) := by
  unfold app
  rw [if_pos]
  have : (l ++ m).length * b ≤ 1000000 * 100000 := Nat.mul_le_mul h hb
  unfold maxLen
  omega
theorem step_succ {k : Nat} (h : k < 1000000000) : w64 ((k : Int) + 1) = ((k + 1 : Nat) : Int) := by
  rw [w64_id (by omega) (by omega)]; omega
theorem inb_lt {k n : Nat} (h : k < n) : inb (k : Int) n = some k := by
  unfold inb
  rw [if_pos ⟨by omega, by rw [Int.toNat_natCast]; exact h⟩, Int.toNat_natCast]
theorem slc_ok {α : Type} {l : List α} {a b : Nat} (h : a ≤ b) (h' : b ≤ l.length) : slc l (a : Int) (b : Int) = some ((l.take b).drop a) := by
  unfold slc
  rw [if_pos ⟨by omega, by omega, by omega⟩]
  simp

/-! ## what stands first -/
def LtA (a b : App) : Prop := b.Prio < a.Prio ∨ (b.Prio = a.Prio ∧ a.Id < b.Id)
theorem ltA_trans {a b c : App} (h : LtA a b) (k : LtA b c) : LtA a c := by unfold LtA at *; omega
theorem ltA_total {a b : App} (h : a.Id ≠ b.Id) (k : ¬ LtA a b) : LtA b a := by unfold LtA at *; omega

theorem loop_out {τ σ : Type} {step : τ → Option (τ ⊕ σ)} {t : τ} {r : σ} (h : step t = some (.inr r)) : loop step t = some r := by
  rw [loop_eq, h]
theorem loop_next {τ σ : Type} {step : τ → Option (τ ⊕ σ)} {t t' : τ} (h : step t = some (.inl t')) : loop step t = loop step t' := by
  rw [loop_eq, h]
theorem cmpI (x y : Int) : cmp_Compare_int_ x y = some (if x < y then -1 else if x > y then 1 else 0) := by
  unfold cmp_Compare_int_ cmp_isNaN_int_
  simp only [bne_self_eq_false, Option.bind_some, cond_false, Bool.cond_eq_ite, decide_eq_true_eq, Bool.false_eq_true, if_false]
  split
  · rfl
  · split <;> rfl
theorem or2 (x y : Int) : cmp_Or_int_ [x, y] = some (if x ≠ 0 then x else y) := by
  unfold cmp_Or_int_
  have s0 : x ≠ 0 → cmp_Or_int__l1 [x, y] 0 = some (.inr (.inl x)) := by
    intro h
    have : (x != 0) = true := by simp [h]
    show (bif x != 0 then some (Sum.inr (Sum.inl x)) else some (Sum.inl (w64 (0 + 1)))) = _
    rw [this]; rfl
  have s1 : y ≠ 0 → cmp_Or_int__l1 [x, y] 1 = some (.inr (.inl y)) := by
    intro h
    have : (y != 0) = true := by simp [h]
    show (bif y != 0 then some (Sum.inr (Sum.inl y)) else some (Sum.inl (w64 (1 + 1)))) = _
    rw [this]; rfl
  by_cases h : x = 0
  · subst h
    have t0 : cmp_Or_int__l1 [0, y] 0 = some (.inl 1) := rfl
    rw [loop_next t0, if_neg (by simp)]
    by_cases k : y = 0
    · subst k
      have t1 : cmp_Or_int__l1 [0, 0] 1 = some (.inl 2) := rfl
      have t2 : cmp_Or_int__l1 [0, 0] 2 = some (.inr (.inr ())) := rfl
      rw [loop_next t1, loop_out t2]; rfl
    · rw [loop_out (s1 k)]; rfl
  · rw [loop_out (s0 h), if_pos h]; rfl
theorem ord1 (a b : App) : ∃ r, order_Apps_1 a b = some r ∧ (r < 0 ↔ LtA a b) := by
  unfold order_Apps_1
  rw [cmpI, cmpI]
  simp only [Option.bind_some]
  rw [or2]
  refine ⟨_, rfl, ?_⟩
  unfold LtA
  rcases Int.lt_trichotomy b.Prio a.Prio with h | h | h
  · simp [h]
  · have h1 : ¬ b.Prio < a.Prio := by omega
    have h2 : ¬ b.Prio > a.Prio := by omega
    rcases Int.lt_trichotomy a.Id b.Id with k | k | k
    · simp [h1, h2, h, k]
    · have k1 : ¬ a.Id < b.Id := by omega
      have k2 : ¬ a.Id > b.Id := by omega
      simp [h1, h2, h, k]
    · have k1 : ¬ a.Id < b.Id := by omega
      simp [h1, h2, h, k, k1]
  · have h1 : ¬ b.Prio < a.Prio := by omega
    have h2 : b.Prio > a.Prio := by omega
    have h3 : ¬ b.Prio = a.Prio := by omega
    simp [h1, h2, h3]

noncomputable abbrev cmpF : TupT fam [.st 6, .st 6] → Option Int := fun a' => order_Apps_1 a'.1 a'.2.1

theorem in0 (x : App) (T : List App) : api_App__l2 0 cmpF (x :: T, 0) = some (.inr (x :: T)) := by
  unfold api_App__l2
  rfl
theorem inS_ (B T : List App) (x y : App) (hbig : B.length < 1000000000) : (LtA x y → api_App__l2 0 cmpF (B ++ y :: x :: T, ((B.length + 1 : Nat) : Int)) = some (.inl (B ++ x :: y :: T, (B.length : Int)))) ∧
    (¬ LtA x y → api_App__l2 0 cmpF (B ++ y :: x :: T, ((B.length + 1 : Nat) : Int)) = some (.inr (B ++ y :: x :: T))) := by
  obtain ⟨r, hr, hlt⟩ := ord1 x y
  have hL : (B ++ y :: x :: T).length = B.length + (T.length + 2) := by simp
  have g1 : (B ++ y :: x :: T)[B.length + 1]? = some x := by rw [List.getElem?_append_right (by omega)]; simp
  have g0 : (B ++ y :: x :: T)[B.length]? = some y := by rw [List.getElem?_append_right (by omega)]; simp
  have w1 : w64 (((B.length + 1 : Nat) : Int) - 1) = (B.length : Int) := by rw [w64_id (by omega) (by omega)]; omega
  have i1 : inb (((B.length + 1 : Nat) : Int)) (B ++ y :: x :: T).length = some (B.length + 1) := inb_lt (by omega)
  have i0 : inb ((B.length : Int)) (B ++ y :: x :: T).length = some B.length := inb_lt (by omega)
  have e1 : List.set (B ++ y :: x :: T) (B.length + 1) y = B ++ y :: y :: T := by
    rw [List.set_append_right _ _ (by omega)]; simp
  have i2 : inb ((B.length : Int)) (B ++ y :: y :: T).length = some B.length := inb_lt (by simp)
  have g2 : (B ++ y :: y :: T)[B.length]? = some y := by rw [List.getElem?_append_right (by omega)]; simp
  have e2 : List.set (B ++ y :: y :: T) B.length x = B ++ x :: y :: T := by
    rw [List.set_append_right _ _ (by omega)]; simp
  have d1 : decide (((B.length + 1 : Nat) : Int) > 0) = true := by rw [decide_eq_true_iff]; omega
  constructor
  · intro h
    unfold api_App__l2
    simp only [d1, cond_true, i1, i0, w1, Option.bind_some, g1, g0, hr, decide_eq_true (hlt.2 h), e1, i2, g2, e2]
  · intro h
    unfold api_App__l2
    simp only [d1, cond_true, i1, i0, w1, Option.bind_some, g1, g0, hr, decide_eq_false (fun k => h (hlt.1 k)), cond_false]

theorem inner : ∀ (n : Nat) (B : List App), B.length = n → n < 1000000000 → ∀ (x : App) (T : List App), ∃ B1 B2, B = B1 ++ B2 ∧ loop (api_App__l2 0 cmpF) (B ++ x :: T, (B.length : Int)) = some (B1 ++ x :: (B2 ++ T)) ∧ (∀ y ∈ B2, LtA x y) ∧ (∀ C y, B1 = C ++ [y] → ¬ LtA x y)
  | 0, B, hn, _, x, T => by
    have : B = [] := List.length_eq_zero_iff.1 hn
    subst this
    exact ⟨[], [], rfl, loop_out (in0 x T), by simp, fun C y h => by simp at h⟩
  | n + 1, B, hn, hb, x, T => by
    rcases List.eq_nil_or_concat B with h | ⟨B', y, h⟩
    · subst h; simp at hn
    · have h : B = B' ++ [y] := by simpa using h
      subst h
      have hl : B'.length = n := by simp at hn; exact hn
      have e : B' ++ [y] ++ x :: T = B' ++ y :: x :: T := by simp
      have el : ((B' ++ [y]).length : Int) = ((B'.length + 1 : Nat) : Int) := by simp
      obtain ⟨q1, q2⟩ := inS_ B' T x y (by omega)
      rw [e, el]
      by_cases hlt : LtA x y
      · rw [loop_next (q1 hlt)]
        obtain ⟨B1, B2, k1, k2, k3, k4⟩ := inner n B' hl (by omega) x (y :: T)
        refine ⟨B1, B2 ++ [y], by rw [k1]; simp, by rw [k2]; simp, ?_, k4⟩
        intro z hz
        rcases List.mem_append.1 hz with h | h
        · exact k3 z h
        · rw [List.mem_singleton.1 h]; exact hlt
      · refine ⟨B' ++ [y], [], by simp, by rw [loop_out (q2 hlt)]; simp, by simp, ?_⟩
        intro C z hz
        have := List.append_inj' hz rfl
        rw [← (List.cons.inj this.2).1]; exact hlt

theorem outer (n : Nat) (hn : n < 1000000000) : ∀ (R A : List App), (A ++ R).length = n → A.Pairwise LtA → (A ++ R).Pairwise (fun a b => a.Id ≠ b.Id) →
    ∃ r, loop (api_App__l1 0 (n : Int) cmpF) (A ++ R, (A.length : Int)) = some r ∧ r.Perm (A ++ R) ∧ r.Pairwise LtA
  | [], A, hl, hs, hd => by
    have hl' : A.length = n := by simpa using hl
    refine ⟨A, ?_, by simp, hs⟩
    refine loop_out ?_
    unfold api_App__l1
    have : decide ((A.length : Int) < (n : Int)) = false := by rw [decide_eq_false_iff_not]; omega
    simp only [this, cond_false, List.append_nil]
  | x :: R, A, hl, hs, hd => by
    have hl' : A.length + (R.length + 1) = n := by simpa using hl
    obtain ⟨B1, B2, k1, k2, k3, k4⟩ := inner A.length A rfl (by omega) x R
    have d1 : decide ((A.length : Int) < (n : Int)) = true := by rw [decide_eq_true_iff]; omega
    have hst : api_App__l1 0 (n : Int) cmpF (A ++ x :: R, (A.length : Int)) = some (.inl ((B1 ++ x :: B2) ++ R, (((B1 ++ x :: B2).length : Nat) : Int))) := by
      unfold api_App__l1
      simp only [d1, cond_true, k2, Option.bind_some]
      rw [step_succ (by omega)]
      have : (B1 ++ x :: B2).length = A.length + 1 := by rw [k1]; simp; omega
      rw [this]
      simp
    have hp : ((B1 ++ x :: B2) ++ R).Perm (A ++ x :: R) := by
      rw [k1]
      have : (B1 ++ x :: B2).Perm (B1 ++ B2 ++ [x]) := by
        refine List.perm_middle.trans ?_
        exact (List.perm_append_singleton x (B1 ++ B2)).symm
      have := this.append_right R
      simpa using this
    have hpA : (B1 ++ x :: B2).Pairwise LtA := by
      rw [k1] at hs
      obtain ⟨s1, s2, s3⟩ := List.pairwise_append.1 hs
      refine List.pairwise_append.2 ⟨s1, List.pairwise_cons.2 ⟨k3, s2⟩, ?_⟩
      have hx : ∀ y ∈ B1, LtA y x := by
        rcases List.eq_nil_or_concat B1 with h | ⟨C, z, h⟩
        · subst h; simp
        · have h : B1 = C ++ [z] := by simpa using h
          have hz : LtA z x := by
            refine ltA_total ?_ (k4 C z h)
            rw [k1, h] at hd
            have := (List.pairwise_append.1 hd).2.2 z (by simp) x (by simp)
            exact fun e => this e.symm
          intro y hy
          rw [h] at hy s1
          rcases List.mem_append.1 hy with hy | hy
          · exact ltA_trans ((List.pairwise_append.1 s1).2.2 y hy z (by simp)) hz
          · rw [List.mem_singleton.1 hy]; exact hz
      intro y hy z hz
      rcases List.mem_cons.1 hz with rfl | hz
      · exact hx y hy
      · exact s3 y hy z hz
    obtain ⟨r, r1, r2, r3⟩ := outer n hn R (B1 ++ x :: B2) (by rw [hp.length_eq]; exact hl) hpA (hp.symm.pairwise hd (fun h => fun e => h e.symm))
    exact ⟨r, by rw [loop_next hst]; exact r1, r2.trans hp, r3⟩

theorem sortA_ok (l : List App) (hl : l.length ≤ 12) (hd : l.Pairwise (fun a b => a.Id ≠ b.Id)) : ∃ r, api_App__22 l cmpF = some r ∧ r.Perm l ∧ r.Pairwise LtA := by
  have h0 : ∃ r, api_App_ l 0 (l.length : Int) cmpF = some r ∧ r.Perm l ∧ r.Pairwise LtA := by
    unfold api_App_
    cases l with
    | nil =>
      refine ⟨[], ?_, List.Perm.refl _, List.Pairwise.nil⟩
      have : api_App__l1 0 ((([] : List App).length : Nat) : Int) cmpF ([], w64 (0 + 1)) = some (.inr []) := rfl
      rw [loop_out this]; rfl
    | cons x l =>
      obtain ⟨r, r1, r2, r3⟩ := outer (x :: l).length (by omega) l [x] (by simp) (by simp) hd
      refine ⟨r, ?_, r2, r3⟩
      have e : ((x :: l : List App), w64 (0 + 1)) = ([x] ++ l, (([x] : List App).length : Int)) := rfl
      rw [e, r1]; rfl
  obtain ⟨r, r1, r2, r3⟩ := h0
  refine ⟨r, ?_, r2, r3⟩
  unfold api_App__22 api_App__64
  have e1 : api_App__64_l1 (l.length : Int) cmpF (l, 0, 20) = some (.inr (l, 0)) := by
    unfold api_App__64_l1
    have : decide ((20 : Int) ≤ (l.length : Int)) = false := by rw [decide_eq_false_iff_not]; omega
    simp only [this, cond_false]
  have e2 : api_App__64_l2 (l.length : Int) cmpF (r, 20) = some (.inr r) := by
    unfold api_App__64_l2
    have : decide ((20 : Int) < (l.length : Int)) = false := by rw [decide_eq_false_iff_not]; omega
    simp only [this, cond_false]
  rw [loop_out e1]
  simp only [Option.bind_some, r1]
  rw [loop_out e2]
  rfl
end Go.Fx.D
