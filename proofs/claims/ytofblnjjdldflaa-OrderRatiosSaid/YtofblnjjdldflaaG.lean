/-
  Laws over plain data: true at all inputs. Conditions: none.
-/
import Derived.Test.YtofblnjjdldflaaF
namespace Go.Fx.D
open Go Go.Fx
set_option linter.unusedVariables false
set_option linter.unusedSimpArgs false
set_option maxRecDepth 100000

theorem inb_lt {k n : Nat} (h : k < n) : inb (k : Int) n = some k := by
  unfold inb
  rw [if_pos ⟨by omega, by rw [Int.toNat_natCast]; exact h⟩, Int.toNat_natCast]
abbrev sQ (Q : List Queue) (A : List App) (C : List Cont) : State := ⟨⟨[[]], Q⟩, [⟨1, 0, 0, ⟨100, 100⟩, 0, 0, true⟩], A, C, [], [], 0, 0, 0⟩

theorem inner {Q : List Queue} {A : List App} {C : List Cont} {t : State × Int × List Int × List Int × Int × Int} {k u : Nat} (hk : k < 4) (ht : t.2.2.2.2.2 = (k : Int)) (hl : t.2.2.1.length = 4) (hu : u ≤ 20) (hC : C.length ≤ 80) :
    loop (dispatchlaw12_OrderRatios_l2 t (u : Int) k) (sQ Q A C, (C.length : Int), 0) = some (sQ Q A (C ++ CB C.length k u), ((C.length + u : Nat) : Int)) := by
  have hg : (List.set t.2.2.1 k (u : Int))[k]? = some (u : Int) := by rw [List.getElem?_set_self (by omega)]
  obtain ⟨v, e1, e2⟩ := loop_inv (fun (v : List Cont × Int) m => (sQ Q A v.1, v.2, m)) (dispatchlaw12_OrderRatios_l2 t (u : Int) k) u
    (fun m v => v = (C ++ CB C.length k m, ((C.length + m : Nat) : Int))) (fun v => (sQ Q A v.1, v.2))
    (by
      intro m hm v hv
      subst hv
      refine ⟨_, ?_, rfl⟩
      have d1 : decide ((m : Int) < (u : Int)) = true := by rw [decide_eq_true_iff]; omega
      have w1 : w64 (((C.length + m : Nat) : Int) + 1) = ((C.length + m + 1 : Nat) : Int) := step_succ (by omega)
      have a1 : app 72 (C ++ CB C.length k m) [(⟨((C.length + m + 1 : Nat) : Int), (k : Int), 1, ⟨1, 1⟩, 0, 0, (m : Int) == 0, 0⟩ : Cont)] = some (C ++ CB C.length k (m + 1)) := by
        rw [app_ok (by simp [CB_len]; omega) (by omega), CB_succ, List.append_assoc]
        have : ((m : Int) == 0) = (m == 0) := by
          cases m with
          | zero => rfl
          | succ m => exact beq_eq_false_iff_ne.2 (by omega)
        rw [this]
        rfl
      unfold dispatchlaw12_OrderRatios_l2
      rw [ht, inb_lt hk]
      simp only [Option.bind_some, hg, d1, cond_true, w1, a1]
      rw [step_succ (by omega)]
      rfl)
    (by
      intro v hv
      unfold dispatchlaw12_OrderRatios_l2
      rw [ht, inb_lt hk]
      have d1 : decide ((u : Int) < (u : Int)) = false := by rw [decide_eq_false_iff_not]; omega
      simp only [Option.bind_some, hg, d1, cond_false]) (s := (C, (C.length : Int))) (by simp [CB])
  rw [e1, e2]

theorem getD_set {b : List Int} {i j : Nat} {v : Int} (hi : i < b.length) : (List.set b i v).getD j 0 = if i = j then v else b.getD j 0 := by
  rw [List.getD_eq_getElem?_getD, List.getD_eq_getElem?_getD, List.getElem?_set]
  by_cases h : i = j
  · subst h; simp [hi]
  · simp [h]
theorem get_getD {b : List Int} {i : Nat} (hi : i < b.length) : b[i]? = some (b.getD i 0) := by
  rw [List.getD_eq_getElem?_getD, List.getElem?_eq_getElem hi]; rfl

def sumG (k : Nat) (G : Nat → Int) : Int := ((List.range k).map G).sum
theorem sumG_succ (k : Nat) (G : Nat → Int) : sumG (k + 1) G = sumG k G + G k := by
  unfold sumG
  rw [List.range_succ, List.map_append, List.sum_append]
  simp
theorem sumG_congr {k : Nat} {G G' : Nat → Int} (h : ∀ i, i < k → G' i = G i) : sumG k G' = sumG k G := by
  unfold sumG
  congr 1
  exact List.map_congr_left fun i hi => h i (List.mem_range.1 hi)
theorem QL_succ (k : Nat) (G : Nat → Int) : QL (k + 1) G = QL k G ++ [⟨P k, [⟨G k, 10000⟩], 1⟩] := by
  unfold QL
  rw [List.range_succ, List.map_append]
  rfl
theorem QL_congr {k : Nat} {G G' : Nat → Int} (h : ∀ i, i < k → G' i = G i) : QL k G' = QL k G := by
  unfold QL
  congr 1
  refine List.map_congr_left fun i hi => ?_
  rw [h i (List.mem_range.1 hi)]

structure Inv (n k : Nat) (A : List App) (C : List Cont) (left : Int) (ul gl : List Int) : Prop where
  ac : Ac2 k (fun i => ul.getD i 0) A C
  lu : ul.length = 4
  lg : gl.length = 4
  l0 : 0 ≤ left
  l1 : left % 100 = 0
  sum : left + sumG k (fun i => gl.getD i 0) = 10000
  last : k = n → left = 0
  g : ∀ i, i < k → 0 ≤ gl.getD i 0 ∧ gl.getD i 0 ≤ 10000 ∧ gl.getD i 0 % 100 = 0
  u : ∀ i, i < k → 0 ≤ ul.getD i 0 ∧ ul.getD i 0 < 20

theorem path_eq {k : Nat} (hk : k < 4) : cat ([114, 111, 111, 116, 46] : List UInt8) (List.map toB [IntKind.u8.wrap (w64 (97 + (k : Int)))]) = some (P k) := by
  match k, hk with
  | 0, _ => rfl
  | 1, _ => rfl
  | 2, _ => rfl
  | 3, _ => rfl
  | k + 4, h => omega

theorem round {used least : List Int} {n k : Nat} (hn : n ≤ 4) (hk : k < n) (hu : n ≤ used.length) (hl : n ≤ least.length) {A : List App} {C : List Cont} {left : Int} {ul gl : List Int} (h : Inv n k A C left ul gl) :
    ∃ A' C' left' ul' gl', dispatchlaw12_OrderRatios_l1 used least (n : Int) (sQ (QL k (fun i => gl.getD i 0)) A C, left, ul, gl, (C.length : Int), (k : Int)) =
      some (.inl (sQ (QL (k + 1) (fun i => gl'.getD i 0)) A' C', left', ul', gl', (C'.length : Int), ((k + 1 : Nat) : Int))) ∧ Inv n (k + 1) A' C' left' ul' gl' := by
  have hk4 : k < 4 := by omega
  have hlC := h.ac.len
  have hl0 := h.l0
  have hleft : left ≤ 10000 := by
    have := h.sum
    have hs : 0 ≤ sumG k (fun i => gl.getD i 0) := by
      have key : ∀ j, j ≤ k → 0 ≤ sumG j (fun i => gl.getD i 0) := by
        intro j
        induction j with
        | zero => intro _; simp [sumG]
        | succ j ih => intro hj; rw [sumG_succ]; have := ih (by omega); have := (h.g j (by omega)).1; omega
      exact key k (Nat.le_refl _)
    omega
  -- the share
  obtain ⟨gk, hgk, hg1, hg2⟩ : ∃ gk : Int, ((
        bif decide ((k : Int) < (w64 ((n : Int) - 1))) then
          (idx least (k : Int)).bind fun x3 =>
          (dispatchlaw12_within x3 (w64 ((w64 (Int.tdiv left 100)) + 1))).bind fun x4 =>
          ((List.set gl k left)[k]?).bind fun x5 =>
          some (List.set (List.set gl k left) k (w64 (x4 * 100)))
        else
          some (List.set gl k left)) : Option (List Int)) = some (List.set gl k gk) ∧ (0 ≤ gk ∧ gk ≤ left ∧ gk % 100 = 0) ∧ (k + 1 = n → gk = left) := by
    have wn : w64 ((n : Int) - 1) = (n : Int) - 1 := w64_id (by omega) (by omega)
    by_cases hlast : k + 1 = n
    · refine ⟨left, ?_, ⟨h.l0, Int.le_refl _, h.l1⟩, fun _ => rfl⟩
      have d1 : decide ((k : Int) < w64 ((n : Int) - 1)) = false := by rw [wn, decide_eq_false_iff_not]; omega
      rw [d1]; rfl
    · have d1 : decide ((k : Int) < w64 ((n : Int) - 1)) = true := by rw [wn, decide_eq_true_iff]; omega
      have i1 : idx least (k : Int) = some least[k] := idx_lt (by omega)
      have wt : w64 ((w64 (Int.tdiv left 100)) + 1) = left / 100 + 1 := by
        rw [Int.tdiv_eq_ediv_of_nonneg h.l0, w64_id (x := left / 100) (by omega) (by omega), w64_id (by omega) (by omega)]
      have hw : dispatchlaw12_within least[k] (left / 100 + 1) = some (least[k] % (left / 100 + 1)) := within_eq (by have := h.l0; omega) (by omega)
      have b0 := Int.emod_nonneg least[k] (show left / 100 + 1 ≠ 0 by have := h.l0; omega)
      have b1 := Int.emod_lt_of_pos least[k] (show 0 < left / 100 + 1 by have := h.l0; omega)
      refine ⟨least[k] % (left / 100 + 1) * 100, ?_, ⟨by omega, by omega, by omega⟩, fun q => absurd q hlast⟩
      rw [d1, i1]
      simp only [cond_true, Option.bind_some, wt, hw]
      have g5 : (List.set gl k left)[k]? = some left := List.getElem?_set_self (by rw [h.lg]; omega)
      rw [g5]
      simp only [Option.bind_some]
      rw [List.set_set, w64_id (by omega) (by omega)]
  have ix : idx used (k : Int) = some used[k] := idx_lt (by omega)
  have hwu : dispatchlaw12_within used[k] 20 = some (used[k] % 20) := within_eq (by omega) (by omega)
  obtain ⟨u, hue⟩ : ∃ u : Nat, used[k] % 20 = (u : Int) := ⟨(used[k] % 20).toNat, by omega⟩
  have hu20 : u < 20 := by omega
  have hkg : k < gl.length := by rw [h.lg]; omega
  have hku : k < ul.length := by rw [h.lu]; omega
  have gg : (List.set gl k gk)[k]? = some gk := List.getElem?_set_self hkg
  have gu : (List.set ul k (u : Int))[k]? = some (u : Int) := List.getElem?_set_self hku
  have gl0 : gl[k]? = some (gl.getD k 0) := get_getD hkg
  have gu0 : ul[k]? = some (ul.getD k 0) := get_getD hku
  have hle : w64 (left - gk) = left - gk := w64_id (by omega) (by omega)
  have heG : ∀ i, i < k → (List.set gl k gk).getD i 0 = gl.getD i 0 := fun i hi => by rw [getD_set hkg, if_neg (by omega)]
  have heU : ∀ i, i < k → (List.set ul k (u : Int)).getD i 0 = ul.getD i 0 := fun i hi => by rw [getD_set hku, if_neg (by omega)]
  have hGk : (List.set gl k gk).getD k 0 = gk := by rw [getD_set hkg, if_pos rfl]
  have hUk : (List.set ul k (u : Int)).getD k 0 = (u : Int) := by rw [getD_set hku, if_pos rfl]
  have hQ : app 48 (QL k (fun i => gl.getD i 0)) [(⟨P k, [⟨gk, 10000⟩], 1⟩ : Queue)] = some (QL (k + 1) (fun i => (List.set gl k gk).getD i 0)) := by
    rw [app_ok (by simp [QL]; omega) (by omega), QL_succ, hGk, QL_congr heG]
  have rest : ∀ A' C', Ac2 (k + 1) (fun i => (List.set ul k (u : Int)).getD i 0) A' C' → Inv n (k + 1) A' C' (left - gk) (List.set ul k (u : Int)) (List.set gl k gk) := by
    intro A' C' ha
    refine ⟨ha, by rw [List.length_set]; exact h.lu, by rw [List.length_set]; exact h.lg, by omega, by have := h.l1; omega, ?_, fun q => by have := hg2 q; omega, ?_, ?_⟩
    · rw [sumG_succ, hGk, sumG_congr heG]
      have := h.sum
      omega
    · intro i hi
      by_cases e : i = k
      · subst e; rw [hGk]; exact ⟨by omega, by omega, hg1.2.2⟩
      · rw [heG i (by omega)]; exact h.g i (by omega)
    · intro i hi
      by_cases e : i = k
      · subst e; rw [hUk]; exact ⟨by omega, by omega⟩
      · rw [heU i (by omega)]; exact h.u i (by omega)
  have d0 : decide ((k : Int) < (n : Int)) = true := by rw [decide_eq_true_iff]; omega
  by_cases hu0 : u = 0
  · refine ⟨A, C, left - gk, List.set ul k (u : Int), List.set gl k gk, ?_, rest _ _ (step0 h.ac hk4 heU (by rw [hUk, hu0]; rfl))⟩
    have hb : ((u : Int) == 0) = true := by rw [hu0]; rfl
    unfold dispatchlaw12_OrderRatios_l1
    simp only [d0, cond_true, inb_lt hk4, Option.bind_some, gl0]
    rw [hgk]
    simp only [Option.bind_some, gg, ix, hwu, hue, gu0, path_eq hk4, hQ, gu, hb, cond_true, hle]
    rw [step_succ (by omega)]
  · have hb : ((u : Int) == 0) = false := beq_eq_false_iff_ne.2 (by omega)
    have hA : app 200 A [(⟨(k : Int), 2, P k, 0, 0, ⟨1, 1⟩, [], 0, 0, [], [], [], []⟩ : App)] = some (A ++ [mkB k]) := app_ok (by have := h.ac.alen; simp; omega) (by omega)
    have hs := step1 h.ac hk4 heU (u := u) hUk hu0 (by omega)
    refine ⟨A ++ [mkB k], C ++ CB C.length k u, left - gk, List.set ul k (u : Int), List.set gl k gk, ?_, rest _ _ hs⟩
    have hin := inner (Q := QL (k + 1) (fun i => (List.set gl k gk).getD i 0)) (A := A ++ [mkB k]) (C := C) (t := (sQ (QL k (fun i => gl.getD i 0)) A C, left, ul, gl, (C.length : Int), (k : Int))) (k := k) (u := u) hk4 rfl h.lu (by omega) (by omega)
    unfold dispatchlaw12_OrderRatios_l1
    simp only [d0, cond_true, inb_lt hk4, Option.bind_some, gl0]
    rw [hgk]
    simp only [Option.bind_some, gg, ix, hwu, hue, gu0, path_eq hk4, hQ, gu, hb, cond_false, hA]
    rw [hin]
    simp only [Option.bind_some, hle]
    rw [step_succ (by omega), List.length_append, CB_len]
end Go.Fx.D
