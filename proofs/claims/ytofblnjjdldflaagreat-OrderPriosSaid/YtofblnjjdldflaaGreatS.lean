/-
  Laws over plain data: true at all inputs. Conditions: none.
-/
import Derived.Test.YtofblnjjdldflaaGreatP
namespace Go.Fx.D
open Go Go.Fx
set_option linter.unusedVariables false
set_option linter.unusedSimpArgs false
set_option maxRecDepth 100000

abbrev rootT : List UInt8 := [114, 111, 111, 116]
abbrev confR : Conf := ⟨[[]], [⟨rootT, [⟨10000, 10000⟩], 10000⟩]⟩
def mkA (k p : Int) : App := ⟨k, 1, rootT, 0, p, ⟨1, 1⟩, [⟨0, 0, ⟨1, 1⟩, 1, -1, -1, 0⟩], 0, 0, [], [], [], []⟩
def stA (L : List App) : State := ⟨confR, [], L, [], [], [], 0, 0, 0⟩
def inA (k p : Int) : App := ⟨k, 0, rootT, 0, p, ⟨1, 1⟩, [], 0, 0, [], [], [], []⟩

theorem find_all (s : State) (id_ : Int) (hn : s.Apps.length ≤ 1000) : ∃ a b, dispatchref10_Find s id_ = some (a, b) ∧ (b = true ↔ ∃ x ∈ s.Apps, x.Id = id_) := by
  have key : ∀ (m k : Nat), m + k = s.Apps.length → ∀ a0 : App, (∀ i (h : i < k) (h' : i < s.Apps.length), s.Apps[i].Id ≠ id_) →
      (∃ a, loop (dispatchref10_Find_l1 s id_) (a0, (k : Int)) = some (.inl (a, true)) ∧ ∃ x ∈ s.Apps, x.Id = id_) ∨ (loop (dispatchref10_Find_l1 s id_) (a0, (k : Int)) = some (.inr a0) ∧ ¬ ∃ x ∈ s.Apps, x.Id = id_) := by
    intro m
    induction m with
    | zero =>
      intro k hk a0 hb
      refine .inr ⟨?_, ?_⟩
      · refine loop_out ?_
        unfold dispatchref10_Find_l1
        have : decide ((k : Int) < (s.Apps.length : Int)) = false := by rw [decide_eq_false_iff_not]; omega
        simp only [this, cond_false]
      · rintro ⟨x, hx, he⟩
        obtain ⟨i, hi, rfl⟩ := List.mem_iff_getElem.1 hx
        exact hb i (by omega) hi he
    | succ m ih =>
      intro k hk a0 hb
      have hk' : k < s.Apps.length := by omega
      have d1 : decide ((k : Int) < (s.Apps.length : Int)) = true := by rw [decide_eq_true_iff]; omega
      by_cases he : s.Apps[k].Id = id_
      · refine .inl ⟨s.Apps[k], ?_, _, List.getElem_mem hk', he⟩
        refine loop_out ?_
        unfold dispatchref10_Find_l1
        simp only [d1, cond_true, idx_lt hk', Option.bind_some, he, beq_self_eq_true]
      · have hst : dispatchref10_Find_l1 s id_ (a0, (k : Int)) = some (.inl (a0, ((k + 1 : Nat) : Int))) := by
          unfold dispatchref10_Find_l1
          have : (s.Apps[k].Id == id_) = false := by simp [he]
          simp only [d1, cond_true, idx_lt hk', Option.bind_some, this, cond_false]
          rw [step_succ (by omega)]
        rw [loop_next hst]
        refine ih (k + 1) (by omega) a0 ?_
        intro i hi h'
        by_cases hik : i = k
        · subst hik; exact he
        · exact hb i (by omega) h'
  unfold dispatchref10_Find
  rcases key s.Apps.length 0 (by omega) ⟨0, 0, [], 0, 0, ⟨0, 0⟩, [], 0, 0, [], [], [], []⟩ (fun i h => by omega) with ⟨a, h1, h2⟩ | ⟨h1, h2⟩
  · have h1' : loop (dispatchref10_Find_l1 s id_) ((⟨0, 0, [], 0, 0, ⟨0, 0⟩, [], 0, 0, [], [], [], []⟩ : App), 0) = some (.inl (a, true)) := h1
    rw [h1']
    exact ⟨_, _, rfl, by simp; simpa using h2⟩
  · have h1' : loop (dispatchref10_Find_l1 s id_) ((⟨0, 0, [], 0, 0, ⟨0, 0⟩, [], 0, 0, [], [], [], []⟩ : App), 0) = some (.inr ⟨0, 0, [], 0, 0, ⟨0, 0⟩, [], 0, 0, [], [], [], []⟩) := h1
    rw [h1']
    exact ⟨_, _, rfl, by simp; simpa using h2⟩

theorem live_all (s : State) (hn : s.Apps.length ≤ 1000) : ∃ v, loop (dispatchref10_Submit_l1 s) (0, 0) = some v ∧ 0 ≤ v ∧ v ≤ s.Apps.length := by
  obtain ⟨v, h1, h2⟩ := loop_inv (fun (v : Int) k => (v, k)) (dispatchref10_Submit_l1 s) s.Apps.length (fun k v => 0 ≤ v ∧ v ≤ k) id
    (by
      intro k hk v hv
      have d1 : decide ((k : Int) < (s.Apps.length : Int)) = true := by rw [decide_eq_true_iff]; omega
      have hl : ∃ b, dispatchref10_Live s.Apps[k] = some b := by unfold dispatchref10_Live; cases (s.Apps[k].State == 1) <;> exact ⟨_, rfl⟩
      obtain ⟨b, hb⟩ := hl
      cases b with
      | true =>
        refine ⟨v + 1, ?_, by omega⟩
        unfold dispatchref10_Submit_l1
        simp only [d1, cond_true, idx_lt hk, Option.bind_some, hb]
        rw [step_succ (by omega), w64_id (by omega) (by omega)]
      | false =>
        refine ⟨v, ?_, by omega⟩
        unfold dispatchref10_Submit_l1
        simp only [d1, cond_true, idx_lt hk, Option.bind_some, hb, cond_false]
        rw [step_succ (by omega)])
    (by
      intro v hv
      unfold dispatchref10_Submit_l1
      have : decide ((s.Apps.length : Int) < (s.Apps.length : Int)) = false := by rw [decide_eq_false_iff_not]; omega
      simp only [this, cond_false, id])
    (s := (0 : Int)) (by omega)
  exact ⟨v, h1, h2⟩

theorem put_all (L : List App) (a : App) (hn : L.length ≤ 1000) (ha : ¬ ∃ x ∈ L, x.Id = a.Id) : ∃ k, k ≤ L.length ∧ dispatchref10_Put (stA L) a = some (stA (L.take k ++ a :: L.drop k)) := by
  have key : ∀ (m k : Nat), m + k = L.length → ∃ j, k ≤ j ∧ j ≤ L.length ∧ loop (dispatchref10_Put_l1 (stA L) a) (k : Int) = some (j : Int) := by
    intro m
    induction m with
    | zero =>
      intro k hk
      refine ⟨k, Nat.le_refl _, by omega, loop_out ?_⟩
      unfold dispatchref10_Put_l1
      have : decide ((k : Int) < ((stA L).Apps.length : Int)) = false := by rw [decide_eq_false_iff_not]; show ¬ (k : Int) < (L.length : Int); omega
      simp only [this, cond_false, Option.bind_some]
    | succ m ih =>
      intro k hk
      have hk' : k < L.length := by omega
      have d1 : decide ((k : Int) < ((stA L).Apps.length : Int)) = true := by rw [decide_eq_true_iff]; show (k : Int) < (L.length : Int); omega
      have i1 : idx (stA L).Apps (k : Int) = some L[k] := idx_lt hk'
      by_cases hlt : L[k].Id < a.Id
      · have hst : dispatchref10_Put_l1 (stA L) a (k : Int) = some (.inl ((k + 1 : Nat) : Int)) := by
          unfold dispatchref10_Put_l1
          simp only [d1, cond_true, i1, Option.bind_some, decide_eq_true hlt]
          rw [step_succ (by omega)]
        obtain ⟨j, h1, h2, h3⟩ := ih (k + 1) (by omega)
        exact ⟨j, by omega, h2, by rw [loop_next hst]; exact h3⟩
      · refine ⟨k, Nat.le_refl _, by omega, loop_out ?_⟩
        unfold dispatchref10_Put_l1
        simp only [d1, cond_true, i1, Option.bind_some, decide_eq_false hlt, cond_false]
  obtain ⟨k, _, hk, hloop⟩ := key L.length 0 (by omega)
  refine ⟨k, hk, ?_⟩
  have hloop' : loop (dispatchref10_Put_l1 (stA L) a) 0 = some (k : Int) := hloop
  unfold dispatchref10_Put
  rw [hloop']
  have s1 : slc (stA L).Apps 0 (k : Int) = some (L.take k) := by
    have := slc_ok (l := L) (a := 0) (b := k) (by omega) hk
    rw [List.drop_zero] at this
    exact this
  have a1 : app 200 [] (L.take k) = some (L.take k) := by rw [app_ok (by simp; omega) (by omega)]; rfl
  have a2 : app 200 (L.take k) [a] = some (L.take k ++ [a]) := app_ok (by simp; omega) (by omega)
  have s2 : slc (stA L).Apps (k : Int) ((stA L).Apps.length : Int) = some (L.drop k) := by
    have := slc_ok (l := L) (a := k) (b := L.length) hk (Nat.le_refl _)
    rw [List.take_length] at this
    exact this
  have a3 : app 200 (L.take k ++ [a]) (L.drop k) = some (L.take k ++ [a] ++ L.drop k) := app_ok (by simp; omega) (by omega)
  have hq : ((bif decide ((k : Int) < ((stA L).Apps.length : Int)) then (idx (stA L).Apps (k : Int)).bind fun x1 => some (x1.Id == a.Id) else some false) : Option Bool) = some false := by
    by_cases hk' : k < L.length
    · have d1 : decide ((k : Int) < ((stA L).Apps.length : Int)) = true := by rw [decide_eq_true_iff]; show (k : Int) < (L.length : Int); omega
      have i1 : idx (stA L).Apps (k : Int) = some L[k] := idx_lt hk'
      rw [d1, cond_true, i1]
      have : L[k].Id ≠ a.Id := fun e => ha ⟨_, List.getElem_mem hk', e⟩
      simp [this]
    · have d1 : decide ((k : Int) < ((stA L).Apps.length : Int)) = false := by rw [decide_eq_false_iff_not]; show ¬ (k : Int) < (L.length : Int); omega
      rw [d1, cond_false]
  simp only [Option.bind_some, s1, a1, a2, hq, cond_false, s2, a3]
  simp [stA]

theorem leafR : dispatchref6_Leaf confR rootT = some true := (le_dispatchref6_Leaf _ _).ok _ (by kernel_rfl)

theorem submit_all (L : List App) (k p : Int) (hk : 0 ≤ k ∧ k < 20) (hp : 0 ≤ p ∧ p < 4) (hn : L.length ≤ 12) :
    ((∃ x ∈ L, x.Id = k) ∧ dispatchref10_Submit (stA L) (inA k p) = some (stA L, 7)) ∨
    ((¬ ∃ x ∈ L, x.Id = k) ∧ ∃ j, j ≤ L.length ∧ dispatchref10_Submit (stA L) (inA k p) = some (stA (L.take j ++ mkA k p :: L.drop j), 0)) := by
  obtain ⟨f, b, hf, hb⟩ := find_all (stA L) k (by show L.length ≤ 1000; omega)
  have hq : ((bif decide ((inA k p).Id < 0) then some true else bif decide ((inA k p).Id > 9999) then some true else bif decide ((inA k p).User < 0) then some true else bif decide ((inA k p).User > 99) then some true else bif decide ((inA k p).Prio < 0) then some true else bif decide ((inA k p).Prio > 9) then some true else
      (dispatchref10_part (inA k p).Master.Mem).bind fun x => bif ! x then some true else (dispatchref10_part (inA k p).Master.Cores).bind fun x1 => some (! x1)) : Option Bool) = some false := by
    have e1 : decide ((inA k p).Id < 0) = false := by rw [decide_eq_false_iff_not]; show ¬ k < 0; omega
    have e2 : decide ((inA k p).Id > 9999) = false := by rw [decide_eq_false_iff_not]; show ¬ k > 9999; omega
    have e3 : decide ((inA k p).Prio < 0) = false := by rw [decide_eq_false_iff_not]; show ¬ p < 0; omega
    have e4 : decide ((inA k p).Prio > 9) = false := by rw [decide_eq_false_iff_not]; show ¬ p > 9; omega
    rw [e1, e2, e3, e4]
    rfl
  have hfi : dispatchref10_Find (stA L) (inA k p).Id = some (f, b) := hf
  unfold dispatchref10_Submit
  rw [hq]
  simp only [Option.bind_some, cond_false, hfi]
  cases b with
  | true => exact .inl ⟨hb.1 rfl, rfl⟩
  | false =>
    have hno : ¬ ∃ x ∈ L, x.Id = k := fun h => by have := hb.2 h; cases this
    refine .inr ⟨hno, ?_⟩
    obtain ⟨v, hv, hv0, hv1⟩ := live_all (stA L) (by show L.length ≤ 1000; omega)
    have hv1 : v ≤ (L.length : Int) := hv1
    obtain ⟨j, hj, hput⟩ := put_all L (mkA k p) (by omega) hno
    refine ⟨j, hj, ?_⟩
    have c1 : decide (v ≥ 16) = false := by rw [decide_eq_false_iff_not]; omega
    have c2 : decide (((stA L).Apps.length : Int) ≥ 16) = false := by rw [decide_eq_false_iff_not]; show ¬ (L.length : Int) ≥ 16; omega
    have hleaf : dispatchref6_Leaf (stA L).Conf (inA k p).Queue = some true := leafR
    have hfirst : dispatchref10_first (inA k p) = some [⟨0, 0, ⟨1, 1⟩, 1, -1, -1, 0⟩] := rfl
    simp only [cond_false, hv, Option.bind_some, c1, hleaf, Bool.not_true, c2, hfirst]
    have hput' : dispatchref10_Put (stA L) (⟨(inA k p).Id, 1, (inA k p).Queue, (inA k p).User, (inA k p).Prio, ⟨(inA k p).Master.Mem, (inA k p).Master.Cores⟩, [⟨0, 0, ⟨1, 1⟩, 1, -1, -1, 0⟩], (stA L).Now, 0, [], [], [], []⟩ : App) = some (stA (L.take j ++ mkA k p :: L.drop j)) := hput
    rw [hput']
    rfl
end Go.Fx.D
