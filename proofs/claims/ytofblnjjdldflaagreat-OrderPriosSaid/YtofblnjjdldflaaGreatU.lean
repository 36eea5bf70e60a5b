/-
  Laws over plain data: true at all inputs. Conditions: none.
-/
import Derived.Test.YtofblnjjdldflaaGreatT
import Derived.Test.YtofblnjjdldflaaGreatFxB
namespace Go.Fx.D
open Go Go.Fx
set_option linter.unusedVariables false
set_option linter.unusedSimpArgs false
set_option maxRecDepth 100000

/-- what is known behind each round -/
structure Inv (L : List App) (b : List Int) : Prop where
  len : b.length = 20
  of : ∀ x ∈ L, ∃ (k : Nat) (p : Int), k < 20 ∧ 0 ≤ p ∧ p < 4 ∧ x = mkA k p ∧ b.getD k 0 = p + 1
  all : ∀ k : Nat, k < 20 → b.getD k 0 = 0 ∨ ∃ x ∈ L, x.Id = (k : Int)
  dis : L.Pairwise (fun a b => a.Id ≠ b.Id)

theorem getD_set {b : List Int} {i j : Nat} {v : Int} (hi : i < b.length) : (List.set b i v).getD j 0 = if i = j then v else b.getD j 0 := by
  rw [List.getD_eq_getElem?_getD, List.getD_eq_getElem?_getD, List.getElem?_set]
  by_cases h : i = j
  · subst h; simp [hi]
  · simp [h]

theorem inv_step {L : List App} {b : List Int} (h : Inv L b) {k : Nat} {p : Int} (hk : k < 20) (hp : 0 ≤ p ∧ p < 4) (hno : ¬ ∃ x ∈ L, x.Id = (k : Int)) (j : Nat) :
    Inv (L.take j ++ mkA k p :: L.drop j) (List.set b k (p + 1)) := by
  have hpm : (L.take j ++ mkA k p :: L.drop j).Perm (mkA k p :: L) := by
    refine List.perm_middle.trans ?_
    rw [List.take_append_drop]
  have hm : ∀ x, x ∈ L.take j ++ mkA k p :: L.drop j ↔ x = mkA k p ∨ x ∈ L := fun x => by rw [hpm.mem_iff, List.mem_cons]
  have hkb : k < b.length := by rw [h.len]; exact hk
  refine ⟨by rw [List.length_set]; exact h.len, ?_, ?_, ?_⟩
  · intro x hx
    rcases (hm x).1 hx with rfl | hx
    · exact ⟨k, p, hk, hp.1, hp.2, rfl, by rw [getD_set hkb, if_pos rfl]⟩
    · obtain ⟨k', p', h1, h2, h3, h4, h5⟩ := h.of x hx
      refine ⟨k', p', h1, h2, h3, h4, ?_⟩
      rw [getD_set hkb, if_neg]
      · exact h5
      · rintro rfl; exact hno ⟨x, hx, by rw [h4]; rfl⟩
  · intro k' hk'
    by_cases e : k = k'
    · subst e; exact .inr ⟨mkA k p, (hm _).2 (.inl rfl), rfl⟩
    · rcases h.all k' hk' with h0 | ⟨x, hx, hi⟩
      · exact .inl (by rw [getD_set hkb, if_neg e]; exact h0)
      · exact .inr ⟨x, (hm x).2 (.inr hx), hi⟩
  · refine hpm.symm.pairwise ?_ (fun e k => e k.symm)
    refine List.pairwise_cons.2 ⟨?_, h.dis⟩
    intro x hx e
    exact hno ⟨x, hx, e.symm⟩

/-- the order of numbers -/
def RB (b : List Int) (x y : Int) : Prop := b.getD y.toNat 0 < b.getD x.toNat 0 ∨ (b.getD y.toNat 0 = b.getD x.toNat 0 ∧ x < y)

theorem mem_F {b : List Int} {p x : Int} : x ∈ F b p ↔ ∃ k : Nat, k < 20 ∧ b.getD k 0 = p ∧ x = k := by
  unfold F
  simp only [List.mem_map, List.mem_filter, List.mem_range, beq_iff_eq]
  constructor
  · rintro ⟨k, ⟨h1, h2⟩, rfl⟩; exact ⟨k, h1, h2, rfl⟩
  · rintro ⟨k, h1, h2, rfl⟩; exact ⟨k, ⟨h1, h2⟩, rfl⟩
theorem pw_F (b : List Int) (p : Int) : (F b p).Pairwise (RB b) := by
  unfold F
  rw [List.pairwise_map]
  have h0 : ((List.range 20).filter fun k : Nat => b.getD k 0 == p).Pairwise (fun x y => x < y) := List.Pairwise.filter _ List.pairwise_lt_range
  refine List.Pairwise.imp_of_mem ?_ h0
  intro x y hx hy hxy
  have hx := (List.mem_filter.1 hx).2
  have hy := (List.mem_filter.1 hy).2
  simp only [beq_iff_eq] at hx hy
  unfold RB
  rw [Int.toNat_natCast, Int.toNat_natCast, hx, hy]
  exact .inr ⟨rfl, by omega⟩
theorem pw_app {b : List Int} {l m : List Int} (hl : l.Pairwise (RB b)) (hm : m.Pairwise (RB b)) (h : ∀ x ∈ l, ∀ y ∈ m, b.getD y.toNat 0 < b.getD x.toNat 0) : (l ++ m).Pairwise (RB b) :=
  List.pairwise_append.2 ⟨hl, hm, fun x hx y hy => .inl (h x hx y hy)⟩
theorem pw_want (b : List Int) : (F b 4 ++ F b 3 ++ F b 2 ++ F b 1).Pairwise (RB b) := by
  have v : ∀ {p x : Int}, x ∈ F b p → b.getD x.toNat 0 = p := by
    intro p x hx
    obtain ⟨k, h1, h2, rfl⟩ := mem_F.1 hx
    rw [Int.toNat_natCast]; exact h2
  refine pw_app (pw_app (pw_app (pw_F b 4) (pw_F b 3) ?_) (pw_F b 2) ?_) (pw_F b 1) ?_
  · intro x hx y hy; rw [v hx, v hy]; omega
  · intro x hx y hy
    rw [v hy]
    rcases List.mem_append.1 hx with hx | hx <;> rw [v hx] <;> omega
  · intro x hx y hy
    rw [v hy]
    rcases List.mem_append.1 hx with hx | hx
    · rcases List.mem_append.1 hx with hx | hx <;> rw [v hx] <;> omega
    · rw [v hx]; omega

theorem end_eq {L : List App} {b : List Int} (h : Inv L b) {r : List App} (hp : r.Perm L) (hs : r.Pairwise LtA) : r.map (·.Id) = F b 4 ++ F b 3 ++ F b 2 ++ F b 1 := by
  refine eq_of_mem (R := RB b) (fun a k => by unfold RB at k; omega) (fun x y k k' => by unfold RB at k k'; omega) ?_ (pw_want b) ?_
  · rw [List.pairwise_map]
    refine List.Pairwise.imp_of_mem ?_ hs
    intro x y hx hy hxy
    obtain ⟨k, p, h1, h2, h3, rfl, h5⟩ := h.of x (hp.mem_iff.1 hx)
    obtain ⟨k', p', h1', h2', h3', rfl, h5'⟩ := h.of y (hp.mem_iff.1 hy)
    have hxy : p' < p ∨ (p' = p ∧ (k : Int) < (k' : Int)) := hxy
    show b.getD ((k' : Int)).toNat 0 < b.getD ((k : Int)).toNat 0 ∨ (b.getD ((k' : Int)).toNat 0 = b.getD ((k : Int)).toNat 0 ∧ (k : Int) < (k' : Int))
    rw [Int.toNat_natCast, Int.toNat_natCast, h5, h5']
    omega
  · intro x
    simp only [List.mem_map, List.mem_append, mem_F]
    constructor
    · rintro ⟨a, ha, rfl⟩
      obtain ⟨k, p, h1, h2, h3, rfl, h5⟩ := h.of a (hp.mem_iff.1 ha)
      have hc : p = 3 ∨ p = 2 ∨ p = 1 ∨ p = 0 := by omega
      rcases hc with rfl | rfl | rfl | rfl
      · exact .inl (.inl (.inl ⟨k, h1, h5, rfl⟩))
      · exact .inl (.inl (.inr ⟨k, h1, h5, rfl⟩))
      · exact .inl (.inr ⟨k, h1, h5, rfl⟩)
      · exact .inr ⟨k, h1, h5, rfl⟩
    · intro hx
      have hx' : ∃ k : Nat, k < 20 ∧ b.getD k 0 ≠ 0 ∧ x = k := by
        rcases hx with ((⟨k, h1, h2, h3⟩ | ⟨k, h1, h2, h3⟩) | ⟨k, h1, h2, h3⟩) | ⟨k, h1, h2, h3⟩ <;> exact ⟨k, h1, by rw [h2]; decide, h3⟩
      obtain ⟨k, h1, h2, rfl⟩ := hx'
      rcases h.all k h1 with h0 | ⟨a, ha, hi⟩
      · exact absurd h0 h2
      · exact ⟨a, hp.mem_iff.2 ha, hi⟩

theorem step4 (s : State) (k p : Int) : dispatchref19_Step s (⟨4, 0, 0, 0, [], ⟨0, 0, 0, ⟨0, 0⟩, 0, 0, false⟩, ⟨k, 0, ([114, 111, 111, 116] : List UInt8), 0, p, ⟨1, 1⟩, [], 0, 0, [], [], [], []⟩, [], [], ⟨0, 0, 0, 0, ⟨0, 0⟩⟩⟩ : Input) =
    (dispatchref10_Submit s (inA k p)).bind fun x4 => some (x4.1, (⟨x4.2, [], [], [], 0⟩ : Output)) := by
  unfold dispatchref19_Step
  rfl

theorem rounds (ids prios : List Int) (n : Nat) (hn : n = min (min ids.length prios.length) 12) :
    ∃ q : List App × List Int, loop (dispatchlaw12_OrderPrios_l1 ids prios) (stA [], [0, 0, 0, 0, 0, 0, 0, 0, 0, 0, 0, 0, 0, 0, 0, 0, 0, 0, 0, 0], 0) = some (stA q.1, q.2) ∧ Inv q.1 q.2 ∧ q.1.length ≤ n := by
  obtain ⟨q, e1, e2⟩ := loop_inv (fun (q : List App × List Int) k => (stA q.1, q.2, k)) (dispatchlaw12_OrderPrios_l1 ids prios) n (fun k q => Inv q.1 q.2 ∧ q.1.length ≤ k) (fun q => (stA q.1, q.2))
    (by
      intro i hi q hq
      obtain ⟨hI, hl⟩ := hq
      have d1 : decide ((i : Int) < (ids.length : Int)) = true := by rw [decide_eq_true_iff]; omega
      have d2 : decide ((i : Int) < (prios.length : Int)) = true := by rw [decide_eq_true_iff]; omega
      have d3 : decide ((i : Int) < 12) = true := by rw [decide_eq_true_iff]; omega
      have i1 : idx ids (i : Int) = some ids[i] := idx_lt (by omega)
      have i2 : idx prios (i : Int) = some prios[i] := idx_lt (by omega)
      have w1 : dispatchlaw12_within ids[i] 20 = some (ids[i] % 20) := within_eq (by omega) (by omega)
      have w2 : dispatchlaw12_within prios[i] 4 = some (prios[i] % 4) := within_eq (by omega) (by omega)
      have hp : 0 ≤ prios[i] % 4 ∧ prios[i] % 4 < 4 := by omega
      have hk : 0 ≤ ids[i] % 20 ∧ ids[i] % 20 < 20 := by omega
      unfold dispatchlaw12_OrderPrios_l1
      simp only [d1, d2, d3, cond_true, Option.bind_some, i1, i2, w1, w2, step4]
      generalize ids[i] % 20 = K at *
      generalize prios[i] % 4 = p at *
      obtain ⟨k, rfl⟩ : ∃ k : Nat, K = (k : Int) := ⟨K.toNat, by omega⟩
      rcases submit_all q.1 (k : Int) p hk hp (by omega) with ⟨h1, h2⟩ | ⟨h1, j, h2, h3⟩
      · refine ⟨q, ?_, hI, by omega⟩
        rw [h2]
        simp only [Option.bind_some]
        rw [step_succ (by omega)]
        rfl
      · refine ⟨(q.1.take j ++ mkA k p :: q.1.drop j, List.set q.2 k (p + 1)), ?_, inv_step hI (by omega) hp h1 j, ?_⟩
        · rw [h3]
          have hkl : k < q.2.length := by rw [hI.len]; omega
          have g0 : q.2[k]? = some q.2[k] := List.getElem?_eq_getElem hkl
          have wp : w64 (1 + p) = p + 1 := by rw [w64_id (by omega) (by omega)]; omega
          simp only [Option.bind_some, inb_lt (show k < 20 by omega), g0, wp]
          rw [step_succ (by omega)]
          rfl
        · have : (q.1.take j ++ mkA k p :: q.1.drop j).length = q.1.length + 1 := by simp; omega
          show (q.1.take j ++ mkA k p :: q.1.drop j).length ≤ _
          omega)
    (by
      intro q hq
      unfold dispatchlaw12_OrderPrios_l1
      have hc : ((bif decide ((n : Int) < (ids.length : Int)) then bif decide ((n : Int) < (prios.length : Int)) then some (decide ((n : Int) < 12)) else some false else some false) : Option Bool) = some false := by
        by_cases h1 : (n : Int) < (ids.length : Int)
        · by_cases h2 : (n : Int) < (prios.length : Int)
          · have h3 : ¬ (n : Int) < 12 := by omega
            simp [h1, h2, h3]
          · simp [h1, h2]
        · simp [h1]
      simp only [hc, Option.bind_some, cond_false])
    (s := ([], [0, 0, 0, 0, 0, 0, 0, 0, 0, 0, 0, 0, 0, 0, 0, 0, 0, 0, 0, 0]))
    ⟨⟨rfl, by simp, fun k hk => .inl (by
      have : ∀ k : Nat, k < 20 → ([0, 0, 0, 0, 0, 0, 0, 0, 0, 0, 0, 0, 0, 0, 0, 0, 0, 0, 0, 0] : List Int).getD k 0 = 0 := by decide
      exact this k hk), List.Pairwise.nil⟩, by simp⟩
  exact ⟨q, e1, e2.1, e2.2⟩

theorem same_ok (l : List Int) (hl : l.length ≤ 1000) : loop (dispatchlaw12_OrderPrios_l4 l l) 0 = some (.inr ()) := by
  obtain ⟨_, e, _⟩ := loop_inv (fun (_ : Unit) k => k) (dispatchlaw12_OrderPrios_l4 l l) l.length (fun _ _ => True) (fun _ => .inr ())
    (by
      intro k hk _ _
      refine ⟨(), ?_, trivial⟩
      have d1 : decide ((k : Int) < (l.length : Int)) = true := by rw [decide_eq_true_iff]; omega
      have g0 : l[k]? = some l[k] := List.getElem?_eq_getElem hk
      unfold dispatchlaw12_OrderPrios_l4
      simp only [d1, cond_true, inb_lt hk, Option.bind_some, g0, bne_self_eq_false, cond_false]
      rw [step_succ (by omega)])
    (by
      intro _ _
      unfold dispatchlaw12_OrderPrios_l4
      have : decide ((l.length : Int) < (l.length : Int)) = false := by rw [decide_eq_false_iff_not]; omega
      simp only [this, cond_false]) (s := ()) trivial
  exact e

theorem knownT : dispatchlaw12_known = some true := (le_dispatchlaw12_known).ok _ (by kernel_rfl)

theorem plainOrderPrios (ids : List Int) (prios : List Int) (w0 : WfT fam (.slice (.int .i64)) ids) (w1 : WfT fam (.slice (.int .i64)) prios) : dispatchlaw12_OrderPrios ids prios = some true := by
  obtain ⟨q, h1, h2, h3⟩ := rounds ids prios _ rfl
  unfold dispatchlaw12_OrderPrios
  rw [knownT]
  have hN : dispatchref19_New = some (stA []) := rfl
  simp only [Option.bind_some, Bool.not_true, cond_false, hN]
  rw [h1]
  simp only [Option.bind_some]
  rw [want_all (stA q.1, q.2) h2.len]
  obtain ⟨r, r1, r2, r3⟩ := apps_ok q.1 (by omega) (fun x hx => by obtain ⟨k, p, _, _, _, e, _⟩ := h2.of x hx; exact ⟨_, _, e⟩) h2.dis
  simp only [Option.bind_some]
  have r1' : order_Apps (stA q.1) [114, 111, 111, 116] = some (r.map (·.Id)) := r1
  rw [r1', end_eq h2 r2 r3]
  have f4 := F_len q.2 4
  have f3 := F_len q.2 3
  have f2 := F_len q.2 2
  have f1 := F_len q.2 1
  simp only [Option.bind_some, bne_self_eq_false, cond_false]
  rw [same_ok _ (by simp only [List.length_append]; omega)]
  rfl
end Go.Fx.D
