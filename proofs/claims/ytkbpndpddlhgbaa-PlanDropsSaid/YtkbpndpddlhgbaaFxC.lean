/-
  The framework: slices.SortFunc, slices.Sort. Conditions: none.
-/
import Derived.Test.YtkbpndpddlhgbaaFxB
import Derived.Shelf.Sort.Plain
import Derived.Shelf.SlicesE.Kit
import Derived.Shelf.RegionOpenPlain
import Derived.Deep.LoopGhost
import Derived.Deep.RegionLaw
import Derived.Lib.Walk
import Derived.Sort.WalkB12
import Derived.Lib.SlicesDelete
/-
  The typed framework, part 31: slices.Sort of numbers.
-/
namespace Go.Fx
open Go Go.Shelf
set_option linter.unusedVariables false
set_option linter.unusedSimpArgs false

section
variable {F : Fam} {P : Program}

section
variable {α : Type} [Inhabited α] {enc : α → Value} {w : World} {b off m : Nat} {dk : Array α} {os : Array Obj}

theorem sr_size : w.heap.size ≤ (Sort.grow (Sort.putRow enc (Sort.ahead w m) b off dk) os).heap.size := by
  simp [Sort.grow, Sort.putRow, Sort.mapBlock, Sort.ahead]
theorem sr_other {b' : Nat} (hne : b' ≠ b) (hlt : b' < w.heap.size) : (Sort.grow (Sort.putRow enc (Sort.ahead w m) b off dk) os).heap[b']? = w.heap[b']? := by
  simp only [Sort.grow, Sort.putRow, Sort.mapBlock, Sort.ahead]
  rw [Array.getElem?_append_left (by simpa using hlt), Array.getElem?_modify, if_neg (fun e => hne e.symm)]
theorem sr_self {c : Array Value} {e : TypeId} {fr : Nat × Nat} (h : w.heap[b]? = some (.cells c e fr)) : (Sort.grow (Sort.putRow enc (Sort.ahead w m) b off dk) os).heap[b]? = some (.cells (Sort.putCells enc off dk c) e fr) := by
  have hlt : b < w.heap.size := (Array.getElem?_eq_some_iff.1 h).1
  simp only [Sort.grow, Sort.putRow, Sort.mapBlock, Sort.ahead]
  rw [Array.getElem?_append_left (by simpa using hlt), Array.getElem?_modify, if_pos rfl, h]
  rfl
end

/-- slices.Sort of numbers, some of them -/
def sortI (l : List Int) : Option (List Int) := if l ≠ [] ∧ l.length < 4611686018427387904 then some (l.mergeSort fun x y => decide (x ≤ y)) else none

theorem sortI_ok {ρ : Ren} (L : Proofs.Lays.n189 P ρ) (hent : CanEnter P (ρ.f 189)) :
    FnOk (F := F) P (ρ.f 189) ⟨[.row (.int .i64) false], [], fun a => sortI a.1⟩ := by
  refine ⟨hent, ?_⟩
  intro a r hr imm w vs pls bxs hheld hpl himm
  obtain ⟨l, u⟩ := a
  obtain ⟨v, vs', p1, p2, b1, b2, rfl, rfl, rfl, ⟨pl, rfl, rfl, hrow, hv⟩, rfl, rfl, rfl⟩ := hheld
  dsimp only at hr
  unfold sortI at hr
  split at hr
  rotate_left
  · cases hr
  rename_i hc
  obtain ⟨hne, hlen⟩ := hc
  have hr' : r = (l.mergeSort fun x y => decide (x ≤ y) : List Int) := (Option.some.inj hr).symm
  clear hr
  subst hr'
  have hv : OwnV pl v := hv
  cases pl with
  | none => exact absurd hrow hne
  | some q =>
  obtain ⟨b, cap, n'⟩ := q
  obtain ⟨rfl, hle, hmx, cur, e, hb, hcl, hcr⟩ := hrow
  cases hv
  have hblk : b < w.heap.size := (Array.getElem?_eq_some_iff.1 hb).1
  have hcl' : cur.length = cap := by rw [hcl]; simp [szT]
  have flatAt : ∀ (s : List Int) (j : Nat) (d : ND F), (cells F (.int .i64) s)[j]? = some d → ∃ x, s[j]? = some x ∧ d = .i .i64 x := by
    intro s j d hd
    have : cells F (.int .i64) s = s.map fun x => (.i .i64 x : ND F) := by
      clear hd
      unfold cells
      induction s with
      | nil => rfl
      | cons x s ih => simp [encT] at *; exact ih
    rw [this, List.getElem?_map] at hd
    obtain ⟨x, h1, h2⟩ := Option.map_eq_some_iff.1 hd
    exact ⟨x, h1, h2.symm⟩
  have hH : Sort.Holds (Value.int .i64) w b 0 (List.toArray l : Array Int) := by
    intro j hj
    have hj' : j < List.length l := by simpa using hj
    have hle' : List.length l ≤ cap := hle
    have hjc : j < cur.length := by rw [hcl']; omega
    have hjl : j < (cells F (.int .i64) l).length := by rw [cells_len]; simpa [szT] using hj'
    have q3 := hcr j _ _ (List.getElem?_eq_getElem hjl) (List.getElem?_eq_getElem hjc)
    obtain ⟨x, h1, h2⟩ := flatAt l j _ (List.getElem?_eq_getElem hjl)
    rw [h2] at q3
    have q4 : cur[j] = .int .i64 x := by
      generalize cur[j] = z at q3
      cases q3
      rfl
    refine ⟨?_, ?_⟩
    · simp only [World.cell?, hb, Nat.zero_add]
      have : (List.toArray l : Array Int)[j]! = x := by
        rw [getElem!_def]
        simp [h1]
      rw [this, ← q4]
      simp [hjc]
    · simp [World.frozen?, hb]
  refine (Proofs.Any.slices_Sort_int L b 0 cap l w hH hblk hlen).mono ?_
  rintro e' w' ⟨rfl, m, os, rfl⟩
  have hsl : (l.mergeSort fun x y => decide (x ≤ y) : List Int).length = List.length l := List.length_mergeSort _
  generalize (l.mergeSort fun x y => decide (x ≤ y) : List Int) = s at *
  refine ⟨[], imm, [], rfl, rfl, rfl, rfl, ?_, sr_size, ?_, fun _ h => h, fun _ h => .inl h, fun b' hb' => Nat.lt_of_lt_of_le (himm b' hb') sr_size, ⟨some (b, cap, List.length l), rfl, rfl, ?_, rfl⟩, ⟨?_, ?_, ?_⟩, ?_⟩
  · simp [Sort.grow, Sort.putRow, Sort.mapBlock, Sort.ahead]
  · intro b' hlt hno
    exact sr_other (fun e => hno (by simp [plBlks_append, plBlks, e])) hlt
  · refine ⟨hsl.symm, by rw [hsl]; exact hle, hmx, (Sort.putCells (Value.int .i64) 0 (List.toArray s : Array Int) ⟨cur⟩).toList, e, sr_self hb, ?_, ?_⟩
    · simp [Sort.putCells, hcl]
    · intro j d x hd hx
      obtain ⟨y, h1, rfl⟩ := flatAt s j d hd
      have hjs : j < s.length := (List.getElem?_eq_some_iff.1 h1).1
      simp only [Sort.putCells, Array.toList_mapIdx, List.getElem?_mapIdx] at hx
      cases hcj : cur[j]? with
      | none => simp [hcj] at hx
      | some z =>
        simp only [hcj, Option.map_some, Option.some.injEq, Nat.zero_le, true_and, Nat.zero_add, Nat.sub_zero] at hx
        rw [if_pos (by simpa using hjs)] at hx
        have : (List.toArray s : Array Int)[j]! = y := by
          rw [getElem!_def]
          simp [h1]
        rw [this] at hx
        subst hx
        exact .i _ _
  · simp [plBlks_append, plBlks]
  · intro b' hb'
    exact hpl.imm b' (by simpa [plBlks_append, plBlks] using hb')
  · intro b' hb'
    exact Nat.lt_of_lt_of_le (hpl.lt b' (by simpa [plBlks_append, plBlks] using hb')) sr_size
  · intro b' hb'
    exact .inl (by simpa [plBlks_append, plBlks] using hb')
end
end Go.Fx

/-
  The typed framework, part 34: slices.Delete.
-/
namespace Go.Fx
open Go Go.Proofs Go.RowKit
set_option linter.unusedVariables false
set_option linter.unusedSimpArgs false

/-- what slices.Delete leaves -/
def del {α : Type} (l : List α) (i j : Int) : Option (List α) := if 0 ≤ i ∧ i ≤ j ∧ j ≤ l.length then some (l.take i.toNat ++ l.drop j.toNat) else none

/-- what a walk of slices.Delete shows: where something goes -/
def DelWalk (P : Program) (f : FuncId) (ts e sz : Nat) : Prop :=
  ∀ (b n cap i j : Nat) (w : World), n ≤ cap → cap ≤ 9223372036854775807 → i < j → j ≤ n → ∀ (i0 : TypeInfo), P.info? e = some i0 → i0.size = sz → ∀ (A : Addr), (if cap = j then some (⟨b, 0, none⟩ : Addr) else some ⟨b, j * sz, none⟩) = some A → ∀ (news : List Value),
    Hid (news.length = (n - j) * sz) → Hid (∀ t u, news[t]? = some u → w.drew.cell? (A.add t) = some u) → Hid (∀ u ∈ news, u.oneCell' = true) →
    Hid (∀ t, t < news.length → (w.drew.cell? ⟨b, 0 + i * sz + t, none⟩).isSome = true ∧ w.drew.frozen? ⟨b, 0 + i * sz + t, none⟩ = false) →
    ∀ (W1 W2 : World), Hid (W1 = w.drew.setCells b (0 + i * sz) news) →
    (∀ ty, (Builtin.clear_ #[ts] ty #[.slice (some ⟨b, (i + (n - j)) * sz, none⟩) (n - (i + (n - j))) (cap - (i + (n - j)))]).run P W1 = .ok (.tuple #[]) W2) →
    Calls P f #[.slice (some ⟨b, 0, none⟩) n cap, .int .i64 i, .int .i64 j] w fun e w' => e = .returned (.slice (some ⟨b, 0, none⟩) (i + (n - j)) cap) ∧ w' = W2
/-- where nothing goes -/
def DelNone (P : Program) (f : FuncId) : Prop :=
  (∀ (b n cap i : Nat) (w : World), n ≤ cap → i ≤ n → Calls P f #[.slice (some ⟨b, 0, none⟩) n cap, .int .i64 i, .int .i64 i] w fun e w' => e = .returned (.slice (some ⟨b, 0, none⟩) n cap) ∧ w' = w) ∧
  ∀ (p : Option Addr) (w : World), Calls P f #[.slice p 0 0, .int .i64 0, .int .i64 0] w fun e w' => e = .returned (.slice p 0 0) ∧ w' = w

section
variable {F : Fam} {P : Program} {T : TypeId → Option (TI F)}

theorem setCells_row {w : World} {b o : Nat} {cur vs : List Value} {t : TypeId} (hb : w.heap[b]? = some (.cells ⟨cur⟩ t (0, 0))) (hl : o + vs.length ≤ cur.length) (h1 : ∀ v ∈ vs, v.oneCell' = true) :
    w.setCells b o vs = w.setRow b (cur.take o ++ vs ++ cur.drop (o + vs.length)).toArray := by
  have r1 := run_storeCells_at (default : Program) b o t vs 0 ⟨cur⟩ w hb (by simpa using hl) h1
  have r2 := run_storeCells_cells (P := (default : Program)) b o vs 0 w (by
    intro j hj
    simp only [World.cell?, hb, Nat.add_zero]
    simp
    omega) (by
    intro j hj
    simp [World.frozen?, hb]) h1
  rw [r1] at r2
  simp only [Nat.add_zero] at r2
  injection r2 with _ h
  exact h.symm

theorem del_ok (hT : TblOk P T) {f ts e sz : Nat} {t : Ty} {te : TI F} (hte : T e = some te) (htt : te.ty = some t) (hsz : te.size = sz) (h0 : 0 < sz) (hts : P.underlying ts = some (.slice e)) (hent : CanEnter P f) (wn : DelNone P f) (wb : DelWalk P f ts e sz) :
    FnOk (F := F) P f ⟨[.v (.slice t) [0], .v (.int .i64) [], .v (.int .i64) []], [.v (.slice t) [0]], fun a => del a.1 a.2.1 a.2.2.1⟩ := by
  refine ⟨hent, ?_⟩
  intro a r hr imm w vs pls bxs hheld hpl himm
  obtain ⟨l, i, j, u⟩ := a
  have hr : del l i j = some r := hr
  unfold del at hr
  split at hr
  rotate_left
  · cases hr
  rename_i hc
  have c1 : (0 : Int) ≤ i := hc.1
  have c2 : (i : Int) ≤ j := hc.2.1
  have c3 : (j : Int) ≤ ((List.length l : Nat) : Int) := hc.2.2
  have c4 : (0 : Int) ≤ j := Int.le_trans c1 c2
  have hr' : r = l.take i.toNat ++ l.drop j.toNat := (Option.some.inj hr).symm
  clear hr
  obtain ⟨i', rfl⟩ : ∃ i' : Nat, i = i' := ⟨Int.toNat i, (Int.toNat_of_nonneg c1).symm⟩
  obtain ⟨j', rfl⟩ : ∃ j' : Nat, j = j' := ⟨Int.toNat j, (Int.toNat_of_nonneg c4).symm⟩
  simp only [Int.toNat_natCast] at hr'
  obtain ⟨v, vs', p1, p2, b1, b2, rfl, rfl, rfl, ⟨h1, rfl⟩, v2, vs2, p3, p4, b3, b4, rfl, rfl, rfl, ⟨h2, rfl⟩, v3, vs3, p5, p6, b5, b6, rfl, rfl, rfl, ⟨h3, rfl⟩, rfl, rfl, rfl⟩ := hheld
  unfold HeldV at h1 h2 h3
  simp only [Ty.isSt, Bool.false_eq_true, if_false, encT, HeldC, memN, Nat.beq, if_true] at h1 h2 h3
  obtain ⟨pl, rest, rfl, hrow, hv, rfl⟩ := h1
  obtain ⟨h2, rfl⟩ := h2
  obtain ⟨h3, rfl⟩ := h3
  cases h2
  cases h3
  have ei : (⟨[v, .int .i64 (i' : Int), .int .i64 (j' : Int)]⟩ : Array Value) = #[v, .int .i64 (i' : Int), .int .i64 (j' : Int)] := rfl
  have held : ∀ (w' : World) (pl' : Pl) (v' : Value), OwnRow w' imm t r pl' → OwnV pl' v' → HeldOut P w' imm (outs ⟨[.v (.slice t) [0], .v (.int .i64) [], .v (.int .i64) []], [.v (.slice t) [0]], fun a => del a.1 a.2.1 a.2.2.1⟩) r [v'] [] [pl'] := by
    intro w' pl' v' k1 k2
    refine ⟨v', rfl, rfl, ?_, rfl⟩
    unfold HeldV
    simp only [Ty.isSt, Bool.false_eq_true, if_false, encT, HeldC, memN, Nat.beq, if_true]
    exact ⟨pl', [], rfl, k1, k2, rfl⟩
  by_cases hij : i' = j'
  · subst hij
    have hrl : r = l := by rw [hr', List.take_append_drop]
    have hcall : ∃ p n cap, v = .slice p n cap ∧ Calls P f #[.slice p n cap, .int .i64 i', .int .i64 i'] w fun e w' => e = .returned (.slice p n cap) ∧ w' = w := by
      cases pl with
      | none =>
        obtain ⟨p, rfl⟩ := hv
        have hl0 : l.length = 0 := by rw [hrow]; rfl
        have hi0 : i' = 0 := by omega
        subst hi0
        exact ⟨p, 0, 0, rfl, wn.2 p w⟩
      | some q =>
        obtain ⟨b, cap, n⟩ := q
        obtain ⟨rfl, hle, _⟩ := hrow
        cases hv
        exact ⟨_, _, _, rfl, wn.1 b _ cap i' w hle (by omega)⟩
    obtain ⟨p, n, cap, rfl, hc⟩ := hcall
    refine hc.mono ?_
    rintro e' w' ⟨rfl, rfl⟩
    refine ⟨[.slice p n cap], imm, [pl], rfl, rfl, rfl, rfl, Nat.le_refl _, Nat.le_refl _, fun _ _ _ => rfl, fun _ h => h, fun _ h => .inl h, himm, held _ _ _ (by rw [hrl]; exact hrow) hv, by simpa [plBlks_append, plBlks] using hpl, by intro b hb; exact .inl (by simpa [plBlks_append, plBlks] using hb)⟩
  · have hlt : i' < j' := by omega
    cases pl with
    | none =>
      have : l.length = 0 := by rw [hrow]; rfl
      omega
    | some q =>
    obtain ⟨b, cap, n⟩ := q
    obtain ⟨rfl, hle, hmx, cur, e0, hb, hcl, hcr⟩ := hrow
    cases hv
    have hszt : szT F t = sz := by rw [← hsz]; exact hT.ty e te t hte htt
    rw [hszt] at hcl
    have hblk : b < w.heap.size := (Array.getElem?_eq_some_iff.1 hb).1
    obtain ⟨i0, hi0, hs, _, z, hz, hzs, hzl, hzr⟩ := hT.info e te hte
    have hs' : i0.size = sz := by rw [hs, hsz]
    have hdb : w.drew.heap[b]? = some (.cells ⟨cur⟩ e0 (0, 0)) := hb
    have hjl : j' ≤ l.length := by omega
    have hcells : (cells F t l).length = l.length * sz := by rw [cells_len, hszt]
    have one : ∀ k x, k < l.length * sz → cur[k]? = some x → x.oneCell' = true := by
      intro k x hk hx
      exact (hcr k _ x (List.getElem?_eq_getElem (by rw [hcells]; exact hk)) hx).oneCell
    have hcapsz : l.length * sz ≤ cap * sz := Nat.mul_le_mul_right _ hle
    have hjsz : j' * sz ≤ l.length * sz := Nat.mul_le_mul_right _ hjl
    have hisz : i' * sz ≤ j' * sz := Nat.mul_le_mul_right _ (by omega)
    have hsub : (l.length - j') * sz = l.length * sz - j' * sz := Nat.sub_mul _ _ _
    have hsum : (i' + (l.length - j')) * sz = i' * sz + (l.length - j') * sz := Nat.add_mul _ _ _
    have htl : (l.length - (i' + (l.length - j'))) * sz = j' * sz - i' * sz := by rw [show l.length - (i' + (l.length - j')) = j' - i' by omega, Nat.sub_mul]
    -- what is moved to the left
    obtain ⟨news, hnews⟩ : ∃ news, news = (cur.drop (j' * sz)).take ((l.length - j') * sz) := ⟨_, rfl⟩
    have nl : news.length = (l.length - j') * sz := by rw [hnews, List.length_take, List.length_drop, hcl]; omega
    have nget : ∀ k x, news[k]? = some x → cur[j' * sz + k]? = some x ∧ k < (l.length - j') * sz := by
      intro k x hk
      have hlt' := (List.getElem?_eq_some_iff.1 hk).1
      rw [nl] at hlt'
      rw [hnews, List.getElem?_take, if_pos hlt', List.getElem?_drop] at hk
      exact ⟨hk, hlt'⟩
    have n1 : ∀ x ∈ news, x.oneCell' = true := by
      intro x hx
      obtain ⟨k, hk⟩ := List.getElem?_of_mem hx
      obtain ⟨q1, q2⟩ := nget k x hk
      exact one _ x (by omega) q1
    obtain ⟨A, hA, hsrc⟩ : ∃ A : Addr, (if cap = j' then some (⟨b, 0, none⟩ : Addr) else some ⟨b, j' * sz, none⟩) = some A ∧ (∀ k x, news[k]? = some x → w.drew.cell? (A.add k) = some x) := by
      by_cases h : cap = j'
      · refine ⟨⟨b, 0, none⟩, by simp [h], fun k x hk => ?_⟩
        have := (nget k x hk).2
        rw [show l.length - j' = 0 by omega] at this
        omega
      · refine ⟨⟨b, j' * sz, none⟩, by simp [h], fun k x hk => ?_⟩
        rw [Addr.add_lit]
        simp only [World.cell?, hdb]
        simpa using (nget k x hk).1
    -- the worlds
    have w1e : w.drew.setCells b (0 + i' * sz) news = w.drew.setRow b (cur.take (0 + i' * sz) ++ news ++ cur.drop (0 + i' * sz + news.length)).toArray := setCells_row hdb (by rw [nl, hcl]; omega) n1
    have hb1 : (w.drew.setRow b (cur.take (0 + i' * sz) ++ news ++ cur.drop (0 + i' * sz + news.length)).toArray).heap[b]? = some (.cells ⟨cur.take (0 + i' * sz) ++ news ++ cur.drop (0 + i' * sz + news.length)⟩ e0 (0, 0)) := setRow_heap w.drew b _ _ e0 _ hdb
    obtain ⟨c1l, hc1⟩ : ∃ c1l, c1l = cur.take (0 + i' * sz) ++ news ++ cur.drop (0 + i' * sz + news.length) := ⟨_, rfl⟩
    rw [← hc1] at w1e hb1
    have c1len : c1l.length = cap * sz := by
      rw [hc1]
      simp only [List.length_append, List.length_take, List.length_drop, nl, hcl]
      omega
    obtain ⟨zs, hzsd⟩ : ∃ zs, zs = (Builtin.zeroCells z.cells (l.length - (i' + (l.length - j')))).toList := ⟨_, rfl⟩
    have zl : zs.length = j' * sz - i' * sz := by rw [hzsd, Array.length_toList, size_zeroCells, hzs, hsz, htl]
    have z1 : ∀ x ∈ zs, x.oneCell' = true := by
      intro x hx
      have hzc : ∀ y ∈ z.cells.toList, y.oneCell' = true := by
        intro y hy
        obtain ⟨k, hk⟩ := List.getElem?_of_mem hy
        have hkl : k < te.zero.length := by have := (List.getElem?_eq_some_iff.1 hk).1; rw [hzl, ← hzs]; simpa using this
        exact (hzr w imm k _ y (List.getElem?_eq_getElem hkl) (by simpa using hk)).oneCell
      rw [hzsd] at hx
      obtain ⟨k, hk⟩ := List.getElem?_of_mem hx
      have hk2 := (List.getElem?_eq_some_iff.1 hk)
      obtain ⟨hk3, hk4⟩ := hk2
      simp only [Builtin.zeroCells] at hk4
      simp at hk4
      rw [← hk4]
      have hpos : 0 < z.cells.size := by rw [hzs, hsz]; exact h0
      have hlt3 : k % z.cells.size < z.cells.size := Nat.mod_lt _ hpos
      rw [getElem!_pos z.cells _ hlt3]
      exact hzc _ (by simp)
    obtain ⟨R, hR⟩ : ∃ R, R = c1l.take ((i' + (l.length - j')) * sz) ++ zs ++ c1l.drop ((i' + (l.length - j')) * sz + zs.length) := ⟨_, rfl⟩
    have hW2 : ∀ (W1 : World), W1.heap[b]? = some (.cells ⟨c1l⟩ e0 (0, 0)) → ∀ ty, (Builtin.clear_ #[ts] ty #[.slice (some ⟨b, (i' + (l.length - j')) * sz, none⟩) (l.length - (i' + (l.length - j'))) (cap - (i' + (l.length - j')))]).run P W1 =
        .ok (.tuple #[]) (W1.setRow b R.toArray) := by
      intro W1 hb1' ty
      have hst := run_storeCells_at P b ((i' + (l.length - j')) * sz) e0 zs 0 ⟨c1l⟩ W1 hb1' (by
        rw [zl, hsum]
        show _ ≤ c1l.length
        rw [c1len]
        omega) z1
      simp only [Nat.add_zero] at hst
      rw [← hR] at hst
      clear hR
      obtain ⟨m, hm⟩ : ∃ m, l.length - (i' + (l.length - j')) = m + 1 := ⟨l.length - (i' + (l.length - j')) - 1, by omega⟩
      rw [hzsd, hm] at hst
      rw [hm]
      simp [Builtin.clear_, run_underlying hts, zeroValue, typeInfo, hi0, hz, hst]
    have key := wb b l.length cap i' j' w hle (by simp only [maxLen] at hmx; omega) hlt hjl i0 hi0 hs' A hA news nl hsrc n1 (fun k hk => by
      rw [nl] at hk
      refine ⟨?_, ?_⟩
      · simp only [World.cell?, hdb]
        simp
        rw [hcl]
        omega
      · simp [World.frozen?, hdb]) _ _ rfl (hW2 _ (by rw [w1e]; exact hb1))
    refine key.mono ?_
    rintro e' w' ⟨rfl, rfl⟩
    rw [w1e]
    have rlen : r.length = i' + (l.length - j') := by
      rw [hr', List.length_append, List.length_take, List.length_drop]
      omega
    have fin2 : ((w.drew.setRow b c1l.toArray).setRow b R.toArray).heap[b]? = some (.cells ⟨R⟩ e0 (0, 0)) := setRow_heap _ b _ _ e0 _ hb1
    refine ⟨[.slice (some ⟨b, 0, none⟩) (i' + (l.length - j')) cap], imm, [some (b, cap, r.length)], rfl, rfl, rfl, rfl, Nat.le_succ _, ?_, ?_, fun _ h => h, fun _ h => .inl h, ?_, held _ _ _ ⟨rfl, by rw [rlen]; omega, hmx, _, e0, fin2, ?_, ?_⟩ ?_, ⟨?_, ?_, ?_⟩, ?_⟩
    · have z1 : (w.drew.setRow b c1l.toArray).heap.size = w.heap.size := by simp [World.setRow]
      have z2 : ((w.drew.setRow b c1l.toArray).setRow b R.toArray).heap.size = (w.drew.setRow b c1l.toArray).heap.size := by simp [World.setRow]
      rw [z2, z1]
      exact Nat.le_refl _
    · intro b' hlt' hno
      have hne : b' ≠ b := fun h => hno (by simp [plBlks_append, plBlks, h])
      rw [setRow_other _ b b' _ hne, setRow_other _ b b' _ hne]
      rfl
    · intro b' hb'
      have z1 : (w.drew.setRow b c1l.toArray).heap.size = w.heap.size := by simp [World.setRow]
      have z2 : ((w.drew.setRow b c1l.toArray).setRow b R.toArray).heap.size = (w.drew.setRow b c1l.toArray).heap.size := by simp [World.setRow]
      rw [z2, z1]
      exact himm b' hb'
    · rw [hR, hszt]
      simp only [List.length_append, List.length_take, List.length_drop, zl, c1len]
      rw [hsum, hsub]
      omega
    · intro k d x hd hx
      have hd : (cells F t (l.take i' ++ l.drop j'))[k]? = some d := by rw [← hr']; exact hd
      rw [hR] at hx
      have rlen' : (List.take i' l ++ List.drop j' l).length = i' + (l.length - j') := by rw [← hr']; exact rlen
      have hkr : k < (i' + (l.length - j')) * sz := by
        have := (List.getElem?_eq_some_iff.1 hd).1
        rwa [cells_len, hszt, rlen'] at this
      rw [hsum, hsub] at hkr
      rw [List.append_assoc, List.getElem?_append_left (by rw [List.length_take, c1len, hsum, hsub]; omega), List.getElem?_take, if_pos (by rw [hsum, hsub]; omega), hc1] at hx
      have mono : RepI w imm d x → RepI ((w.drew.setRow b c1l.toArray).setRow b R.toArray) imm d x := fun h => h.mono (fun _ h => h) (fun b' hb' => by
        have hne : b' ≠ b := fun e => hpl.imm b (by simp [plBlks_append, plBlks]) (e ▸ hb')
        rw [setRow_other _ b b' _ hne, setRow_other _ b b' _ hne]
        rfl)
      apply mono
      have ct : cells F t (l.take i') = (cells F t l).take (i' * sz) := by
        have := cells_sub (F := F) (l := l) (a := 0) (n := i')
        rw [hszt] at this
        simpa [Fx.sub] using this
      have cd : cells F t (l.drop j') = (cells F t l).drop (j' * sz) := by
        have := cells_sub (F := F) (l := l) (a := j') (n := l.length)
        unfold Fx.sub at this
        rw [List.take_of_length_le (by simp), hszt] at this
        rw [this, List.take_of_length_le]
        rw [List.length_drop, hcells]
        omega
      rw [cells_append, ct, cd] at hd
      by_cases hki : k < i' * sz
      · rw [List.getElem?_append_left (by rw [List.length_take, hcells]; omega), List.getElem?_take, if_pos hki] at hd
        rw [List.append_assoc, List.getElem?_append_left (by rw [List.length_take, hcl]; omega), List.getElem?_take, if_pos (by omega)] at hx
        exact hcr k d x hd hx
      · rw [List.getElem?_append_right (by rw [List.length_take, hcells]; omega), List.length_take, hcells, Nat.min_eq_left (by omega), List.getElem?_drop] at hd
        rw [List.append_assoc, List.getElem?_append_right (by rw [List.length_take, hcl]; omega), List.length_take, hcl, Nat.min_eq_left (by omega), List.getElem?_append_left (by rw [nl, hsub]; omega)] at hx
        have q := (nget _ x hx).1
        rw [Nat.zero_add] at q
        exact hcr _ d x hd q
    · rw [rlen]; rfl
    · simp [plBlks]
    · intro b' hb'
      exact hpl.imm b' (by simpa [plBlks_append, plBlks] using hb')
    · intro b' hb'
      have : b' = b := by simpa [plBlks_append, plBlks] using hb'
      subst this
      have z1 : (w.drew.setRow b' c1l.toArray).heap.size = w.heap.size := by simp [World.setRow]
      have z2 : ((w.drew.setRow b' c1l.toArray).setRow b' R.toArray).heap.size = (w.drew.setRow b' c1l.toArray).heap.size := by simp [World.setRow]
      rw [z2, z1]
      exact hblk
    · intro b' hb'
      exact .inl (by simpa [plBlks_append, plBlks] using hb')
end
end Go.Fx

