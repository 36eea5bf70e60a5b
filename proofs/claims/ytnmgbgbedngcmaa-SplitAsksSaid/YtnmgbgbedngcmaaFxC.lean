/-
  The framework: slices.SortFunc. Conditions: none.
-/
import Derived.Test.YtnmgbgbedngcmaaFxB
import Derived.Shelf.SlSortCmp.NoneTotal
/-
  The typed framework, part 30: slices.SortFunc.
-/
namespace Go.Fx
open Go Go.Shelf
set_option linter.unusedVariables false
set_option linter.unusedSimpArgs false

section
variable {F : Fam} {P : Program}

/-- the value of a cell without memory -/
def encV : ND F → Value
  | .i k n => .int k n
  | .b x => .bool x
  | .s l => .string ⟨⟨l⟩⟩
  | _ => .nilFunc

def NID.smp : ND F → Bool
  | .i _ _ | .b _ | .s _ => true
  | _ => false

theorem smp_rep {t : Ty} (hf : tyFlat F t = true) (x : ET F t) : ∀ d ∈ encT F t x, d.smp = true := by
  cases t with
  | int k => simp [encT, NID.smp]
  | bool => simp [encT, NID.smp]
  | str => simp [encT, NID.smp]
  | slice t => simp [tyFlat] at hf
  | st n =>
    simp only [encT]
    simp only [tyFlat] at hf
    have gen : ∀ (ts : List Ty) (a : TupT F ts), (ts.all fun t => match t with | .slice _ => false | .st _ => false | _ => true) = true → ∀ d ∈ encF F ts a, d.smp = true := by
      intro ts
      induction ts with
      | nil => intro a _ d hd; simp [encF] at hd
      | cons t ts ih =>
        intro a h d hd
        simp only [List.all_cons, Bool.and_eq_true] at h
        rcases List.mem_cons.1 hd with rfl | hd
        · cases t <;> first | rfl | simp at h
        · exact ih a.2 h.2 d hd
    exact gen _ _ hf

theorem encV_of {w : World} {imm : Nat → Prop} {d : ND F} {v : Value} (hs : d.smp = true) (h : RepI w imm d v) : v = encV d := by
  cases h <;> first | rfl | simp [NID.smp] at hs
theorem encV_rep {w : World} {imm : Nat → Prop} {d : ND F} (hs : d.smp = true) : RepI w imm d (encV d) := by
  cases d with
  | i k n => exact .i _ _
  | b x => exact .b _
  | s l => exact .s _
  | nl => simp [NID.smp] at hs
  | sl t l => simp [NID.smp] at hs
  | v x => simp [NID.smp] at hs
theorem encV_one {d : ND F} : (encV d).oneCell' = true := by cases d <;> rfl

def encL (t : Ty) (x : ET F t) : List Value := (encT F t x).map encV

/-! worlds of the sort -/
section
variable {α : Type} [Inhabited α] {enc : α → List Value} {k : Nat} {w : World} {b off m : Nat} {dk : Array α} {os : Array Obj}

theorem sw_size : w.heap.size ≤ (Proofs.sortWorldK enc k w b off m dk os).heap.size := by
  simp [Proofs.sortWorldK, Sort.grow, Sort.putRowK, Sort.putRow, Sort.mapBlock, Sort.ahead]
theorem sw_other {b' : Nat} (hne : b' ≠ b) (hlt : b' < w.heap.size) : (Proofs.sortWorldK enc k w b off m dk os).heap[b']? = w.heap[b']? := by
  simp only [Proofs.sortWorldK, Sort.grow, Sort.putRowK, Sort.putRow, Sort.mapBlock, Sort.ahead]
  rw [Array.getElem?_append_left (by simpa using hlt), Array.getElem?_modify, if_neg (fun e => hne e.symm)]
theorem sw_self {c : Array Value} {e : TypeId} {fr : Nat × Nat} (h : w.heap[b]? = some (.cells c e fr)) : (Proofs.sortWorldK enc k w b off m dk os).heap[b]? = some (.cells (Sort.putCells id off (Sort.flatK enc k dk) c) e fr) := by
  have hlt : b < w.heap.size := (Array.getElem?_eq_some_iff.1 h).1
  simp only [Proofs.sortWorldK, Sort.grow, Sort.putRowK, Sort.putRow, Sort.mapBlock, Sort.ahead]
  rw [Array.getElem?_append_left (by simpa using hlt), Array.getElem?_modify, if_pos rfl, h]
  rfl
end

theorem below_grow {w w' : World} (h : RowKit.Below w.heap.size w w') (hd : w.drawn ≤ w'.drawn) : ∃ q os', w' = Sort.grow (w.drewN q) os' := by
  obtain ⟨h1, h2, h3, h4, h5⟩ := h
  refine ⟨w'.drawn - w.drawn, w'.heap.extract w.heap.size w'.heap.size, ?_⟩
  obtain ⟨heap, tape, drawn, os, output⟩ := w
  obtain ⟨heap', tape', drawn', os', output'⟩ := w'
  simp only at h1 h2 h3 h4 h5 hd
  subst h1 h2 h3
  simp only [Sort.grow, World.drewN]
  congr 1
  · apply Array.ext_getElem?
    intro j
    by_cases hj : j < heap.size
    · rw [Array.getElem?_append_left hj]
      exact h5 j hj
    · rw [Array.getElem?_append_right (by omega), Array.getElem?_extract]
      split
      · congr 1
        omega
      · rw [Array.getElem?_eq_none (by omega)]
  · omega

/-- what a comparison gives -/
noncomputable def cfOf {t : Ty} (φ : TupT F [t, t] → Option (ET F (.int .i64))) (x y : ET F t) : Int := (φ (x, y, ())).getD (0 : Int)

/-- slices.SortFunc, by a comparison that parts what is not the same -/
noncomputable def sortF (t : Ty) (φ : TupT F [t, t] → Option (ET F (.int .i64))) (l : List (ET F t)) : Option (List (ET F t)) :=
  @ite _ ((∀ x y, ∃ c : Int, φ (x, y, ()) = some c) ∧ Sort.SWO (Proofs.ltOf (cfOf φ)) ∧ (∀ x y, Proofs.ltOf (cfOf φ) x y = false → Proofs.ltOf (cfOf φ) y x = false → x = y) ∧ l.length < 4611686018427387904)
    (Classical.propDecidable _) (some (l.mergeSort fun x y => !(Proofs.ltOf (cfOf φ) y x))) none

theorem sortF_ok {ρ : Ren} (L : Proofs.SlLaysF0.n6 P ρ) {n : Nat} (aE : ∀ w, (isAgg (ρ.t 24)).run P w = .ok true w) (zE : ∀ w, (Go.sizeOf (ρ.t 24)).run P w = .ok (szT F (.st n)) w)
    (hf : tyFlat F (.st n) = true) (h0 : 0 < szT F (.st n)) (hent : CanEnter P (ρ.f 6)) :
    FnOk (F := F) P (ρ.f 6) ⟨[.row (.st n) false, .fn [.st n, .st n] (.int .i64)], [], fun a => sortF (.st n) a.2.1 a.1⟩ := by
  refine ⟨hent, ?_⟩
  intro a r hr imm w vs pls bxs hheld hpl himm
  obtain ⟨l, φ, u⟩ := a
  obtain ⟨v, vs', p1, p2, b1, b2, rfl, rfl, rfl, ⟨pl, rfl, rfl, hrow, hv⟩, v2, vs2, p3, p4, b3, b4, rfl, rfl, rfl, ⟨rfl, rfl, hfn⟩, rfl, rfl, rfl⟩ := hheld
  obtain ⟨fid, captured, rfl, hcan, hcall⟩ := hfn
  dsimp only at hr
  unfold sortF at hr
  split at hr
  rotate_left
  · cases hr
  rename_i hc
  obtain ⟨hφ, hO, hT, hlen⟩ := hc
  have hr' : r = (l.mergeSort fun x y => !(Proofs.ltOf (cfOf φ) y x)) := (Option.some.inj hr).symm
  clear hr
  subst hr'
  have hv : OwnV pl v := hv
  cases l with
  | nil =>
    have hp : ∃ p cap, v = .slice p 0 cap := by
      cases pl with
      | none => obtain ⟨p, rfl⟩ := hv; exact ⟨_, _, rfl⟩
      | some q =>
        obtain ⟨b, cap, n⟩ := q
        obtain ⟨rfl, _⟩ := hrow
        cases hv
        exact ⟨_, _, rfl⟩
    obtain ⟨p, cap, rfl⟩ := hp
    refine (Proofs.AnyF.slices_SortFunc_none L p cap (.func (.func fid) ⟨[]⟩ ⟨captured⟩) w).mono ?_
    rintro e w' ⟨rfl, rfl⟩
    exact ⟨[], imm, [], rfl, rfl, rfl, rfl, Nat.le_refl _, Nat.le_refl _, fun _ _ _ => rfl, fun _ h => h, fun _ h => .inl h, himm, ⟨pl, rfl, rfl, by simp only [List.mergeSort_nil]; exact hrow, rfl⟩, by simpa [plBlks_append, plBlks] using hpl, by intro b hb; exact .inl (by simpa [plBlks_append, plBlks] using hb)⟩
  | cons x0 l0 =>
    cases pl with
    | none => cases hrow
    | some q =>
    obtain ⟨b, cap, n'⟩ := q
    obtain ⟨rfl, hle, hmx, cur, e, hb, hcl, hcr⟩ := hrow
    cases hv
    generalize hl : (x0 :: l0 : List (ET F (.st n))) = l at *
    haveI : Inhabited (ET F (.st n)) := ⟨x0⟩
    have hblk : b < w.heap.size := (Array.getElem?_eq_some_iff.1 hb).1
    have hnimm : ¬ imm b := hpl.imm b (by simp [plBlks_append, plBlks])
    have hk : ∀ x : ET F (.st n), (encL (.st n) x).length = szT F (.st n) := fun x => by rw [encL, List.length_map, encT_len]
    have h1 : ∀ x : ET F (.st n), ∀ v ∈ encL (.st n) x, v.oneCell' = true := fun x v hv => by
      obtain ⟨d, _, rfl⟩ := List.mem_map.1 hv; exact encV_one
    -- where a cell of the row lies
    have flatAt : ∀ (s : List (ET F (.st n))) (j : Nat) (d : ND F), (cells F (.st n) s)[j]? = some d → j < s.length * szT F (.st n) ∧ (Sort.flatK (encL (F := F) (.st n)) (szT F (.st n)) s.toArray)[j]! = encV d ∧ d.smp = true := by
      intro s j d hd
      have hj : j < s.length * szT F (.st n) := by rw [← cells_len]; exact (List.getElem?_eq_some_iff.1 hd).1
      obtain ⟨e', he1, he2⟩ := flat_at h0 (es := s.map (encT F (.st n))) (by intro e he; obtain ⟨y, _, rfl⟩ := List.mem_map.1 he; exact encT_len F _ y) hd
      rw [List.getElem?_map] at he1
      obtain ⟨y, hy1, hy2⟩ := Option.map_eq_some_iff.1 he1
      subst hy2
      refine ⟨hj, ?_, smp_rep hf y d (List.mem_of_getElem? he2)⟩
      rw [Sort.get_flatK _ _ _ _ (by simpa using hj)]
      have e1 : (s.toArray)[j / szT F (.st n)]! = y := by
        rw [getElem!_def]
        simp [hy1]
      rw [e1]
      rw [getElem!_def]
      simp [encL, he2]
    have hH : Sort.HoldsK (encL (F := F) (.st n)) (szT F (.st n)) w b 0 l.toArray := by
      intro j hj
      rw [Sort.size_flatK] at hj
      have hj' : j < (cells F (.st n) l).length := by rw [cells_len]; simpa using hj
      have hjc : j < cur.length := by
        rw [hcl]
        have : l.length * szT F (.st n) ≤ cap * szT F (.st n) := Nat.mul_le_mul_right _ hle
        rw [cells_len] at hj'
        omega
      obtain ⟨_, q1, q2⟩ := flatAt l j _ (List.getElem?_eq_getElem hj')
      have q3 := encV_of q2 (hcr j _ _ (List.getElem?_eq_getElem hj') (List.getElem?_eq_getElem hjc))
      refine ⟨?_, ?_⟩
      · simp only [World.cell?, hb, Nat.zero_add]
        rw [q1, ← q3]
        simp [hjc]
      · simp [World.frozen?, hb]
    have hcmp : Proofs.CmpLays P fid ⟨captured⟩ (encL (F := F) (.st n)) (szT F (.st n)) (cfOf φ) b 0 l.toArray.size w := by
      intro m os dk hdk x y
      obtain ⟨c, hc⟩ := hφ x y
      have ec : cfOf φ x y = c := by simp [cfOf, hc]
      rw [ec]
      have rp : ∀ (z : ET F (.st n)) (W : World), RepT W imm (encT F (.st n) z, true) (.agg ⟨encL (.st n) z⟩) := by
        intro z W
        refine .agg (by simp [encL]) ?_
        intro j d v h h'
        simp only [encL, List.getElem?_map, h, Option.map_some, Option.some.injEq] at h'
        subst h'
        exact encV_rep (smp_rep hf z d (List.mem_of_getElem? h))
      have hw := hcall (Proofs.sortWorldK (encL (F := F) (.st n)) (szT F (.st n)) w b 0 m dk os) imm (fun b' hb' => ⟨hb', sw_other (fun e => hnimm (e ▸ hb')) (himm b' hb')⟩) (fun b' hb' => Nat.lt_of_lt_of_le (himm b' hb') sw_size) (x, y, ()) c
        [.agg ⟨encL (.st n) x⟩, .agg ⟨encL (.st n) y⟩] hc (by
          refine ⟨rfl, ?_⟩
          intro j d v h h'
          match j with
          | 0 => simp only [encTs, List.getElem?_cons_zero, Option.some.injEq] at h h'; subst h h'; exact rp x _
          | 1 => simp only [encTs, List.getElem?_cons_succ, List.getElem?_cons_zero, Option.some.injEq] at h h'; subst h h'; exact rp y _
          | j + 2 => simp [encTs] at h)
      have ea : (#[.agg (encL (.st n) x).toArray, .agg (encL (.st n) y).toArray] ++ ⟨captured⟩ : Array Value) = ⟨[.agg ⟨encL (.st n) x⟩, .agg ⟨encL (.st n) y⟩] ++ captured⟩ := by
        apply Array.ext'
        simp
      rw [ea]
      refine hw.mono ?_
      rintro e' w'' ⟨v', rfl, hbl, hrt, hdr⟩
      refine ⟨?_, below_grow hbl hdr⟩
      cases hrt with
      | one h => rw [encV_of rfl h]; rfl
    have main := Proofs.AnyQ.slices_SortFunc_total L (szT F (.st n)) aE zE (encL (F := F) (.st n)) hk h1 (cfOf φ) hO fid ⟨captured⟩ b 0 cap l.toArray w (fun args w => enter_run hcan args w) hcmp hH hblk (by simpa using hlen) hT
    rw [show l.toArray.size = l.length by simp] at main
    refine main.mono ?_
    rintro e' w' ⟨rfl, m, os, rfl⟩
    have hs : ((l.toArray.toList.mergeSort fun x y => !(Proofs.ltOf (cfOf φ)) y x)) = l.mergeSort fun x y => !(Proofs.ltOf (cfOf φ) y x) := by simp
    rw [hs]
    have hsl : (l.mergeSort fun x y => !(Proofs.ltOf (cfOf φ) y x)).length = l.length := List.length_mergeSort _
    generalize (l.mergeSort fun x y => !(Proofs.ltOf (cfOf φ) y x)) = s at *
    refine ⟨[], imm, [], rfl, rfl, rfl, rfl, ?_, sw_size, ?_, fun _ h => h, fun _ h => .inl h, fun b' hb' => Nat.lt_of_lt_of_le (himm b' hb') sw_size, ⟨some (b, cap, l.length), rfl, rfl, ?_, rfl⟩, ⟨?_, ?_, ?_⟩, ?_⟩
    · simp [Proofs.sortWorldK, Sort.grow, Sort.putRowK, Sort.putRow, Sort.mapBlock, Sort.ahead]
    · intro b' hlt hno
      exact sw_other (fun e => hno (by simp [plBlks_append, plBlks, e])) hlt
    · refine ⟨hsl.symm, by rw [hsl]; exact hle, hmx, (Sort.putCells id 0 (Sort.flatK (encL (F := F) (.st n)) (szT F (.st n)) s.toArray) ⟨cur⟩).toList, e, sw_self hb, ?_, ?_⟩
      · simp [Sort.putCells, hcl]
      · intro j d x hd hx
        obtain ⟨q0, q1, q2⟩ := flatAt s j d hd
        simp only [Sort.putCells, Array.toList_mapIdx, List.getElem?_mapIdx] at hx
        cases hcj : cur[j]? with
        | none => simp [hcj] at hx
        | some y =>
          simp only [hcj, Option.map_some, Option.some.injEq, Nat.zero_le, true_and, Nat.zero_add, Nat.sub_zero, Sort.size_flatK, id] at hx
          rw [if_pos (by simpa using q0), q1] at hx
          subst hx
          exact encV_rep q2
    · simp [plBlks_append, plBlks]
    · intro b' hb'
      exact hpl.imm b' (by simpa [plBlks_append, plBlks] using hb')
    · intro b' hb'
      exact Nat.lt_of_lt_of_le (hpl.lt b' (by simpa [plBlks_append, plBlks] using hb')) sw_size
    · intro b' hb'
      exact .inl (by simpa [plBlks_append, plBlks] using hb')
end
end Go.Fx

