/-
  The framework, fourth part: sorting, bounded rounds, deletion from slices. Conditions: none.
-/
import Derived.Test.YteodpoelbdakgaaGreatFxC
import Derived.Shelf.SlSortCmp.NoneTotal
/-
  The typed framework, part 30: slices.SortFunc.
-/
namespace Go.Fx
open Go Go.Shelf
set_option linter.unusedVariables false
set_option linter.unusedSimpArgs false

section
variable {F : Fam} {P : Program}

/-- the value of a cell without memory -/
def encV : ND F → Value
  | .i k n => .int k n
  | .b x => .bool x
  | .s l => .string ⟨⟨l⟩⟩
  | _ => .nilFunc

def NID.smp : ND F → Bool
  | .i _ _ | .b _ | .s _ => true
  | _ => false

theorem smp_rep {t : Ty} (hf : tyFlat F t = true) (x : ET F t) : ∀ d ∈ encT F t x, d.smp = true := by
  cases t with
  | int k => simp [encT, NID.smp]
  | bool => simp [encT, NID.smp]
  | str => simp [encT, NID.smp]
  | slice t => simp [tyFlat] at hf
  | st n =>
    simp only [encT]
    simp only [tyFlat] at hf
    have gen : ∀ (ts : List Ty) (a : TupT F ts), (ts.all fun t => match t with | .slice _ => false | .st _ => false | _ => true) = true → ∀ d ∈ encF F ts a, d.smp = true := by
      intro ts
      induction ts with
      | nil => intro a _ d hd; simp [encF] at hd
      | cons t ts ih =>
        intro a h d hd
        simp only [List.all_cons, Bool.and_eq_true] at h
        rcases List.mem_cons.1 hd with rfl | hd
        · cases t <;> first | rfl | simp at h
        · exact ih a.2 h.2 d hd
    exact gen _ _ hf

theorem encV_of {w : World} {imm : Nat → Prop} {d : ND F} {v : Value} (hs : d.smp = true) (h : RepI w imm d v) : v = encV d := by
  cases h <;> first | rfl | simp [NID.smp] at hs
theorem encV_rep {w : World} {imm : Nat → Prop} {d : ND F} (hs : d.smp = true) : RepI w imm d (encV d) := by
  cases d with
  | i k n => exact .i _ _
  | b x => exact .b _
  | s l => exact .s _
  | nl => simp [NID.smp] at hs
  | sl t l => simp [NID.smp] at hs
  | v x => simp [NID.smp] at hs
theorem encV_one {d : ND F} : (encV d).oneCell' = true := by cases d <;> rfl

def encL (t : Ty) (x : ET F t) : List Value := (encT F t x).map encV

/-! worlds of the sort -/
section
variable {α : Type} [Inhabited α] {enc : α → List Value} {k : Nat} {w : World} {b off m : Nat} {dk : Array α} {os : Array Obj}

theorem sw_size : w.heap.size ≤ (Proofs.sortWorldK enc k w b off m dk os).heap.size := by
  simp [Proofs.sortWorldK, Sort.grow, Sort.putRowK, Sort.putRow, Sort.mapBlock, Sort.ahead]
theorem sw_other {b' : Nat} (hne : b' ≠ b) (hlt : b' < w.heap.size) : (Proofs.sortWorldK enc k w b off m dk os).heap[b']? = w.heap[b']? := by
  simp only [Proofs.sortWorldK, Sort.grow, Sort.putRowK, Sort.putRow, Sort.mapBlock, Sort.ahead]
  rw [Array.getElem?_append_left (by simpa using hlt), Array.getElem?_modify, if_neg (fun e => hne e.symm)]
theorem sw_self {c : Array Value} {e : TypeId} {fr : Nat × Nat} (h : w.heap[b]? = some (.cells c e fr)) : (Proofs.sortWorldK enc k w b off m dk os).heap[b]? = some (.cells (Sort.putCells id off (Sort.flatK enc k dk) c) e fr) := by
  have hlt : b < w.heap.size := (Array.getElem?_eq_some_iff.1 h).1
  simp only [Proofs.sortWorldK, Sort.grow, Sort.putRowK, Sort.putRow, Sort.mapBlock, Sort.ahead]
  rw [Array.getElem?_append_left (by simpa using hlt), Array.getElem?_modify, if_pos rfl, h]
  rfl
end

theorem below_grow {w w' : World} (h : RowKit.Below w.heap.size w w') (hd : w.drawn ≤ w'.drawn) : ∃ q os', w' = Sort.grow (w.drewN q) os' := by
  obtain ⟨h1, h2, h3, h4, h5⟩ := h
  refine ⟨w'.drawn - w.drawn, w'.heap.extract w.heap.size w'.heap.size, ?_⟩
  obtain ⟨heap, tape, drawn, os, output⟩ := w
  obtain ⟨heap', tape', drawn', os', output'⟩ := w'
  simp only at h1 h2 h3 h4 h5 hd
  subst h1 h2 h3
  simp only [Sort.grow, World.drewN]
  congr 1
  · apply Array.ext_getElem?
    intro j
    by_cases hj : j < heap.size
    · rw [Array.getElem?_append_left hj]
      exact h5 j hj
    · rw [Array.getElem?_append_right (by omega), Array.getElem?_extract]
      split
      · congr 1
        omega
      · rw [Array.getElem?_eq_none (by omega)]
  · omega

/-- what a comparison gives -/
noncomputable def cfOf {t : Ty} (φ : TupT F [t, t] → Option (ET F (.int .i64))) (x y : ET F t) : Int := (φ (x, y, ())).getD (0 : Int)

/-- slices.SortFunc, by a comparison that parts what is not the same -/
noncomputable def sortF (t : Ty) (φ : TupT F [t, t] → Option (ET F (.int .i64))) (l : List (ET F t)) : Option (List (ET F t)) :=
  @ite _ ((∀ x y, ∃ c : Int, φ (x, y, ()) = some c) ∧ Sort.SWO (Proofs.ltOf (cfOf φ)) ∧ (∀ x y, Proofs.ltOf (cfOf φ) x y = false → Proofs.ltOf (cfOf φ) y x = false → x = y) ∧ l.length < 4611686018427387904)
    (Classical.propDecidable _) (some (l.mergeSort fun x y => !(Proofs.ltOf (cfOf φ) y x))) none

theorem sortF_ok {ρ : Ren} (L : Proofs.SlLaysF0.n6 P ρ) {n : Nat} (aE : ∀ w, (isAgg (ρ.t 24)).run P w = .ok true w) (zE : ∀ w, (Go.sizeOf (ρ.t 24)).run P w = .ok (szT F (.st n)) w)
    (hf : tyFlat F (.st n) = true) (h0 : 0 < szT F (.st n)) (hent : CanEnter P (ρ.f 6)) :
    FnOk (F := F) P (ρ.f 6) ⟨[.row (.st n) false, .fn [.st n, .st n] (.int .i64)], [], fun a => sortF (.st n) a.2.1 a.1⟩ := by
  refine ⟨hent, ?_⟩
  intro a r hr imm w vs pls bxs hheld hpl himm
  obtain ⟨l, φ, u⟩ := a
  obtain ⟨v, vs', p1, p2, b1, b2, rfl, rfl, rfl, ⟨pl, rfl, rfl, hrow, hv⟩, v2, vs2, p3, p4, b3, b4, rfl, rfl, rfl, ⟨rfl, rfl, hfn⟩, rfl, rfl, rfl⟩ := hheld
  obtain ⟨fid, bound, captured, rfl, hbd, hcan, hcall⟩ := hfn
  have hb0 : bound = [] := hbd.resolve_right (by simp)
  subst hb0
  dsimp only at hr
  unfold sortF at hr
  split at hr
  rotate_left
  · cases hr
  rename_i hc
  obtain ⟨hφ, hO, hT, hlen⟩ := hc
  have hr' : r = (l.mergeSort fun x y => !(Proofs.ltOf (cfOf φ) y x)) := (Option.some.inj hr).symm
  clear hr
  subst hr'
  have hv : OwnV pl v := hv
  cases l with
  | nil =>
    have hp : ∃ p cap, v = .slice p 0 cap := by
      cases pl with
      | none => obtain ⟨p, rfl⟩ := hv; exact ⟨_, _, rfl⟩
      | some q =>
        obtain ⟨b, cap, n⟩ := q
        obtain ⟨rfl, _⟩ := hrow
        cases hv
        exact ⟨_, _, rfl⟩
    obtain ⟨p, cap, rfl⟩ := hp
    refine (Proofs.AnyF.slices_SortFunc_none L p cap (.func (.func fid) ⟨[]⟩ ⟨captured⟩) w).mono ?_
    rintro e w' ⟨rfl, rfl⟩
    exact ⟨[], imm, [], rfl, rfl, rfl, rfl, Nat.le_refl _, Nat.le_refl _, fun _ _ _ => rfl, fun _ h => h, fun _ h => .inl h, himm, ⟨pl, rfl, rfl, by simp only [List.mergeSort_nil]; exact hrow, rfl⟩, by simpa [plBlks_append, plBlks, nbl] using hpl, by intro b hb; exact .inl (by simpa [plBlks_append, plBlks, nbl] using hb)⟩
  | cons x0 l0 =>
    cases pl with
    | none => cases hrow
    | some q =>
    obtain ⟨b, cap, n'⟩ := q
    obtain ⟨rfl, hle, hmx, cur, e, hb, hcl, hcr⟩ := hrow
    cases hv
    generalize hl : (x0 :: l0 : List (ET F (.st n))) = l at *
    haveI : Inhabited (ET F (.st n)) := ⟨x0⟩
    have hblk : b < w.heap.size := (Array.getElem?_eq_some_iff.1 hb).1
    have hnimm : ¬ imm b := hpl.imm b (by simp [plBlks_append, plBlks, nbl])
    have hk : ∀ x : ET F (.st n), (encL (.st n) x).length = szT F (.st n) := fun x => by rw [encL, List.length_map, encT_len]
    have h1 : ∀ x : ET F (.st n), ∀ v ∈ encL (.st n) x, v.oneCell' = true := fun x v hv => by
      obtain ⟨d, _, rfl⟩ := List.mem_map.1 hv; exact encV_one
    -- where a cell of the row lies
    have flatAt : ∀ (s : List (ET F (.st n))) (j : Nat) (d : ND F), (cells F (.st n) s)[j]? = some d → j < s.length * szT F (.st n) ∧ (Sort.flatK (encL (F := F) (.st n)) (szT F (.st n)) s.toArray)[j]! = encV d ∧ d.smp = true := by
      intro s j d hd
      have hj : j < s.length * szT F (.st n) := by rw [← cells_len]; exact (List.getElem?_eq_some_iff.1 hd).1
      obtain ⟨e', he1, he2⟩ := flat_at h0 (es := s.map (encT F (.st n))) (by intro e he; obtain ⟨y, _, rfl⟩ := List.mem_map.1 he; exact encT_len F _ y) hd
      rw [List.getElem?_map] at he1
      obtain ⟨y, hy1, hy2⟩ := Option.map_eq_some_iff.1 he1
      subst hy2
      refine ⟨hj, ?_, smp_rep hf y d (List.mem_of_getElem? he2)⟩
      rw [Sort.get_flatK _ _ _ _ (by simpa using hj)]
      have e1 : (s.toArray)[j / szT F (.st n)]! = y := by
        rw [getElem!_def]
        simp [hy1]
      rw [e1]
      rw [getElem!_def]
      simp [encL, he2]
    have hH : Sort.HoldsK (encL (F := F) (.st n)) (szT F (.st n)) w b 0 l.toArray := by
      intro j hj
      rw [Sort.size_flatK] at hj
      have hj' : j < (cells F (.st n) l).length := by rw [cells_len]; simpa using hj
      have hjc : j < cur.length := by
        rw [hcl]
        have : l.length * szT F (.st n) ≤ cap * szT F (.st n) := Nat.mul_le_mul_right _ hle
        rw [cells_len] at hj'
        omega
      obtain ⟨_, q1, q2⟩ := flatAt l j _ (List.getElem?_eq_getElem hj')
      have q3 := encV_of q2 (hcr j _ _ (List.getElem?_eq_getElem hj') (List.getElem?_eq_getElem hjc))
      refine ⟨?_, ?_⟩
      · simp only [World.cell?, hb, Nat.zero_add]
        rw [q1, ← q3]
        simp [hjc]
      · simp [World.frozen?, hb]
    have hcmp : Proofs.CmpLays P fid ⟨captured⟩ (encL (F := F) (.st n)) (szT F (.st n)) (cfOf φ) b 0 l.toArray.size w := by
      intro m os dk hdk x y
      obtain ⟨c, hc⟩ := hφ x y
      have ec : cfOf φ x y = c := by simp [cfOf, hc]
      rw [ec]
      have rp : ∀ (z : ET F (.st n)) (W : World), RepT W imm (encT F (.st n) z, true) (.agg ⟨encL (.st n) z⟩) := by
        intro z W
        refine .agg (by simp [encL]) ?_
        intro j d v h h'
        simp only [encL, List.getElem?_map, h, Option.map_some, Option.some.injEq] at h'
        subst h'
        exact encV_rep (smp_rep hf z d (List.mem_of_getElem? h))
      have hw := hcall (Proofs.sortWorldK (encL (F := F) (.st n)) (szT F (.st n)) w b 0 m dk os) imm (fun b' hb' => ⟨hb', sw_other (fun e => hnimm (e ▸ hb')) (himm b' hb')⟩) (fun b' hb' => Nat.lt_of_lt_of_le (himm b' hb') sw_size) (x, y, ()) c
        [.agg ⟨encL (.st n) x⟩, .agg ⟨encL (.st n) y⟩] hc (by
          refine ⟨rfl, ?_⟩
          intro j d v h h'
          match j with
          | 0 => simp only [encTs, List.getElem?_cons_zero, Option.some.injEq] at h h'; subst h h'; exact rp x _
          | 1 => simp only [encTs, List.getElem?_cons_succ, List.getElem?_cons_zero, Option.some.injEq] at h h'; subst h h'; exact rp y _
          | j + 2 => simp [encTs] at h)
      have ea : (#[.agg (encL (.st n) x).toArray, .agg (encL (.st n) y).toArray] ++ ⟨captured⟩ : Array Value) = ⟨[.agg ⟨encL (.st n) x⟩, .agg ⟨encL (.st n) y⟩] ++ captured⟩ := by
        apply Array.ext'
        simp
      rw [ea]
      refine hw.mono ?_
      rintro e' w'' ⟨v', rfl, hbl, hrt, hdr⟩
      refine ⟨?_, below_grow hbl hdr⟩
      cases hrt with
      | one h => rw [encV_of rfl h]; rfl
    have main := Proofs.AnyQ.slices_SortFunc_total L (szT F (.st n)) aE zE (encL (F := F) (.st n)) hk h1 (cfOf φ) hO fid ⟨captured⟩ b 0 cap l.toArray w (fun args w => enter_run hcan args w) hcmp hH hblk (by simpa using hlen) hT
    rw [show l.toArray.size = l.length by simp] at main
    refine main.mono ?_
    rintro e' w' ⟨rfl, m, os, rfl⟩
    have hs : ((l.toArray.toList.mergeSort fun x y => !(Proofs.ltOf (cfOf φ)) y x)) = l.mergeSort fun x y => !(Proofs.ltOf (cfOf φ) y x) := by simp
    rw [hs]
    have hsl : (l.mergeSort fun x y => !(Proofs.ltOf (cfOf φ) y x)).length = l.length := List.length_mergeSort _
    generalize (l.mergeSort fun x y => !(Proofs.ltOf (cfOf φ) y x)) = s at *
    refine ⟨[], imm, [], rfl, rfl, rfl, rfl, ?_, sw_size, ?_, fun _ h => h, fun _ h => .inl h, fun b' hb' => Nat.lt_of_lt_of_le (himm b' hb') sw_size, ⟨some (b, cap, l.length, []), rfl, rfl, ?_, rfl⟩, ⟨?_, ?_, ?_⟩, ?_⟩
    · simp [Proofs.sortWorldK, Sort.grow, Sort.putRowK, Sort.putRow, Sort.mapBlock, Sort.ahead]
    · intro b' hlt hno
      exact sw_other (fun e => hno (by simp [plBlks_append, plBlks, nbl, e])) hlt
    · refine ⟨by rw [hsl], by rw [hsl]; exact hle, hmx, (Sort.putCells id 0 (Sort.flatK (encL (F := F) (.st n)) (szT F (.st n)) s.toArray) ⟨cur⟩).toList, e, sw_self hb, ?_, ?_⟩
      · simp [Sort.putCells, hcl]
      · intro j d x hd hx
        obtain ⟨q0, q1, q2⟩ := flatAt s j d hd
        simp only [Sort.putCells, Array.toList_mapIdx, List.getElem?_mapIdx] at hx
        cases hcj : cur[j]? with
        | none => simp [hcj] at hx
        | some y =>
          simp only [hcj, Option.map_some, Option.some.injEq, Nat.zero_le, true_and, Nat.zero_add, Nat.sub_zero, Sort.size_flatK, id] at hx
          rw [if_pos (by simpa using q0), q1] at hx
          subst hx
          exact encV_rep q2
    · simp [plBlks_append, plBlks, nbl]
    · intro b' hb'
      exact hpl.imm b' (by simpa [plBlks_append, plBlks, nbl] using hb')
    · intro b' hb'
      exact Nat.lt_of_lt_of_le (hpl.lt b' (by simpa [plBlks_append, plBlks, nbl] using hb')) sw_size
    · intro b' hb'
      exact .inl (by simpa [plBlks_append, plBlks, nbl] using hb')
end
end Go.Fx

/-
  The typed framework, part 32: what a function with bounded rounds gives the function itself gives.
-/
namespace Go.Fx
open Go
set_option linter.unusedVariables false

/-- the one gives what the other gives, where it gives something -/
structure Lo {α : Type} (a b : Option α) : Prop where
  ok : ∀ r, a = some r → b = some r
theorem lo_refl {α : Type} (a : Option α) : Lo a a := ⟨fun _ h => h⟩
theorem lo_none {α : Type} {b : Option α} : Lo none b := ⟨fun _ h => by cases h⟩
theorem lo_bind {α β : Type} {a a' : Option α} {f f' : α → Option β} (h : Lo a a') (k : ∀ x, Lo (f x) (f' x)) : Lo (a.bind f) (a'.bind f') := by
  constructor
  intro r hr
  cases a with
  | none => cases hr
  | some x => rw [h.ok x rfl]; exact (k x).ok r hr
theorem lo_bind2 {α γ β : Type} {a a' : Option (α ⊕ γ)} {f f' : α ⊕ γ → Option β} (h : Lo a a') (k : ∀ x, Lo (f (.inl x)) (f' (.inl x))) (k' : ∀ x, Lo (f (.inr x)) (f' (.inr x))) : Lo (a.bind f) (a'.bind f') :=
  lo_bind h fun x => match x with
    | .inl x => k x
    | .inr x => k' x
theorem lo_bind3 {α γ δ β : Type} {a a' : Option (α ⊕ (γ ⊕ δ))} {f f' : α ⊕ (γ ⊕ δ) → Option β} (h : Lo a a') (k : ∀ x, Lo (f (.inl x)) (f' (.inl x))) (k1 : ∀ x, Lo (f (.inr (.inl x))) (f' (.inr (.inl x)))) (k2 : ∀ x, Lo (f (.inr (.inr x))) (f' (.inr (.inr x)))) : Lo (a.bind f) (a'.bind f') :=
  lo_bind h fun x => match x with
    | .inl x => k x
    | .inr (.inl x) => k1 x
    | .inr (.inr x) => k2 x
theorem lo_bind4 {α γ δ ε β : Type} {a a' : Option (α ⊕ (γ ⊕ (δ ⊕ ε)))} {f f' : α ⊕ (γ ⊕ (δ ⊕ ε)) → Option β} (h : Lo a a') (k : ∀ x, Lo (f (.inl x)) (f' (.inl x))) (k1 : ∀ x, Lo (f (.inr (.inl x))) (f' (.inr (.inl x)))) (k2 : ∀ x, Lo (f (.inr (.inr (.inl x)))) (f' (.inr (.inr (.inl x))))) (k3 : ∀ x, Lo (f (.inr (.inr (.inr x)))) (f' (.inr (.inr (.inr x))))) : Lo (a.bind f) (a'.bind f') :=
  lo_bind h fun x => match x with
    | .inl x => k x
    | .inr (.inl x) => k1 x
    | .inr (.inr (.inl x)) => k2 x
    | .inr (.inr (.inr x)) => k3 x
theorem lo_cond {α : Type} {c : Bool} {a b a' b' : Option α} (h : Lo a a') (k : Lo b b') : Lo (cond c a b) (cond c a' b') := by
  cases c
  · exact k
  · exact h
/-- so many rounds at most -/
def itr {τ σ : Type} (n : Nat) (s : τ → Option (τ ⊕ σ)) (t : τ) : Option σ := iter s n t
theorem lo_iter {τ σ : Type} {n : Nat} {s s' : τ → Option (τ ⊕ σ)} (h : ∀ t, Lo (s t) (s' t)) (t : τ) : Lo (itr n s t) (loop s' t) := by
  constructor
  intro r hr
  unfold itr at hr
  refine iter_loop (n := n) ?_
  induction n generalizing t with
  | zero => cases hr
  | succ n ih =>
    simp only [iter] at hr ⊢
    split at hr
    · cases hr
    · rename_i t' ht
      rw [(h t).ok _ ht]
      exact ih t' hr
    · rename_i q hq
      rw [(h t).ok _ hq]
      exact hr
end Go.Fx

/-
  The typed framework, part 33: slices.SortFunc where the comparison parts the elements that there are.
-/
namespace Go.Fx
open Go Go.Shelf
set_option linter.unusedVariables false
set_option linter.unusedSimpArgs false

section
variable {α : Type}
/-- sorting by insertion -/
def insG (lt : α → α → Bool) (x : α) : List α → List α
  | [] => [x]
  | y :: l => if lt y x then y :: insG lt x l else x :: y :: l
def isort (lt : α → α → Bool) : List α → List α
  | [] => []
  | x :: l => insG lt x (isort lt l)

/-- what a comparison tells of places: it parts them, and orders them -/
def okG (c : Nat → Nat → Option Int) (n : Nat) : Bool :=
  (List.range n).all fun i => (List.range n).all fun j => match c i j, c j i with
    | some a, some b => (if i = j then !(decide (a < 0)) else (decide (a < 0) != decide (b < 0))) && (List.range n).all fun k => match c j k, c i k with
      | some a', some b' => !(decide (a < 0) && decide (a' < 0)) || decide (b' < 0)
      | _, _ => false
    | _, _ => false
def getG (l : List α) (x0 : α) (i : Nat) : α := l.getD i x0
def cG (φ : α → α → Option Int) (l : List α) (x0 : α) (i j : Nat) : Option Int := φ (getG l x0 i) (getG l x0 j)
def ltG (φ : α → α → Option Int) (x y : α) : Bool := match φ x y with
  | some a => decide (a < 0)
  | none => false
def sortA (φ : α → α → Option Int) : List α → Option (List α)
  | [] => some []
  | x :: l => if okG (cG φ (x :: l) x) (l.length + 1) && decide (l.length < 1000000000) then some (isort (ltG φ) (x :: l)) else none

theorem mem_insG {lt : α → α → Bool} {x y : α} : ∀ {l : List α}, y ∈ insG lt x l ↔ y = x ∨ y ∈ l
  | [] => by simp [insG]
  | z :: l => by
    unfold insG
    split
    · simp only [List.mem_cons, mem_insG (l := l)]
      constructor
      · rintro (h | h | h) <;> simp [h]
      · rintro (h | h | h) <;> simp [h]
    · simp
theorem perm_insG {lt : α → α → Bool} {x : α} : ∀ {l : List α}, (insG lt x l).Perm (x :: l)
  | [] => by simp [insG]
  | z :: l => by
    unfold insG
    split
    · exact ((perm_insG (l := l)).cons z).trans (.swap x z l)
    · exact .refl _
theorem perm_isort {lt : α → α → Bool} : ∀ {l : List α}, (isort lt l).Perm l
  | [] => .refl _
  | x :: l => perm_insG.trans (perm_isort.cons x)
theorem pw_insG {lt : α → α → Bool} (tr : ∀ x y z, lt y x = false → lt z y = false → lt z x = false) (asm : ∀ x y, lt x y = true → lt y x = false) {x : α} : ∀ {l : List α}, l.Pairwise (fun a b => lt b a = false) → (insG lt x l).Pairwise (fun a b => lt b a = false)
  | [], _ => by simp [insG]
  | z :: l, h => by
    unfold insG
    have h' := List.pairwise_cons.1 h
    split
    · rename_i hz
      refine List.pairwise_cons.2 ⟨?_, pw_insG tr asm h'.2⟩
      intro y hy
      rcases mem_insG.1 hy with rfl | hy
      · exact asm _ _ hz
      · exact h'.1 y hy
    · rename_i hz
      refine List.pairwise_cons.2 ⟨?_, h⟩
      intro y hy
      have hz' : lt z x = false := by simpa using hz
      rcases List.mem_cons.1 hy with rfl | hy
      · exact hz'
      · exact tr x z y hz' (h'.1 y hy)
theorem pw_isort {lt : α → α → Bool} (tr : ∀ x y z, lt y x = false → lt z y = false → lt z x = false) (asm : ∀ x y, lt x y = true → lt y x = false) : ∀ {l : List α}, (isort lt l).Pairwise (fun a b => lt b a = false)
  | [] => by simp [isort]
  | x :: l => pw_insG tr asm (pw_isort tr asm)
theorem map_insG {β : Type} {lt : α → α → Bool} {lt' : β → β → Bool} (f : β → α) (h : ∀ a b, lt (f a) (f b) = lt' a b) (x : β) : ∀ l : List β, (insG lt' x l).map f = insG lt (f x) (l.map f)
  | [] => by simp [insG]
  | y :: l => by
    simp only [insG, List.map_cons, h]
    split
    · simp [map_insG f h x l]
    · simp
theorem map_isort {β : Type} {lt : α → α → Bool} {lt' : β → β → Bool} (f : β → α) (h : ∀ a b, lt (f a) (f b) = lt' a b) : ∀ l : List β, (isort lt' l).map f = isort lt (l.map f)
  | [] => rfl
  | x :: l => by simp only [isort, List.map_cons, map_insG f h, map_isort f h l]

theorem okG_spec {c : Nat → Nat → Option Int} {n : Nat} (h : okG c n = true) : (∀ i j, i < n → j < n → ∃ a, c i j = some a) ∧ (∀ i a, i < n → c i i = some a → ¬ a < 0) ∧ (∀ i j a b, i < n → j < n → i ≠ j → c i j = some a → c j i = some b → (a < 0 ↔ ¬ b < 0)) ∧ (∀ i j k a b d, i < n → j < n → k < n → c i j = some a → c j k = some b → c i k = some d → a < 0 → b < 0 → d < 0) := by
  unfold okG at h
  simp only [List.all_eq_true, List.mem_range] at h
  refine ⟨?_, ?_, ?_, ?_⟩
  · intro i j hi hj
    have := h i hi j hj
    cases hc : c i j with
    | none => rw [hc] at this; cases this
    | some a => exact ⟨a, rfl⟩
  · intro i a hi hc
    have := h i hi i hi
    rw [hc] at this
    simp only [if_true, Bool.and_eq_true, Bool.not_eq_true', decide_eq_false_iff_not] at this
    exact this.1
  · intro i j a b hi hj hne h1 h2
    have := h i hi j hj
    rw [h1, h2] at this
    simp only [if_neg hne, Bool.and_eq_true, bne_iff_ne, ne_eq] at this
    have h3 := this.1
    by_cases ha : a < 0 <;> by_cases hb : b < 0 <;> simp [ha, hb] at h3 ⊢
  · intro i j k a b d hi hj hk h1 h2 h3 ha hb
    have := h i hi j hj
    rw [h1] at this
    cases hji : c j i with
    | none => rw [hji] at this; cases this
    | some e =>
      rw [hji] at this
      simp only [Bool.and_eq_true, List.all_eq_true, List.mem_range] at this
      have h4 := this.2 k hk
      rw [h2, h3] at h4
      simpa [ha, hb] using h4
end

section
variable {F : Fam} {P : Program}
/-- the comparison, of two -/
def phi2 {t : Ty} (φ : TupT F [t, t] → Option (ET F (.int .i64))) (x y : ET F t) : Option Int := φ (x, y, ())
def sortG (t : Ty) (φ : TupT F [t, t] → Option (ET F (.int .i64))) (l : List (ET F t)) : Option (List (ET F t)) := sortA (phi2 φ) l

set_option maxHeartbeats 1000000 in
theorem sortG_ok {ρ : Ren} (L : Proofs.SlLaysF0.n6 P ρ) {n : Nat} (aE : ∀ w, (isAgg (ρ.t 24)).run P w = .ok true w) (zE : ∀ w, (Go.sizeOf (ρ.t 24)).run P w = .ok (szT F (.st n)) w)
    (hf : tyFlat F (.st n) = true) (h0 : 0 < szT F (.st n)) (hent : CanEnter P (ρ.f 6)) :
    FnOk (F := F) P (ρ.f 6) ⟨[.row (.st n) false, .fn [.st n, .st n] (.int .i64)], [], fun a => sortG (.st n) a.2.1 a.1⟩ := by
  refine ⟨hent, ?_⟩
  intro a r hr imm w vs pls bxs hheld hpl himm
  obtain ⟨l, φ, u⟩ := a
  obtain ⟨v, vs', p1, p2, b1, b2, rfl, rfl, rfl, ⟨pl, rfl, rfl, hrow, hv⟩, v2, vs2, p3, p4, b3, b4, rfl, rfl, rfl, ⟨rfl, rfl, hfn⟩, rfl, rfl, rfl⟩ := hheld
  obtain ⟨fid, bound, captured, rfl, hbd, hcan, hcall⟩ := hfn
  have hb0 : bound = [] := hbd.resolve_right (by simp)
  subst hb0
  dsimp only at hr
  have hv : OwnV pl v := hv
  cases l with
  | nil =>
    have hr' : r = [] := (Option.some.inj hr).symm
    subst hr'
    have hp : ∃ p cap, v = .slice p 0 cap := by
      cases pl with
      | none => obtain ⟨p, rfl⟩ := hv; exact ⟨_, _, rfl⟩
      | some q =>
        obtain ⟨b, cap, n⟩ := q
        obtain ⟨rfl, _⟩ := hrow
        cases hv
        exact ⟨_, _, rfl⟩
    obtain ⟨p, cap, rfl⟩ := hp
    refine (Proofs.AnyF.slices_SortFunc_none L p cap (.func (.func fid) ⟨[]⟩ ⟨captured⟩) w).mono ?_
    rintro e w' ⟨rfl, rfl⟩
    exact ⟨[], imm, [], rfl, rfl, rfl, rfl, Nat.le_refl _, Nat.le_refl _, fun _ _ _ => rfl, fun _ h => h, fun _ h => .inl h, himm, ⟨pl, rfl, rfl, hrow, rfl⟩, by simpa [plBlks_append, plBlks, nbl] using hpl, by intro b hb; exact .inl (by simpa [plBlks_append, plBlks, nbl] using hb)⟩
  | cons x0 l0 =>
    have hr2 : (if okG (cG (phi2 φ) (x0 :: l0) x0) (l0.length + 1) && decide (l0.length < 1000000000) then some (isort (ltG (phi2 φ)) (x0 :: l0)) else none) = some r := hr
    split at hr2
    rotate_left
    · cases hr2
    rename_i hc
    simp only [Bool.and_eq_true, decide_eq_true_eq] at hc
    obtain ⟨hok, hlen⟩ := hc
    have hr' : r = isort (ltG (phi2 φ)) (x0 :: l0) := (Option.some.inj hr2).symm
    clear hr hr2
    subst hr'
    cases pl with
    | none => cases hrow
    | some q =>
    obtain ⟨b, cap, n'⟩ := q
    obtain ⟨rfl, hle, hmx, cur, e, hb, hcl, hcr⟩ := hrow
    cases hv
    obtain ⟨k1, k2, k3, k4⟩ := okG_spec hok
    have hl0 : (x0 :: l0 : List (ET F (.st n))).length = l0.length + 1 := rfl
    rw [← hl0] at k1 k2 k3 k4
    -- places
    have cget : ∀ i j : Fin (x0 :: l0 : List (ET F (.st n))).length, cG (phi2 φ) (x0 :: l0) x0 i.1 j.1 = phi2 φ ((x0 :: l0).get i) ((x0 :: l0).get j) := by
      intro i j
      unfold cG getG
      have gd : ∀ q : Fin (x0 :: l0 : List (ET F (.st n))).length, (x0 :: l0 : List (ET F (.st n))).getD q.1 x0 = (x0 :: l0 : List (ET F (.st n))).get q := by
        intro q
        rw [List.getD_eq_getElem?_getD, List.getElem?_eq_getElem q.2]
        rfl
      rw [gd, gd]
    have hlen' : (x0 :: l0 : List (ET F (.st n))).length < 4611686018427387904 := by rw [hl0]; omega
    generalize hl : (x0 :: l0 : List (ET F (.st n))) = l at *
    have hne : 0 < l.length := by rw [← hl]; simp
    haveI : Inhabited (Fin l.length) := ⟨⟨0, hne⟩⟩
    -- the comparison of places
    have hval : ∀ i j : Fin l.length, ∃ a, phi2 φ (l.get i) (l.get j) = some a := fun i j => by
      obtain ⟨a, ha⟩ := k1 i.1 j.1 i.2 j.2
      exact ⟨a, (cget i j).symm.trans ha⟩
    have cfv : ∀ (i j : Fin l.length) (a : Int), phi2 φ (l.get i) (l.get j) = some a → (phi2 φ (l.get i) (l.get j)).getD 0 = a := fun i j a h => by rw [h]; rfl
    have hlt : ∀ (i j : Fin l.length) (a : Int), phi2 φ (l.get i) (l.get j) = some a → ltG (phi2 φ) (l.get i) (l.get j) = decide (a < 0) := fun i j a h => by unfold ltG; rw [h]
    have hcf : Proofs.ltOf (fun i j : Fin l.length => (phi2 φ (l.get i) (l.get j)).getD 0) = fun i j => ltG (phi2 φ) (l.get i) (l.get j) := by
      funext i j
      obtain ⟨a, ha⟩ := hval i j
      rw [hlt i j a ha]
      show decide ((phi2 φ (l.get i) (l.get j)).getD 0 < 0) = _
      rw [ha]
      rfl
    have irr : ∀ i : Fin l.length, ltG (phi2 φ) (l.get i) (l.get i) = false := fun i => by
      obtain ⟨a, ha⟩ := hval i i
      rw [hlt i i a ha]
      exact decide_eq_false (k2 i.1 a i.2 ((cget i i).trans ha))
    have tri : ∀ i j : Fin l.length, i ≠ j → (ltG (phi2 φ) (l.get i) (l.get j) = true ↔ ltG (phi2 φ) (l.get j) (l.get i) = false) := fun i j hij => by
      obtain ⟨a, ha⟩ := hval i j
      obtain ⟨a', ha'⟩ := hval j i
      rw [hlt i j a ha, hlt j i a' ha', decide_eq_true_eq, decide_eq_false_iff_not]
      exact k3 i.1 j.1 a a' i.2 j.2 (fun h => hij (Fin.ext h)) ((cget i j).trans ha) ((cget j i).trans ha')
    have trn : ∀ i j k : Fin l.length, ltG (phi2 φ) (l.get i) (l.get j) = true → ltG (phi2 φ) (l.get j) (l.get k) = true → ltG (phi2 φ) (l.get i) (l.get k) = true := fun i j k => by
      obtain ⟨a, ha⟩ := hval i j
      obtain ⟨a', ha'⟩ := hval j k
      obtain ⟨a'', ha''⟩ := hval i k
      rw [hlt i j a ha, hlt j k a' ha', hlt i k a'' ha'', decide_eq_true_eq, decide_eq_true_eq, decide_eq_true_eq]
      exact k4 i.1 j.1 k.1 a a' a'' i.2 j.2 k.2 ((cget i j).trans ha) ((cget j k).trans ha') ((cget i k).trans ha'')
    have asy : ∀ i j : Fin l.length, ltG (phi2 φ) (l.get i) (l.get j) = true → ltG (phi2 φ) (l.get j) (l.get i) = false := fun i j h => by
      by_cases hij : i = j
      · subst hij; rw [irr i] at h; cases h
      · exact (tri i j hij).1 h
    have hT : ∀ i j : Fin l.length, ltG (phi2 φ) (l.get i) (l.get j) = false → ltG (phi2 φ) (l.get j) (l.get i) = false → i = j := fun i j h h' => by
      by_cases hij : i = j
      · exact hij
      · have := (tri i j hij).2 h'
        rw [h] at this
        cases this
    have ntr : ∀ i j k : Fin l.length, ltG (phi2 φ) (l.get i) (l.get j) = false → ltG (phi2 φ) (l.get j) (l.get k) = false → ltG (phi2 φ) (l.get i) (l.get k) = false := fun i j k h h' => by
      by_cases hij : i = j
      · subst hij; exact h'
      · by_cases hjk : j = k
        · subst hjk; exact h
        · have h1 : ltG (phi2 φ) (l.get j) (l.get i) = true := (tri j i (fun h => hij h.symm)).2 h
          have h2 : ltG (phi2 φ) (l.get k) (l.get j) = true := (tri k j (fun h => hjk h.symm)).2 h'
          exact asy k i (trn k j i h2 h1)
    have hO : Sort.SWO (Proofs.ltOf (fun i j : Fin l.length => (phi2 φ (l.get i) (l.get j)).getD 0)) := by
      rw [hcf]
      exact ⟨irr, trn, ntr⟩
    have hblk : b < w.heap.size := (Array.getElem?_eq_some_iff.1 hb).1
    have hnimm : ¬ imm b := hpl.imm b (by simp [plBlks_append, plBlks, nbl])
    have hk : ∀ i : Fin l.length, (encL (.st n) (l.get i)).length = szT F (.st n) := fun i => by rw [encL, List.length_map, encT_len]
    have h1 : ∀ i : Fin l.length, ∀ v ∈ encL (.st n) (l.get i), v.oneCell' = true := fun i v hv => by
      obtain ⟨d, _, rfl⟩ := List.mem_map.1 hv; exact encV_one
    -- where a cell of the row lies
    have flatAt : ∀ (s : List (Fin l.length)) (j : Nat) (d : ND F), (cells F (.st n) (s.map l.get))[j]? = some d → j < s.length * szT F (.st n) ∧ (Sort.flatK (fun i : Fin l.length => encL (F := F) (.st n) (l.get i)) (szT F (.st n)) s.toArray)[j]! = encV d ∧ d.smp = true := by
      intro s j d hd
      have hj : j < s.length * szT F (.st n) := by
        have := (List.getElem?_eq_some_iff.1 hd).1
        rwa [cells_len, List.length_map] at this
      obtain ⟨e', he1, he2⟩ := flat_at h0 (es := (s.map l.get).map (encT F (.st n))) (by intro e he; obtain ⟨y, _, rfl⟩ := List.mem_map.1 he; exact encT_len F _ y) hd
      rw [List.getElem?_map] at he1
      obtain ⟨y, hy1, hy2⟩ := Option.map_eq_some_iff.1 he1
      subst hy2
      rw [List.getElem?_map] at hy1
      obtain ⟨i, hi1, hi2⟩ := Option.map_eq_some_iff.1 hy1
      subst hi2
      refine ⟨hj, ?_, smp_rep hf (l.get i) d (List.mem_of_getElem? he2)⟩
      rw [Sort.get_flatK _ _ _ _ (by simpa using hj)]
      have e1 : (s.toArray)[j / szT F (.st n)]! = i := by
        rw [getElem!_def]
        simp [hi1]
      rw [e1]
      have e2 : (encL (F := F) (.st n) (l.get i))[j % szT F (.st n)]? = some (encV d) := by
        unfold encL
        rw [List.getElem?_map, he2]
        rfl
      rw [getElem!_def, e2]
    have hfr : (List.finRange l.length).map l.get = l := by
      apply List.ext_getElem?
      intro i
      rw [List.getElem?_map]
      by_cases hi : i < l.length
      · rw [List.getElem?_eq_getElem (by simpa using hi), List.getElem?_eq_getElem hi]
        simp
      · rw [List.getElem?_eq_none (by simpa using hi), List.getElem?_eq_none (by omega)]
        rfl
    have hH : Sort.HoldsK (fun i : Fin l.length => encL (F := F) (.st n) (l.get i)) (szT F (.st n)) w b 0 (List.finRange l.length).toArray := by
      intro j hj
      rw [Sort.size_flatK] at hj
      have hj' : j < (cells F (.st n) l).length := by rw [cells_len]; simpa using hj
      have hjc : j < cur.length := by
        rw [hcl]
        have : l.length * szT F (.st n) ≤ cap * szT F (.st n) := Nat.mul_le_mul_right _ hle
        rw [cells_len] at hj'
        omega
      have hat := flatAt (List.finRange l.length) j _ (by rw [hfr]; exact List.getElem?_eq_getElem hj')
      obtain ⟨_, q1, q2⟩ := hat
      have q3 := encV_of q2 (hcr j _ _ (List.getElem?_eq_getElem hj') (List.getElem?_eq_getElem hjc))
      refine ⟨?_, ?_⟩
      · simp only [World.cell?, hb, Nat.zero_add]
        rw [q1, ← q3]
        simp [hjc]
      · simp [World.frozen?, hb]
    have hcmp : Proofs.CmpLays P fid ⟨captured⟩ (fun i : Fin l.length => encL (F := F) (.st n) (l.get i)) (szT F (.st n)) (fun i j : Fin l.length => (phi2 φ (l.get i) (l.get j)).getD 0) b 0 (List.finRange l.length).toArray.size w := by
      intro m os dk hdk i j
      obtain ⟨c, hc⟩ := hval i j
      have ec : (phi2 φ (l.get i) (l.get j)).getD 0 = c := cfv i j c hc
      dsimp only
      rw [ec]
      have rp : ∀ (z : ET F (.st n)) (W : World), RepT W imm (encT F (.st n) z, true) (.agg ⟨encL (.st n) z⟩) := by
        intro z W
        refine .agg (by simp [encL]) ?_
        intro j d v h h'
        simp only [encL, List.getElem?_map, h, Option.map_some, Option.some.injEq] at h'
        subst h'
        exact encV_rep (smp_rep hf z d (List.mem_of_getElem? h))
      have hw := hcall (Proofs.sortWorldK (fun i : Fin l.length => encL (F := F) (.st n) (l.get i)) (szT F (.st n)) w b 0 m dk os) imm (fun b' hb' => ⟨hb', sw_other (fun e => hnimm (e ▸ hb')) (himm b' hb')⟩) (fun b' hb' => Nat.lt_of_lt_of_le (himm b' hb') sw_size) (l.get i, l.get j, ()) c
        [.agg ⟨encL (.st n) (l.get i)⟩, .agg ⟨encL (.st n) (l.get j)⟩] hc (by
          refine ⟨rfl, ?_⟩
          intro q d v h h'
          match q with
          | 0 => simp only [encTs, List.getElem?_cons_zero, Option.some.injEq] at h h'; subst h h'; exact rp _ _
          | 1 => simp only [encTs, List.getElem?_cons_succ, List.getElem?_cons_zero, Option.some.injEq] at h h'; subst h h'; exact rp _ _
          | q + 2 => simp [encTs] at h)
      have ea : (#[.agg (encL (.st n) (l.get i)).toArray, .agg (encL (.st n) (l.get j)).toArray] ++ ⟨captured⟩ : Array Value) = ⟨[.agg ⟨encL (.st n) (l.get i)⟩, .agg ⟨encL (.st n) (l.get j)⟩] ++ captured⟩ := by
        apply Array.ext'
        simp
      rw [ea]
      refine hw.mono ?_
      rintro e' w'' ⟨v', rfl, hbl, hrt, hdr⟩
      refine ⟨?_, below_grow hbl hdr⟩
      cases hrt with
      | one h => rw [encV_of rfl h]; rfl
    have main := Proofs.AnyQ.slices_SortFunc_total L (szT F (.st n)) aE zE (fun i : Fin l.length => encL (F := F) (.st n) (l.get i)) hk h1 (fun i j : Fin l.length => (phi2 φ (l.get i) (l.get j)).getD 0) hO fid ⟨captured⟩ b 0 cap (List.finRange l.length).toArray w (fun args w => enter_run hcan args w) hcmp hH hblk (by rw [List.size_toArray, List.length_finRange]; exact hlen') (by rw [hcf]; exact hT)
    rw [show (List.finRange l.length).toArray.size = l.length by simp] at main
    refine main.mono ?_
    rintro e' w' ⟨rfl, m, os, rfl⟩
    have hs : ((List.finRange l.length).toArray.toList.mergeSort fun x y => !(Proofs.ltOf (fun i j : Fin l.length => (phi2 φ (l.get i) (l.get j)).getD 0)) y x) = isort (fun i j : Fin l.length => ltG (phi2 φ) (l.get i) (l.get j)) (List.finRange l.length) := by
      rw [hcf]
      show (List.finRange l.length).mergeSort _ = _
      refine List.Perm.eq_of_pairwise (le := fun i j => ltG (phi2 φ) (l.get j) (l.get i) = false) (fun i j _ _ h h' => (hT i j h' h)) ?_ ?_ ((List.mergeSort_perm _ _).trans perm_isort.symm)
      · have := List.pairwise_mergeSort (le := fun i j : Fin l.length => !(ltG (phi2 φ) (l.get j) (l.get i))) (by
          intro i j k h h'
          simp only [Bool.not_eq_true'] at h h' ⊢
          exact ntr k j i h' h) (by
          intro i j
          cases h : ltG (phi2 φ) (l.get j) (l.get i) with
          | false => rfl
          | true =>
            rw [asy j i h]
            rfl) (List.finRange l.length)
        refine this.imp ?_
        intro i j h
        simpa using h
      · exact pw_isort (fun i j k h h' => ntr k j i h' h) asy
    rw [hs]
    have hm : (isort (fun i j : Fin l.length => ltG (phi2 φ) (l.get i) (l.get j)) (List.finRange l.length)).map l.get = isort (ltG (phi2 φ)) l := by
      rw [map_isort (lt := ltG (phi2 φ)) l.get (fun _ _ => rfl), hfr]
    have hsl : (isort (fun i j : Fin l.length => ltG (phi2 φ) (l.get i) (l.get j)) (List.finRange l.length)).length = l.length := by rw [perm_isort.length_eq]; simp
    rw [← hm]
    generalize (isort (fun i j : Fin l.length => ltG (phi2 φ) (l.get i) (l.get j)) (List.finRange l.length)) = s at *
    refine ⟨[], imm, [], rfl, rfl, rfl, rfl, ?_, sw_size, ?_, fun _ h => h, fun _ h => .inl h, fun b' hb' => Nat.lt_of_lt_of_le (himm b' hb') sw_size, ⟨some (b, cap, l.length, []), rfl, rfl, ?_, rfl⟩, ⟨?_, ?_, ?_⟩, ?_⟩
    · simp [Proofs.sortWorldK, Sort.grow, Sort.putRowK, Sort.putRow, Sort.mapBlock, Sort.ahead]
    · intro b' hlt hno
      exact sw_other (fun e => hno (by simp [plBlks_append, plBlks, nbl, e])) hlt
    · refine ⟨by rw [List.length_map, hsl], by rw [List.length_map, hsl]; exact hle, hmx, (Sort.putCells id 0 (Sort.flatK (fun i : Fin l.length => encL (F := F) (.st n) (l.get i)) (szT F (.st n)) s.toArray) ⟨cur⟩).toList, e, sw_self hb, ?_, ?_⟩
      · simp [Sort.putCells, hcl]
      · intro j d x hd hx
        obtain ⟨q0, q1, q2⟩ := flatAt s j d hd
        simp only [Sort.putCells, Array.toList_mapIdx, List.getElem?_mapIdx] at hx
        cases hcj : cur[j]? with
        | none => simp [hcj] at hx
        | some y =>
          simp only [hcj, Option.map_some, Option.some.injEq, Nat.zero_le, true_and, Nat.zero_add, Nat.sub_zero, Sort.size_flatK, id] at hx
          rw [if_pos (by simpa using q0), q1] at hx
          subst hx
          exact encV_rep q2
    · simp [plBlks_append, plBlks, nbl]
    · intro b' hb'
      exact hpl.imm b' (by simpa [plBlks_append, plBlks, nbl] using hb')
    · intro b' hb'
      exact Nat.lt_of_lt_of_le (hpl.lt b' (by simpa [plBlks_append, plBlks, nbl] using hb')) sw_size
    · intro b' hb'
      exact .inl (by simpa [plBlks_append, plBlks, nbl] using hb')

/-! more is known of the comparison -/
theorem okG_congr {c c' : Nat → Nat → Option Int} {n : Nat} (h : ∀ i j, i < n → j < n → c i j = c' i j) : okG c n = okG c' n := by
  unfold okG
  have al : ∀ (f g : Nat → Bool), (∀ i, i < n → f i = g i) → (List.range n).all f = (List.range n).all g := by
    intro f g hfg
    rw [Bool.eq_iff_iff]
    simp only [List.all_eq_true, List.mem_range]
    exact ⟨fun hf i hi => (hfg i hi) ▸ hf i hi, fun hg i hi => (hfg i hi) ▸ hg i hi⟩
  refine al _ _ fun i hi => al _ _ fun j hj => ?_
  rw [h i j hi hj, h j i hj hi]
  have e : ((List.range n).all fun k => match c j k, c i k with | some a', some b' => true && false | _, _ => false) = ((List.range n).all fun k => match c' j k, c' i k with | some a', some b' => true && false | _, _ => false) := al _ _ fun k hk => by rw [h j k hj hk, h i k hi hk]
  cases hc : c' i j with
  | none => rfl
  | some a =>
    cases hc2 : c' j i with
    | none => rfl
    | some b =>
      dsimp only
      congr 1
      exact al _ _ fun k hk => by rw [h j k hj hk, h i k hi hk]
theorem isort_congr {α : Type} {lt lt' : α → α → Bool} : ∀ {l : List α}, (∀ x ∈ l, ∀ y ∈ l, lt x y = lt' x y) → isort lt l = isort lt' l
  | [], _ => rfl
  | x :: l, h => by
    have ih : isort lt l = isort lt' l := isort_congr fun a ha b hb => h a (by simp [ha]) b (by simp [hb])
    have ins : ∀ m : List α, (∀ y ∈ m, y ∈ l) → insG lt x m = insG lt' x m := by
      intro m
      induction m with
      | nil => intro _; rfl
      | cons y m ihm =>
        intro hm
        simp only [insG]
        rw [h y (by simp [hm y (by simp)]) x (by simp), ihm fun z hz => hm z (by simp [hz])]
    simp only [isort]
    rw [ih]
    exact ins _ fun y hy => perm_isort.mem_iff.1 hy

theorem lo_sortG {t : Ty} {φ φ' : TupT F [t, t] → Option (ET F (.int .i64))} (h : ∀ a, Lo (φ a) (φ' a)) (l : List (ET F t)) : Lo (sortG t φ l) (sortG t φ' l) := by
  constructor
  intro r hr
  unfold sortG at hr ⊢
  cases l with
  | nil => exact hr
  | cons x l =>
    simp only [sortA] at hr ⊢
    by_cases hc : (okG (cG (phi2 φ) (x :: l) x) (l.length + 1) && decide (l.length < 1000000000)) = true
    rotate_left
    · rw [if_neg hc] at hr
      cases hr
    rw [if_pos hc] at hr
    rw [Bool.and_eq_true] at hc
    have k1 := (okG_spec hc.1).1
    have eqv : ∀ i j, i < l.length + 1 → j < l.length + 1 → cG (phi2 φ) (x :: l) x i j = cG (phi2 φ') (x :: l) x i j := by
      intro i j hi hj
      obtain ⟨a, ha⟩ := k1 i j hi hj
      rw [ha]
      exact ((h (getG (x :: l) x i, getG (x :: l) x j, ())).ok a ha).symm
    rw [← okG_congr eqv, if_pos (by rw [Bool.and_eq_true]; exact hc)]
    rw [← hr]
    congr 1
    refine (isort_congr ?_).symm
    intro y hy z hz
    obtain ⟨i, hi, ei⟩ := List.getElem_of_mem hy
    obtain ⟨j, hj, ej⟩ := List.getElem_of_mem hz
    have e := eqv i j (by simpa using hi) (by simpa using hj)
    have g1 : getG (x :: l) x i = y := by unfold getG; rw [List.getD_eq_getElem?_getD, List.getElem?_eq_getElem hi, ei]; rfl
    have g2 : getG (x :: l) x j = z := by unfold getG; rw [List.getD_eq_getElem?_getD, List.getElem?_eq_getElem hj, ej]; rfl
    unfold cG at e
    rw [g1, g2] at e
    unfold ltG
    rw [e]
end
end Go.Fx

