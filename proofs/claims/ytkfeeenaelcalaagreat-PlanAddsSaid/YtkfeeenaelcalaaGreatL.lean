/-
  The law over plain data: true at all inputs. Conditions: none.
-/
import Derived.Test.YtkfeeenaelcalaaGreatS18
import Derived.Lib.Mul64
import Derived.WalkKit
namespace Go.Fx.D
open Go Go.Fx
set_option linter.unusedVariables false
set_option linter.unusedSimpArgs false

theorem rgood_eq (a : Vec) : rvec_vec_good a = some (decide (VB 1125899906842624 a)) := by
  unfold rvec_vec_good
  have e : decide (VB 1125899906842624 a) = ((decide (a.Mem ≥ 0) && decide (a.Mem ≤ 1125899906842624)) && (decide (a.Cores ≥ 0) && decide (a.Cores ≤ 1125899906842624))) := by
    rw [Bool.eq_iff_iff, decide_eq_true_iff]
    simp only [Bool.and_eq_true, decide_eq_true_eq, VB, ge_iff_le]
  rw [e]
  cases decide (a.Mem ≥ 0) <;> cases decide (a.Mem ≤ 1125899906842624) <;> cases decide (a.Cores ≥ 0) <;> cases decide (a.Cores ≤ 1125899906842624) <;> rfl
theorem rover_eq {a : Vec} (h : VB 1125899906842624 a) : rvec_over a = some (a, 0) := by
  unfold rvec_over
  rw [rgood_eq, decide_eq_true h]
  rfl
theorem Add_eq {a b : Vec} {n m : Int} (ha : VB n a) (hb : VB m b) (h : n + m ≤ 1125899906842624) : rvec_Add a b = some (vplus a b, 0) := by
  have hn : 0 ≤ n ∧ 0 ≤ m := by unfold VB at ha hb; omega
  have hs := vplus_bd ha hb
  unfold rvec_Add
  rw [rgood_eq, rgood_eq, decide_eq_true (ha.mono (by omega)), decide_eq_true (hb.mono (by omega))]
  simp only [Option.bind_some, Bool.not_true, cond_false]
  have e : (⟨w64 (a.Mem + b.Mem), w64 (a.Cores + b.Cores)⟩ : Vec) = vplus a b := by
    unfold VB vplus at hs
    dsimp only at hs
    rw [w64_id (by omega) (by omega), w64_id (by omega) (by omega)]
    rfl
  rw [e, rover_eq (hs.mono h)]
  rfl
theorem vplus_comm (a b : Vec) : vplus a b = vplus b a := by unfold vplus; congr 1 <;> omega
theorem vplus_assoc (a b c : Vec) : vplus (vplus a b) c = vplus a (vplus b c) := by unfold vplus; dsimp only; congr 1 <;> omega
theorem vplus_zero (a : Vec) : vplus ⟨0, 0⟩ a = a := by cases a; simp [vplus]
theorem foldl_vplus (l : List Vec) (z : Vec) : l.foldl vplus z = vplus z (vsum l) := by
  induction l generalizing z with
  | nil => rw [vsum_nil, vplus_comm, vplus_zero]; rfl
  | cons x l ih => rw [List.foldl_cons, ih, vsum_cons, vplus_assoc]
theorem sum_eq {l : List Vec} (hl : l.length ≤ 1000) (h : ∀ v ∈ l, VB 1099511627776 v) : share_sum l = some (vsum l) := by
  unfold share_sum
  rw [(loop_fold (fun v i => (v, i)) l vplus (fun k v => VB (1099511627776 * k) v) (fun v => v) (step := share_sum_l1 l) (by omega) ?_ ?_ (s := (⟨0, 0⟩ : Vec)) (by simp [VB])).1]
  · rw [foldl_vplus, vplus_zero]; rfl
  · intro k hk s hs
    have hb := h _ (List.getElem_mem hk)
    refine ⟨?_, (vplus_bd hs hb).mono (by omega)⟩
    unfold share_sum_l1
    rw [dlt_t hk, idx_at hk]
    simp only [cond_true, Option.bind_some]
    rw [Add_eq hs hb (by omega)]
    rfl
  · intro s _
    unfold share_sum_l1
    rw [dlt_f]
    rfl
theorem sTotal_eq {s : State} (h : SC s) (label : Int) : share_Total s label = some (pTotal s label) := by
  unfold share_Total
  have hn := h.n
  rw [loop_filter (fun (l : List Vec) i => (l, i)) s.Nodes (fun n => n.Up && n.Label == label) (·.Cap) (step := share_Total_l1 s label) (by omega) ?_ ?_]
  · rw [Option.bind_some, sum_eq]
    · rfl
    · rw [List.length_map]
      have := List.length_filter_le (fun n : Node => n.Up && n.Label == label) s.Nodes
      omega
    · intro v hv
      obtain ⟨n, hn, rfl⟩ := List.mem_map.1 hv
      exact (h.b.nc n (List.mem_filter.1 hn).1).mono (by omega)
  · intro k hk l hl
    unfold share_Total_l1
    rw [dlt_t hk, idx_at hk]
    simp only [cond_true, Option.bind_some]
    rw [app_some (by simp; omega) (by omega)]
    cases s.Nodes[k].Up <;> cases s.Nodes[k].Label == label <;> rfl
  · intro l
    unfold share_Total_l1
    rw [dlt_f]
    rfl
/-- the place of the first of a list -/
theorem loop_findI {α τ ρ : Type} (mk : Int → τ) (l : List α) (p : α → Bool) (g : Int → ρ) (z : ρ) {step : τ → Option (τ ⊕ ρ)} (hn : l.length < 1000000000)
    (h1 : ∀ k (hk : k < l.length), p l[k] = false → step (mk (k : Int)) = some (.inl (mk (w64 ((k : Int) + 1)))))
    (h2 : ∀ k (hk : k < l.length), p l[k] = true → step (mk (k : Int)) = some (.inr (g (k : Int))))
    (h3 : step (mk (l.length : Int)) = some (.inr z)) : (∃ k, ∃ (hk : k < l.length), l.find? p = some l[k] ∧ loop step (mk 0) = some (g (k : Int))) ∨ (l.find? p = none ∧ loop step (mk 0) = some z) := by
  have h := gv_for (σ := Unit) (Q := fun x => (∃ k, ∃ (hk : k < l.length), l.find? p = some l[k] ∧ x = g (k : Int)) ∨ (l.find? p = none ∧ x = z)) (fun _ i => mk i) l.length (fun k _ => (l.take k).find? p = none) (step := step) hn ?_ ?_ (s := ()) rfl
  · obtain ⟨x, e, h⟩ := h
    rcases h with ⟨k, hk, h1, rfl⟩ | ⟨h1, rfl⟩
    · exact .inl ⟨k, hk, h1, e⟩
    · exact .inr ⟨h1, e⟩
  · intro k hk _ hs
    cases hp : p l[k] with
    | false =>
      refine gv_eq (h1 k hk hp) (.inl ⟨(), rfl, ?_⟩)
      rw [List.take_succ_eq_append_getElem hk, List.find?_append, hs]
      simp [hp]
    | true =>
      refine gv_eq (h2 k hk hp) (.inr ⟨_, rfl, .inl ⟨k, hk, ?_, rfl⟩⟩)
      conv => lhs; rw [← List.take_append_drop k l]
      rw [List.find?_append, hs, Option.none_or, List.drop_eq_getElem_cons hk, List.find?_cons_of_pos hp]
  · intro _ hs
    rw [List.take_length] at hs
    exact gv_eq h3 ⟨_, rfl, .inr ⟨hs, rfl⟩⟩
theorem few_eq (x : Script) : dispatchlaw7_Script_Few x = some (decide (x.Ns.length ≤ 30) && decide (x.Acts.length ≤ 80)) := by
  unfold dispatchlaw7_Script_Few
  have e1 : decide ((x.Ns.length : Int) ≤ 30) = decide (x.Ns.length ≤ 30) := by rw [decide_eq_decide]; omega
  have e2 : decide ((x.Acts.length : Int) ≤ 80) = decide (x.Acts.length ≤ 80) := by rw [decide_eq_decide]; omega
  rw [e1, e2]
  cases decide (x.Ns.length ≤ 30) <;> rfl
theorem script_law {x : Script} {m : State → Option Bool} (h : ∀ s, Inv 400000 s → m s = some true) : ((dispatchlaw7_Script_Few x).bind fun x2 => bif ! x2 then some true else (dispatchlaw7_Script_State x).bind m) = some true := by
  rw [few_eq]
  by_cases h1 : x.Ns.length ≤ 30
  · by_cases h2 : x.Acts.length ≤ 80
    · rw [decide_eq_true h1, decide_eq_true h2]
      obtain ⟨s, e, hs⟩ := State_gv x h1 h2
      simp only [Bool.and_self, Bool.not_true, cond_false, Option.bind_some]
      rw [e, Option.bind_some]
      exact h s hs
    · rw [decide_eq_false h2, Bool.and_false]
      rfl
  · rw [decide_eq_false h1]
    rfl
/-- a vector within the bounds -/
def Ok (v : Vec) : Prop := 0 ≤ v.Mem ∧ v.Mem ≤ 1125899906842624 ∧ 0 ≤ v.Cores ∧ v.Cores ≤ 1125899906842624
instance (v : Vec) : Decidable (Ok v) := by unfold Ok; exact inferInstance
/-- a strict order of what is in l -/
structure SO {α : Type} (lt : α → α → Bool) (l : List α) : Prop where
  irr : ∀ x ∈ l, lt x x = false
  tr : ∀ x ∈ l, ∀ y ∈ l, ∀ z ∈ l, lt x y = true → lt y z = true → lt x z = true
  tot : ∀ x ∈ l, ∀ y ∈ l, x ≠ y → lt x y = true ∨ lt y x = true
theorem SO.sub {α : Type} {lt : α → α → Bool} {l m : List α} (h : SO lt l) (hm : ∀ x ∈ m, x ∈ l) : SO lt m :=
  ⟨fun x hx => h.irr x (hm x hx), fun x hx y hy z hz => h.tr x (hm x hx) y (hm y hy) z (hm z hz), fun x hx y hy => h.tot x (hm x hx) y (hm y hy)⟩
theorem SO.asm {α : Type} {lt : α → α → Bool} {l : List α} (h : SO lt l) {x y : α} (hx : x ∈ l) (hy : y ∈ l) (hl : lt x y = true) : lt y x = false := by
  cases e : lt y x with
  | false => rfl
  | true =>
    have h1 := h.tr x hx y hy x hx hl e
    rw [h.irr x hx] at h1
    exact h1.symm
theorem SO.uniq {α : Type} {lt : α → α → Bool} {l l1 l2 : List α} (h : SO lt l) (p1 : l1.Perm l) (p2 : l2.Perm l) (s1 : l1.Pairwise fun a b => lt a b = true) (s2 : l2.Pairwise fun a b => lt a b = true) : l1 = l2 :=
  List.Perm.eq_of_pairwise (fun a b ha hb h1 h2 => by
    have := h.asm (p1.mem_iff.1 ha) (p2.mem_iff.1 hb) h1
    rw [this] at h2
    cases h2) s1 s2 (p1.trans p2.symm)
theorem VB.ok {n : Int} {v : Vec} (h : VB n v) (hn : n ≤ 1125899906842624) : Ok v := by
  unfold VB at h; unfold Ok; omega
theorem loop_out {τ σ : Type} {step : τ → Option (τ ⊕ σ)} {t : τ} {r : σ} (h : step t = some (.inr r)) : loop step t = some r := by
  rw [loop_eq, h]
theorem loop_next {τ σ : Type} {step : τ → Option (τ ⊕ σ)} {t t' : τ} (h : step t = some (.inl t')) : loop step t = loop step t' := by
  rw [loop_eq, h]
theorem inb_lt {k n : Nat} (h : k < n) : inb (k : Int) n = some k := inb_at h
theorem step_succ {k : Nat} (h : k < 1000000000) : w64 ((k : Int) + 1) = ((k + 1 : Nat) : Int) := step_up h
/-- rounds that count up to n, with what holds at each -/
theorem loop_inv {τ ρ σ : Type} (mk : σ → Int → τ) (step : τ → Option (τ ⊕ ρ)) (n : Nat) (Inv : Nat → σ → Prop) (fin : σ → ρ)
    (h1 : ∀ k, k < n → ∀ s, Inv k s → ∃ s', step (mk s (k : Int)) = some (.inl (mk s' ((k + 1 : Nat) : Int))) ∧ Inv (k + 1) s')
    (h2 : ∀ s, Inv n s → step (mk s (n : Int)) = some (.inr (fin s))) {s : σ} (h0 : Inv 0 s) : ∃ s', loop step (mk s 0) = some (fin s') ∧ Inv n s' := by
  have key : ∀ (m k : Nat), m + k = n → ∀ s, Inv k s → ∃ s', loop step (mk s (k : Int)) = some (fin s') ∧ Inv n s' := by
    intro m
    induction m with
    | zero =>
      intro k hk s hs
      have hk : k = n := by omega
      subst hk
      exact ⟨s, by rw [loop_eq, h2 s hs], hs⟩
    | succ m ih =>
      intro k hk s hs
      obtain ⟨s', e, hs'⟩ := h1 k (by omega) s hs
      rw [loop_eq, e]
      exact ih (k + 1) (by omega) s' hs'
  exact key n 0 rfl s h0
theorem idx_lt {α : Type} {l : List α} {k : Nat} (h : k < l.length) : idx l (k : Int) = some l[k] := by
  unfold idx
  rw [if_pos (by omega), Int.toNat_natCast, List.getElem?_eq_getElem h]
theorem app_ok {α : Type} {b : Nat} {l m : List α} (h : (l ++ m).length ≤ 1000000) (hb : b ≤ 100000) : app b l m = some (l ++ m) := by
  unfold app
  rw [if_pos]
  have : (l ++ m).length * b ≤ 1000000 * 100000 := Nat.mul_le_mul h hb
  unfold maxLen
  omega
/-- a search: goes on as long as 'p' holds -/
theorem loop_all {ρ : Type} (step : Int → Option (Int ⊕ ρ)) (n : Nat) (p : Nat → Bool) (bad : Nat → ρ) (good : ρ) (h1 : ∀ k : Nat, k < n → step k = some (bif p k then .inl ((k + 1 : Nat) : Int) else .inr (bad k))) (h2 : step (n : Int) = some (.inr good)) :
    ((∀ i, i < n → p i = true) ∧ loop step 0 = some good) ∨ ∃ i, i < n ∧ p i = false ∧ loop step 0 = some (bad i) := by
  have key : ∀ (m k : Nat), m + k = n → ((∀ i, k ≤ i → i < n → p i = true) ∧ loop step (k : Int) = some good) ∨ ∃ i, i < n ∧ p i = false ∧ loop step (k : Int) = some (bad i) := by
    intro m
    induction m with
    | zero =>
      intro k hk
      have hk : k = n := by omega
      subst hk
      exact .inl ⟨fun i h1 h2 => by omega, by rw [loop_eq, h2]⟩
    | succ m ih =>
      intro k hk
      have hk' : k < n := by omega
      cases hp : p k with
      | true =>
        rw [loop_eq, h1 k hk', hp]
        simp only [cond_true]
        rcases ih (k + 1) (by omega) with ⟨a, b⟩ | h
        · refine .inl ⟨fun i h1 h2 => ?_, b⟩
          by_cases e : i = k
          · subst e; exact hp
          · exact a i (by omega) h2
        · exact .inr h
      | false =>
        refine .inr ⟨k, hk', hp, ?_⟩
        rw [loop_eq, h1 k hk', hp]
        rfl
  rcases key n 0 rfl with ⟨a, b⟩ | h
  · exact .inl ⟨fun i hi => a i (by omega) hi, b⟩
  · exact .inr h
theorem app_nil {α : Type} {b : Nat} {l : List α} (h : l.length ≤ 1000000) (hb : b ≤ 100000) : app b [] l = some l := by
  have := app_ok (b := b) (l := []) (m := l) (by simpa using h) hb
  simpa using this
theorem mkl_ok {α : Type} {b : Nat} {n : Nat} {z : α} (h : n ≤ 1000000) (hb : b ≤ 100000) : mkl b (n : Int) (n : Int) z = some (List.replicate n z) := by
  unfold mkl
  rw [if_pos]
  · simp
  · have : b * n ≤ 100000 * 1000000 := Nat.mul_le_mul hb h
    refine ⟨by omega, by omega, ?_, ?_⟩ <;> simp only [Int.toNat_natCast] <;> unfold maxLen at * <;> omega
theorem cpy_all {α : Type} {l m : List α} (h : l.length = m.length) : cpy l 0 l.length m = m := by
  unfold cpy
  rw [h, List.take_length, Nat.min_self, ← h]
  simp
/-- applications, states of few things -/
structure SmallA (a : App) : Prop where
  asks : a.Asks.length ≤ 1000000
  grants : a.Grants.length ≤ 1000000
  kills : a.Kills.length ≤ 1000000
  told : a.Told.length ≤ 1000000
  lost : a.Lost.length ≤ 1000000
structure Small (s : State) : Prop where
  labels : s.Conf.Labels.length ≤ 1000
  queues : s.Conf.Queues.length ≤ 1000
  caps : ∀ q ∈ s.Conf.Queues, q.Caps.length ≤ 1000
  nodes : s.Nodes.length ≤ 1000
  apps : s.Apps.length ≤ 1000
  app : ∀ a ∈ s.Apps, SmallA a
  conts : s.Conts.length ≤ 1000
  slots : s.Slots.length ≤ 1000
  plans : s.Plans.length ≤ 1000
theorem ints_eq {l : List Int} (h : l.length ≤ 1000000) : apps_ints l = some l := by
  unfold apps_ints
  rw [mkl_ok (by omega) (by omega)]
  simp only [Option.bind_some]
  rw [cpy_all (by simp)]
theorem app_eq {a : App} (h : SmallA a) : apps_app a = some a := by
  unfold apps_app api_Ask_
  rw [app_nil (by have := h.asks; omega) (by omega), ints_eq h.grants, ints_eq h.kills, ints_eq h.told, ints_eq h.lost]
  rfl
theorem set_self {α : Type} {l : List α} {k : Nat} (h : k < l.length) : l.set k l[k] = l := by simp
theorem own_eq {s : State} (h : Small s) : apps_own s = some s := by
  unfold apps_own slices_Clone___string_string_ api_Queue__218 api_Node_ api_Cont_ api_Slot_ api_Plan_ api_App_
  rw [app_nil (by have := h.labels; omega) (by omega), app_nil (by have := h.queues; omega) (by omega)]
  simp only [Option.bind_some]
  obtain ⟨x, e, hx⟩ := loop_inv (fun (v : List Queue) k => (v, k)) (apps_own_l1 s.Conf.Queues) s.Conf.Queues.length (fun _ v => v = s.Conf.Queues) (fun v => v) (by
    rintro k hk v rfl
    refine ⟨s.Conf.Queues, ?_, rfl⟩
    have hq := h.queues
    have hc := h.caps _ (List.getElem_mem hk)
    unfold apps_own_l1 api_Cap_
    rw [decide_eq_true (by dsimp only; omega), step_succ (by omega)]
    dsimp only
    rw [inb_lt hk]
    simp only [cond_true, Option.bind_some, List.getElem?_eq_getElem hk]
    rw [app_nil (by omega) (by omega)]
    simp only [Option.bind_some]
    rw [show (⟨s.Conf.Queues[k].Path, s.Conf.Queues[k].Caps, s.Conf.Queues[k].User⟩ : Queue) = s.Conf.Queues[k] from rfl, set_self hk]) (by
    rintro v rfl
    unfold apps_own_l1
    rw [decide_eq_false (by dsimp only; omega)]
    rfl) (s := s.Conf.Queues) rfl
  rw [e, hx]
  simp only [Option.bind_some]
  rw [app_nil (by have := h.nodes; omega) (by omega), app_nil (by have := h.conts; omega) (by omega), app_nil (by have := h.slots; omega) (by omega), app_nil (by have := h.plans; omega) (by omega), app_nil (by have := h.apps; omega) (by omega)]
  simp only [Option.bind_some]
  obtain ⟨y, e, hy⟩ := loop_inv (fun (v : List App) k => (v, k)) (apps_own_l2 s.Apps) s.Apps.length (fun _ v => v = s.Apps) (fun v => v) (by
    rintro k hk v rfl
    refine ⟨s.Apps, ?_, rfl⟩
    have hq := h.apps
    unfold apps_own_l2
    rw [decide_eq_true (by dsimp only; omega), step_succ (by omega)]
    dsimp only
    rw [inb_lt hk]
    simp only [cond_true, Option.bind_some, List.getElem?_eq_getElem hk]
    rw [app_eq (h.app _ (List.getElem_mem hk))]
    simp only [Option.bind_some]
    rw [set_self hk]) (by
    rintro v rfl
    unfold apps_own_l2
    rw [decide_eq_false (by dsimp only; omega)]
    rfl) (s := s.Apps) rfl
  rw [e, hy]
  rfl
theorem lose_eq {s : State} (h : Small s) : apps_Lose s [] = some s := by
  unfold apps_Lose
  rw [own_eq h]
  simp only [Option.bind_some]
  have e : loop (apps_Lose_l1 []) (s, 0) = some s := by
    rw [loop_eq]
    unfold apps_Lose_l1
    rfl
  rw [e]
  simp only [Option.bind_some]
  rw [own_eq h]
  rfl
/-- rounds that count up, nothing else -/
theorem loop_cnt {ρ : Type} (step : Int → Option (Int ⊕ ρ)) (n : Nat) (fin : ρ) (h1 : ∀ k : Nat, k < n → step k = some (.inl ((k + 1 : Nat) : Int))) (h2 : step (n : Int) = some (.inr fin)) : loop step 0 = some fin := by
  rcases loop_all step n (fun _ => true) (fun _ => fin) fin (fun k hk => by rw [h1 k hk]; rfl) h2 with ⟨_, b⟩ | ⟨i, _, h, _⟩
  · exact b
  · cases h
theorem ints_refl {l : List Int} (h : l.length ≤ 1000000) : dispatchref19_ints l l = some true := by
  unfold dispatchref19_ints
  rw [loop_cnt (dispatchref19_ints_l1 l l) l.length (.inr ()) (by
    intro k hk
    unfold dispatchref19_ints_l1
    rw [decide_eq_true (by omega), idx_lt hk, step_succ (by omega)]
    simp only [cond_true, Option.bind_some, bne_self_eq_false, cond_false]) (by
    unfold dispatchref19_ints_l1
    rw [decide_eq_false (by omega)]
    rfl)]
  simp
theorem app_refl {a : App} (h : SmallA a) : dispatchref19_app a a = some true := by
  have hl := h.asks
  unfold dispatchref19_app
  rw [loop_cnt (dispatchref19_app_l1 a a) a.Asks.length (.inr ()) (by
    intro k hk
    unfold dispatchref19_app_l1
    rw [decide_eq_true (by omega), idx_lt hk, step_succ (by omega)]
    simp only [cond_true, Option.bind_some, beq_self_eq_true, Bool.and_self, Bool.not_true, cond_false]) (by
    unfold dispatchref19_app_l1
    rw [decide_eq_false (by omega)]
    rfl)]
  simp only [bne_self_eq_false, beq_self_eq_true, Bool.not_true, cond_false, Bool.and_self, Option.bind_some]
  rw [ints_refl h.grants, ints_refl h.kills, ints_refl h.told, ints_refl h.lost]
  rfl
theorem conf_refl {c : Conf} (h1 : c.Labels.length ≤ 1000) (h2 : c.Queues.length ≤ 1000) (h3 : ∀ q ∈ c.Queues, q.Caps.length ≤ 1000) : dispatchref5_Same c c = some true := by
  unfold dispatchref5_Same
  rw [loop_cnt (dispatchref5_Same_l1 c c) c.Labels.length (.inr ()) (by
    intro k hk
    unfold dispatchref5_Same_l1
    rw [decide_eq_true (by omega), idx_lt hk, step_succ (by omega)]
    simp only [cond_true, Option.bind_some, beq_self_eq_true, Bool.not_true, cond_false]) (by
    unfold dispatchref5_Same_l1
    rw [decide_eq_false (by omega)]
    rfl)]
  rw [loop_cnt (dispatchref5_Same_l2 c c) c.Queues.length (.inr ()) (by
    intro k hk
    have hc := h3 _ (List.getElem_mem hk)
    unfold dispatchref5_Same_l2
    rw [decide_eq_true (by omega), idx_lt hk, step_succ (by omega)]
    simp only [cond_true, Option.bind_some, beq_self_eq_true, bne_self_eq_false, Bool.not_true, cond_false]
    rw [loop_cnt (dispatchref5_Same_l3 c.Queues[k] c.Queues[k]) c.Queues[k].Caps.length (.inr ()) (by
      intro j hj
      unfold dispatchref5_Same_l3
      rw [decide_eq_true (by omega), idx_lt hj, step_succ (by omega)]
      simp only [cond_true, Option.bind_some, beq_self_eq_true, Bool.and_self, Bool.not_true, cond_false]) (by
      unfold dispatchref5_Same_l3
      rw [decide_eq_false (by omega)]
      rfl)]
    rfl) (by
    unfold dispatchref5_Same_l2
    rw [decide_eq_false (by omega)]
    rfl)]
  simp
theorem same_refl {s : State} (h : Small s) : dispatchref19_Same s s = some true := by
  have hn := h.nodes
  have ha := h.apps
  have hc := h.conts
  have hs := h.slots
  have hp := h.plans
  unfold dispatchref19_Same
  rw [conf_refl h.labels h.queues h.caps]
  simp only [Option.bind_some, Bool.not_true, bne_self_eq_false, cond_false]
  obtain ⟨b1, e1, rfl⟩ := loop_inv (fun (v : Bool) k => (v, k)) (dispatchref19_Same_l1 s s) s.Nodes.length (fun _ v => v = true) (fun v => v) (by
    rintro k hk v rfl
    refine ⟨true, ?_, rfl⟩
    unfold dispatchref19_Same_l1
    rw [decide_eq_true (by dsimp only; omega), step_succ (by omega)]
    dsimp only
    rw [idx_lt hk]
    simp) (by
    rintro v rfl
    unfold dispatchref19_Same_l1
    rw [decide_eq_false (by dsimp only; omega)]
    rfl) (s := true) rfl
  rw [e1]
  simp only [Option.bind_some]
  obtain ⟨b2, e2, rfl⟩ := loop_inv (fun (v : Bool) k => (v, k)) (dispatchref19_Same_l2 s s) s.Apps.length (fun _ v => v = true) (fun v => v) (by
    rintro k hk v rfl
    refine ⟨true, ?_, rfl⟩
    unfold dispatchref19_Same_l2
    rw [decide_eq_true (by dsimp only; omega), step_succ (by omega)]
    dsimp only
    rw [idx_lt hk]
    simp only [cond_true, Option.bind_some]
    rw [app_refl (h.app _ (List.getElem_mem hk))]
    rfl) (by
    rintro v rfl
    unfold dispatchref19_Same_l2
    rw [decide_eq_false (by dsimp only; omega)]
    rfl) (s := true) rfl
  rw [e2]
  simp only [Option.bind_some]
  obtain ⟨b3, e3, rfl⟩ := loop_inv (fun (v : Bool) k => (v, k)) (dispatchref19_Same_l3 s s) s.Conts.length (fun _ v => v = true) (fun v => v) (by
    rintro k hk v rfl
    refine ⟨true, ?_, rfl⟩
    unfold dispatchref19_Same_l3
    rw [decide_eq_true (by dsimp only; omega), step_succ (by omega)]
    dsimp only
    rw [idx_lt hk]
    simp) (by
    rintro v rfl
    unfold dispatchref19_Same_l3
    rw [decide_eq_false (by dsimp only; omega)]
    rfl) (s := true) rfl
  rw [e3]
  simp only [Option.bind_some]
  obtain ⟨b4, e4, rfl⟩ := loop_inv (fun (v : Bool) k => (v, k)) (dispatchref19_Same_l4 s s) s.Slots.length (fun _ v => v = true) (fun v => v) (by
    rintro k hk v rfl
    refine ⟨true, ?_, rfl⟩
    unfold dispatchref19_Same_l4
    rw [decide_eq_true (by dsimp only; omega), step_succ (by omega)]
    dsimp only
    rw [idx_lt hk]
    simp) (by
    rintro v rfl
    unfold dispatchref19_Same_l4
    rw [decide_eq_false (by dsimp only; omega)]
    rfl) (s := true) rfl
  rw [e4]
  simp only [Option.bind_some]
  obtain ⟨b5, e5, rfl⟩ := loop_inv (fun (v : Bool) k => (v, k)) (dispatchref19_Same_l5 s s) s.Plans.length (fun _ v => v = true) (fun v => v) (by
    rintro k hk v rfl
    refine ⟨true, ?_, rfl⟩
    unfold dispatchref19_Same_l5
    rw [decide_eq_true (by dsimp only; omega), step_succ (by omega)]
    dsimp only
    rw [idx_lt hk]
    simp) (by
    rintro v rfl
    unfold dispatchref19_Same_l5
    rw [decide_eq_false (by dsimp only; omega)]
    rfl) (s := true) rfl
  rw [e5]
  rfl
theorem Inv.small {N : Nat} {s : State} (h : Inv N s) (hN : N ≤ 1000000) : Small s := by
  have c := h.cf
  have h1 := c.lab
  have h2 := c.qs
  have h3 := h.nl
  have h4 := h.al
  have h5 := h.cl
  have h6 := h.sl
  have h7 := h.pl
  refine ⟨by omega, by omega, ?_, by omega, by omega, ?_, by omega, by omega, by omega⟩
  · intro q hq
    obtain ⟨i, hi, rfl⟩ := List.getElem_of_mem hq
    have := (c.q i hi).caps
    omega
  · intro a ha
    have := h.ak a ha
    have k1 := this.al
    have k2 := this.gr
    have k3 := this.ki
    have k4 := this.to
    have k5 := this.lo
    exact ⟨by omega, by omega, by omega, by omega, by omega⟩
/-- small parts -/
def Few (v : Vec) : Prop := 0 ≤ v.Mem ∧ v.Mem ≤ 1073741824 ∧ 0 ≤ v.Cores ∧ v.Cores ≤ 1073741824
def sumV (l : List Vec) : Vec := ⟨(l.map (·.Mem)).sum, (l.map (·.Cores)).sum⟩
theorem sumV_app (l : List Vec) (v : Vec) : sumV (l ++ [v]) = ⟨(sumV l).Mem + v.Mem, (sumV l).Cores + v.Cores⟩ := by simp [sumV]
theorem sumV_bd {l : List Vec} (h : ∀ v ∈ l, Few v) : 0 ≤ (sumV l).Mem ∧ (sumV l).Mem ≤ l.length * 1073741824 ∧ 0 ≤ (sumV l).Cores ∧ (sumV l).Cores ≤ l.length * 1073741824 := by
  induction l with
  | nil => simp [sumV]
  | cons v l ih =>
    have h1 := ih (fun v hv => h v (by simp [hv]))
    have h2 := h v (by simp)
    unfold Few at h2
    simp only [sumV, List.map_cons, List.sum_cons, List.length_cons] at h1 ⊢
    rw [Int.natCast_add, Int.add_mul]
    omega
theorem add_few {a b : Vec} (h1 : 0 ≤ a.Mem) (h2 : 0 ≤ a.Cores) (h3 : a.Mem ≤ 562949953421312) (h4 : a.Cores ≤ 562949953421312) (hb : Few b) : rvec_Add a b = some (⟨a.Mem + b.Mem, a.Cores + b.Cores⟩, 0) := by
  have good : ∀ v : Vec, 0 ≤ v.Mem → 0 ≤ v.Cores → v.Mem ≤ 1125899906842624 → v.Cores ≤ 1125899906842624 → rvec_vec_good v = some true := by
    intro v g1 g2 g3 g4
    unfold rvec_vec_good
    rw [decide_eq_true (by omega), decide_eq_true (by omega), decide_eq_true (by omega), decide_eq_true (by omega)]
    rfl
  unfold Few at hb
  unfold rvec_Add rvec_over
  rw [good a (by omega) (by omega) (by omega) (by omega), good b (by omega) (by omega) (by omega) (by omega), w64_id (by omega) (by omega), w64_id (by omega) (by omega)]
  simp only [Option.bind_some, Bool.not_true, cond_false]
  rw [good _ (by dsimp only; omega) (by dsimp only; omega) (by dsimp only; omega) (by dsimp only; omega)]
  rfl
def sel (label t : Int) (x : Plan) : Bool := (x.Label == label) && (decide (x.From ≤ t) && decide (x.Until > t))
def atV (l : List Plan) (label t : Int) : Vec := sumV ((l.filter (sel label t)).map (·.Need))
def addV (a b : Vec) : Vec := ⟨a.Mem + b.Mem, a.Cores + b.Cores⟩
def fitsV (a b : Vec) : Bool := decide (a.Mem ≤ b.Mem) && decide (a.Cores ≤ b.Cores)
/-- plans of small numbers -/
def Okp (x : Plan) : Prop := 0 ≤ x.From ∧ x.From ≤ 1000000 ∧ 0 ≤ x.Until ∧ x.Until ≤ 1000000 ∧ Few x.Need
def Okl (l : List Plan) : Prop := l.length ≤ 100 ∧ ∀ x ∈ l, Okp x
theorem pfits_eq (a b : Vec) : rvec_Fits a b = some (fitsV a b) := by
  unfold rvec_Fits fitsV
  cases decide (a.Mem ≤ b.Mem) <;> rfl
theorem prfits_eq (a b : Vec) : dispatchref1_Fits a b = some (fitsV a b) := pfits_eq a b
theorem at_bd {l : List Plan} (h : Okl l) (label t : Int) : 0 ≤ (atV l label t).Mem ∧ (atV l label t).Mem ≤ 107374182400 ∧ 0 ≤ (atV l label t).Cores ∧ (atV l label t).Cores ≤ 107374182400 := by
  have hb := sumV_bd (l := (l.filter (sel label t)).map (·.Need)) (by
    intro v hv
    obtain ⟨p, hp, rfl⟩ := List.mem_map.1 hv
    exact (h.2 p (List.mem_filter.1 hp).1).2.2.2.2)
  have hl := List.length_filter_le (sel label t) l
  have := h.1
  rw [List.length_map] at hb
  unfold atV
  omega
theorem take_at {l : List Plan} {k : Nat} (hk : k < l.length) (label t : Int) : atV (l.take (k + 1)) label t = if sel label t l[k] then addV (atV (l.take k) label t) l[k].Need else atV (l.take k) label t := by
  unfold atV
  rw [List.take_succ_eq_append_getElem hk, List.filter_append, List.map_append]
  cases h : sel label t l[k] with
  | true => simp only [List.filter_cons, h, if_true, List.filter_nil, List.map_cons, List.map_nil, sumV_app]; rfl
  | false => simp only [List.filter_cons, h, Bool.false_eq_true, if_false, List.filter_nil, List.map_nil, List.append_nil]
theorem okl_take {l : List Plan} (h : Okl l) (k : Nat) : Okl (l.take k) := ⟨by have := h.1; rw [List.length_take]; omega, fun x hx => h.2 x (List.mem_of_mem_take hx)⟩
theorem sel_eq (label t : Int) (x : Plan) : (bif x.Label == label then bif decide (x.From ≤ t) then some (decide (x.Until > t)) else some false else some false : Option Bool) = some (sel label t x) := by
  unfold sel
  cases x.Label == label <;> cases decide (x.From ≤ t) <;> simp
theorem at_eq {l : List Plan} (h : Okl l) (label t : Int) : plan_At l label t = some (atV l label t) := by
  unfold plan_At
  have hl := h.1
  obtain ⟨v, e, hv⟩ := loop_inv (fun (v : Vec) k => (v, k)) (plan_At_l1 l label t) l.length (fun k v => v = atV (l.take k) label t) (fun v => v) (by
    rintro k hk v rfl
    refine ⟨atV (l.take (k + 1)) label t, ?_, rfl⟩
    have hb := at_bd (okl_take h k) label t
    unfold plan_At_l1
    rw [decide_eq_true (by dsimp only; omega), step_succ (by omega)]
    dsimp only
    rw [idx_lt hk]
    simp only [cond_true, Option.bind_some]
    rw [sel_eq, take_at hk]
    simp only [Option.bind_some]
    cases sel label t l[k] with
    | true =>
      simp only [cond_true, if_true]
      rw [add_few hb.1 hb.2.2.1 (by omega) (by omega) (h.2 _ (List.getElem_mem hk)).2.2.2.2]
      rfl
    | false => rfl) (by
    rintro v rfl
    unfold plan_At_l1
    rw [decide_eq_false (by dsimp only; omega)]
    rfl) (s := ⟨0, 0⟩) rfl
  rw [e, hv, List.take_length]
  rfl
theorem rat_eq {l : List Plan} (h : Okl l) (label t : Int) : dispatchref15_At l label t = some (atV l label t) := by
  unfold dispatchref15_At
  have hl := h.1
  obtain ⟨v, e, hv⟩ := loop_inv (fun (v : Vec) k => (v, k)) (dispatchref15_At_l1 l label t) l.length (fun k v => v = atV (l.take k) label t) (fun v => v) (by
    rintro k hk v rfl
    refine ⟨atV (l.take (k + 1)) label t, ?_, rfl⟩
    have hb := at_bd (okl_take h k) label t
    have hn := (h.2 _ (List.getElem_mem hk)).2.2.2.2
    unfold Few at hn
    unfold dispatchref15_At_l1
    rw [decide_eq_true (by dsimp only; omega), step_succ (by omega)]
    dsimp only
    rw [idx_lt hk]
    simp only [cond_true, Option.bind_some]
    have := sel_eq label t l[k]
    have e2 : (bif l[k].Label == label then bif decide (l[k].From ≤ t) then some (decide (t < l[k].Until)) else some false else some false : Option Bool) = some (sel label t l[k]) := this
    rw [e2, take_at hk]
    simp only [Option.bind_some]
    cases sel label t l[k] with
    | true =>
      simp only [cond_true, if_true]
      unfold dispatchref1_Plus
      rw [w64_id (by omega) (by omega), w64_id (by omega) (by omega)]
      rfl
    | false => rfl) (by
    rintro v rfl
    unfold dispatchref15_At_l1
    rw [decide_eq_false (by dsimp only; omega)]
    rfl) (s := ⟨0, 0⟩) rfl
  rw [e, hv, List.take_length]
  rfl
/-- does it fit at a time? -/
def okAt (l : List Plan) (total : Vec) (p : Plan) (t : Int) : Bool := fitsV (addV (atV l p.Label t) p.Need) total
def inwin (t long : Int) (x : Plan) : Bool := decide (x.From > t) && decide (x.From < t + long)
def fits (l : List Plan) (total : Vec) (p : Plan) (t long : Int) : Bool := okAt l total p t && l.all fun x => !(inwin t long x) || okAt l total p x.From
theorem free1_eq {l : List Plan} (h : Okl l) {p : Plan} (hp : Few p.Need) (total : Vec) (k : Int) : plan_free_1 k l p total = some (!(okAt l total p k)) := by
  unfold plan_free_1
  have hb := at_bd h p.Label k
  rw [at_eq h]
  simp only [Option.bind_some]
  rw [add_few hb.1 hb.2.2.1 (by omega) (by omega) hp]
  simp only [Option.bind_some]
  rw [pfits_eq]
  rfl
theorem contains_eq {s : List Int} (hs : s.length ≤ 1000) (f : TupT fam [.int .i64] → Option Bool) (g : Int → Bool) (hg : ∀ k, f (k, ()) = some (g k)) : slices_ContainsFunc___int_int_ s f = some (s.any g) := by
  unfold slices_ContainsFunc___int_int_ slices_IndexFunc___int_int_
  rcases loop_all (slices_IndexFunc___int_int__l1 s f) s.length (fun i => !(g (s.getD i 0))) (fun i => .inl (i : Int)) (.inr ()) (by
    intro k hk
    unfold slices_IndexFunc___int_int__l1
    rw [decide_eq_true (by omega), step_succ (by omega), idx_lt hk]
    have : s.getD k 0 = s[k] := by simp [List.getD, hk]
    rw [this]
    simp only [cond_true, Option.bind_some, hg]
    cases g s[k] <;> rfl) (by
    unfold slices_IndexFunc___int_int__l1
    rw [decide_eq_false (by omega)]
    rfl) with ⟨a, b⟩ | ⟨i, hi, a, b⟩
  · rw [b]
    have : s.any g = false := by
      rw [List.any_eq_false]
      intro x hx
      obtain ⟨i, hi, e⟩ := List.getElem_of_mem hx
      have := a i hi
      simpa [List.getD, hi, e] using this
    rw [this]
    rfl
  · rw [b]
    have : s.any g = true := by
      rw [List.any_eq_true]
      exact ⟨s[i], List.getElem_mem hi, by simpa [List.getD, hi] using a⟩
    rw [this]
    simp
theorem pfree_eq {l : List Plan} (h : Okl l) {p : Plan} (hp : Few p.Need) (total : Vec) {t long : Int} (ht : 0 ≤ t ∧ t ≤ 1000000) (hlg : 0 ≤ long ∧ long ≤ 1000) : plan_free l total p t long = some (fits l total p t long) := by
  unfold plan_free
  have hl := h.1
  have len : ∀ k, ((l.take k).filter (inwin t long)).length ≤ 100 := fun k => by
    have h1 := List.length_filter_le (inwin t long) (l.take k)
    rw [List.length_take] at h1
    omega
  obtain ⟨v, e, hv⟩ := loop_inv (fun (v : List Int) k => (v, k)) (plan_free_l1 l t long) l.length (fun k v => v = t :: ((l.take k).filter (inwin t long)).map (·.From)) (fun v => v) (by
    rintro k hk v rfl
    refine ⟨t :: ((l.take (k + 1)).filter (inwin t long)).map (·.From), ?_, rfl⟩
    unfold plan_free_l1
    rw [decide_eq_true (by dsimp only; omega), step_succ (by omega)]
    dsimp only
    rw [idx_lt hk, w64_id (by omega) (by omega)]
    simp only [cond_true, Option.bind_some]
    have e1 : (bif decide (l[k].From > t) then some (decide (l[k].From < t + long)) else some false : Option Bool) = some (inwin t long l[k]) := by
      unfold inwin
      cases decide (l[k].From > t) <;> simp
    rw [e1, List.take_succ_eq_append_getElem hk, List.filter_append, List.map_append]
    simp only [Option.bind_some]
    cases hw : inwin t long l[k] with
    | true =>
      have := len k
      rw [cond_true, app_ok (by simp; omega) (by omega)]
      simp [List.filter_cons, hw]
    | false => simp [List.filter_cons, hw]) (by
    rintro v rfl
    unfold plan_free_l1
    rw [decide_eq_false (by dsimp only; omega)]
    rfl) (s := [t]) (by simp)
  rw [e, hv, List.take_length]
  simp only [Option.bind_some]
  have hll := len l.length
  rw [List.take_length] at hll
  rw [contains_eq (by simp; omega) _ (fun k => !(okAt l total p k)) (fun k => free1_eq h hp total k)]
  simp only [Option.bind_some, Option.some.injEq]
  unfold fits
  rw [List.any_cons, Bool.not_or, Bool.not_not]
  congr 1
  rw [Bool.eq_iff_iff]
  simp only [Bool.not_eq_true', List.any_eq_false, List.mem_map, List.mem_filter, List.all_eq_true, Bool.or_eq_true]
  constructor
  · intro a x hx
    cases hw : inwin t long x with
    | false => exact .inl rfl
    | true =>
      have := a _ ⟨x, ⟨hx, hw⟩, rfl⟩
      exact .inr (by simpa using this)
  · rintro a k ⟨x, ⟨hx, hw⟩, rfl⟩
    have := a x hx
    rw [hw] at this
    simpa using this
theorem rfree_eq {l : List Plan} (h : Okl l) {p : Plan} (hp : Few p.Need) (total : Vec) {t long : Int} (ht : 0 ≤ t ∧ t ≤ 1000000) (hlg : 0 ≤ long ∧ long ≤ 1000) : dispatchref15_fits l total p t long = some (fits l total p t long) := by
  unfold dispatchref15_fits
  have hl := h.1
  have plus : ∀ k, dispatchref1_Plus (atV l p.Label k) p.Need = some (addV (atV l p.Label k) p.Need) := by
    intro k
    have hb := at_bd h p.Label k
    unfold Few at hp
    unfold dispatchref1_Plus
    rw [w64_id (by omega) (by omega), w64_id (by omega) (by omega)]
    rfl
  rw [rat_eq h]
  simp only [Option.bind_some]
  rw [plus]
  simp only [Option.bind_some]
  rw [prfits_eq]
  simp only [Option.bind_some]
  unfold fits
  show (bif !(okAt l total p t) then some false else _) = some (okAt l total p t && _)
  cases okAt l total p t with
  | false => rfl
  | true =>
    simp only [Bool.not_true, cond_false, Bool.true_and]
    rcases loop_all (dispatchref15_fits_l1 l total p t long) l.length (fun i => (l[i]?).elim true fun x => !(inwin t long x) || okAt l total p x.From) (fun i => .inl false) (.inr ()) (by
      intro k hk
      have hx := h.2 _ (List.getElem_mem hk)
      unfold Okp at hx
      unfold dispatchref15_fits_l1
      rw [decide_eq_true (by omega), step_succ (by omega), idx_lt hk]
      simp only [cond_true, Option.bind_some, List.getElem?_eq_getElem hk, Option.elim_some]
      rw [w64_id (by omega) (by omega), rat_eq h]
      simp only [Option.bind_some]
      rw [plus]
      simp only [Option.bind_some]
      rw [prfits_eq]
      simp only [Option.bind_some]
      have e1 : decide (l[k].From - t < long) = decide (l[k].From < t + long) := by
        rw [Bool.eq_iff_iff, decide_eq_true_eq, decide_eq_true_eq]
        omega
      rw [e1]
      show ((bif decide (l[k].From > t) then bif decide (l[k].From < t + long) then some (!(okAt l total p l[k].From)) else some false else some false).bind _) = _
      unfold inwin
      cases decide (l[k].From > t) <;> cases decide (l[k].From < t + long) <;> cases okAt l total p l[k].From <;> rfl) (by
      unfold dispatchref15_fits_l1
      rw [decide_eq_false (by omega)]
      rfl) with ⟨a, b⟩ | ⟨i, hi, a, b⟩
    · rw [b]
      have : (l.all fun x => !(inwin t long x) || okAt l total p x.From) = true := by
        rw [List.all_eq_true]
        intro x hx
        obtain ⟨i, hi, e⟩ := List.getElem_of_mem hx
        have := a i hi
        rw [List.getElem?_eq_getElem hi, e] at this
        exact this
      rw [this]
      rfl
    · rw [b]
      have : (l.all fun x => !(inwin t long x) || okAt l total p x.From) = false := by
        rw [List.all_eq_false]
        refine ⟨l[i], List.getElem_mem hi, ?_⟩
        rw [List.getElem?_eq_getElem hi] at a
        simpa using a
      rw [this]
      rfl
/-- a search: the first one of which 'p' does not hold -/
theorem loop_first {ρ : Type} (step : Int → Option (Int ⊕ ρ)) (n : Nat) (p : Nat → Bool) (bad : Nat → ρ) (good : ρ) (h1 : ∀ k : Nat, k < n → step k = some (bif p k then .inl ((k + 1 : Nat) : Int) else .inr (bad k))) (h2 : step (n : Int) = some (.inr good)) :
    ((∀ i, i < n → p i = true) ∧ loop step 0 = some good) ∨ ∃ i, i < n ∧ p i = false ∧ (∀ j, j < i → p j = true) ∧ loop step 0 = some (bad i) := by
  have key : ∀ (m k : Nat), m + k = n → ((∀ i, k ≤ i → i < n → p i = true) ∧ loop step (k : Int) = some good) ∨ ∃ i, k ≤ i ∧ i < n ∧ p i = false ∧ (∀ j, k ≤ j → j < i → p j = true) ∧ loop step (k : Int) = some (bad i) := by
    intro m
    induction m with
    | zero =>
      intro k hk
      have hk : k = n := by omega
      subst hk
      exact .inl ⟨fun i h1 h2 => by omega, by rw [loop_eq, h2]⟩
    | succ m ih =>
      intro k hk
      have hk' : k < n := by omega
      cases hp : p k with
      | true =>
        rw [loop_eq, h1 k hk', hp]
        simp only [cond_true]
        rcases ih (k + 1) (by omega) with ⟨a, b⟩ | ⟨i, a, b, c, d, e⟩
        · refine .inl ⟨fun i h1 h2 => ?_, b⟩
          by_cases e : i = k
          · subst e; exact hp
          · exact a i (by omega) h2
        · refine .inr ⟨i, by omega, b, c, fun j h1 h2 => ?_, e⟩
          by_cases e : j = k
          · subst e; exact hp
          · exact d j (by omega) h2
      | false =>
        refine .inr ⟨k, Nat.le_refl _, hk', hp, fun j h1 h2 => by omega, ?_⟩
        rw [loop_eq, h1 k hk', hp]
        rfl
  rcases key n 0 rfl with ⟨a, b⟩ | ⟨i, a, b, c, d, e⟩
  · exact .inl ⟨fun i hi => a i (by omega) hi, b⟩
  · exact .inr ⟨i, b, c, fun j hj => d j (by omega) hj, e⟩
/-- where a plan may begin -/
def cands (l : List Plan) (p : Plan) : List Int := p.From :: (l.filter fun x => decide (x.Until > p.From)).map (·.Until)
def goodT (l : List Plan) (total : Vec) (p : Plan) (long t : Int) : Bool := decide (t ≤ p.Until - long) && fits l total p t long
def Valid (p : Plan) (long : Int) : Prop := 1 ≤ long ∧ long ≤ 1000 ∧ 0 ≤ p.From ∧ p.From ≤ 1000000 ∧ 0 ≤ p.Until ∧ p.Until ≤ 1000000 ∧ Few p.Need
/-- the first of them -/
structure IsMin (l : List Plan) (total : Vec) (p : Plan) (long r : Int) : Prop where
  mem : r ∈ cands l p
  good : goodT l total p long r = true
  le : ∀ t ∈ cands l p, goodT l total p long t = true → r ≤ t
theorem cand_bd {l : List Plan} (h : Okl l) {p : Plan} {long : Int} (hv : Valid p long) : ∀ t ∈ cands l p, p.From ≤ t ∧ t ≤ 1000000 := by
  intro t ht
  unfold Valid at hv
  rcases List.mem_cons.1 ht with rfl | ht
  · omega
  · obtain ⟨x, hx, rfl⟩ := List.mem_map.1 ht
    have h1 := List.mem_filter.1 hx
    have := h.2 x h1.1
    unfold Okp at this
    have h2 := h1.2
    rw [decide_eq_true_eq] at h2
    omega
theorem pw_eq (n m : Int) : plan_within n m = some (decide (0 ≤ n ∧ n ≤ m)) := by
  unfold plan_within
  by_cases h : n ≥ 0
  · rw [decide_eq_true h]
    simp [h]
  · rw [decide_eq_false h]
    have : ¬ (0 ≤ n ∧ n ≤ m) := by omega
    simp [this]
theorem place_bad {l : List Plan} (total : Vec) {p : Plan} {long : Int} (hv : ¬ Valid p long) : plan_Place l total p long = some (0, 1) := by
  unfold plan_Place
  simp only [pw_eq, Option.bind_some]
  unfold Valid Few at hv
  by_cases h1 : long < 1
  · rw [decide_eq_true h1]; rfl
  rw [decide_eq_false h1]
  by_cases h2 : long > 1000
  · rw [decide_eq_true h2]; rfl
  rw [decide_eq_false h2]
  by_cases h3 : 0 ≤ p.From ∧ p.From ≤ 1000000
  rotate_left
  · rw [decide_eq_false h3]; rfl
  rw [decide_eq_true h3]
  by_cases h4 : 0 ≤ p.Until ∧ p.Until ≤ 1000000
  rotate_left
  · rw [decide_eq_false h4]; rfl
  rw [decide_eq_true h4]
  by_cases h5 : 0 ≤ p.Need.Mem ∧ p.Need.Mem ≤ 1073741824
  rotate_left
  · rw [decide_eq_false h5]; rfl
  rw [decide_eq_true h5]
  by_cases h6 : 0 ≤ p.Need.Cores ∧ p.Need.Cores ≤ 1073741824
  rotate_left
  · rw [decide_eq_false h6]; rfl
  exact absurd ⟨by omega, by omega, h3.1, h3.2, h4.1, h4.2, h5.1, h5.2, h6.1, h6.2⟩ hv
theorem place_eq {l : List Plan} (h : Okl l) (total : Vec) {p : Plan} {long : Int} (hv : Valid p long) :
    (∃ r, IsMin l total p long r ∧ plan_Place l total p long = some (r, 0)) ∨ ((∀ t ∈ cands l p, goodT l total p long t = false) ∧ plan_Place l total p long = some (0, 16)) := by
  have hl := h.1
  have hv' := hv
  unfold Valid Few at hv'
  have hcb := cand_bd h hv
  unfold plan_Place
  simp only [pw_eq, Option.bind_some]
  rw [decide_eq_false (show ¬ long < 1 by omega), decide_eq_false (show ¬ long > 1000 by omega), decide_eq_true (show 0 ≤ p.From ∧ p.From ≤ 1000000 by omega), decide_eq_true (show 0 ≤ p.Until ∧ p.Until ≤ 1000000 by omega), decide_eq_true (show 0 ≤ p.Need.Mem ∧ p.Need.Mem ≤ 1073741824 by omega), decide_eq_true (show 0 ≤ p.Need.Cores ∧ p.Need.Cores ≤ 1073741824 by omega)]
  simp only [cond_false, Bool.not_true, Option.bind_some]
  have mk1 : mkl 8 1 (w64 ((l.length : Int) + 1)) (0 : Int) = some [0] := by
    rw [w64_id (by omega) (by omega)]
    unfold mkl
    rw [if_pos]
    · rfl
    · unfold maxLen
      omega
  rw [mk1]
  simp only [Option.bind_some]
  have i0 : inb 0 ([0] : List Int).length = some 0 := rfl
  rw [i0]
  simp only [Option.bind_some, List.getElem?_cons_zero]
  have l1 : loop (plan_Place_l1 l p) (List.set [0] 0 p.From, 0) = some (cands l p) := by
    have len : ∀ k, ((l.take k).filter fun x => decide (x.Until > p.From)).length ≤ 100 := fun k => by
      have h1 := List.length_filter_le (fun x : Plan => decide (x.Until > p.From)) (l.take k)
      rw [List.length_take] at h1
      omega
    obtain ⟨v, e, hvv⟩ := loop_inv (fun (v : List Int) k => (v, k)) (plan_Place_l1 l p) l.length (fun k v => v = cands (l.take k) p) (fun v => v) (by
      rintro k hk v rfl
      refine ⟨cands (l.take (k + 1)) p, ?_, rfl⟩
      unfold plan_Place_l1 cands
      rw [decide_eq_true (by dsimp only; omega), step_succ (by omega)]
      dsimp only
      rw [idx_lt hk, List.take_succ_eq_append_getElem hk, List.filter_append, List.map_append]
      simp only [cond_true, Option.bind_some]
      cases hw : decide (l[k].Until > p.From) with
      | true =>
        have := len k
        rw [cond_true, app_ok (by simp only [List.length_append, List.length_cons, List.length_map, List.length_nil]; omega) (by omega)]
        simp only [List.filter_cons, hw, if_true, List.filter_nil, List.map_cons, List.map_nil, Option.bind_some, List.cons_append]
      | false => simp only [List.filter_cons, hw, Bool.false_eq_true, if_false, List.filter_nil, List.map_nil, List.append_nil, cond_false, Option.bind_some]) (by
      rintro v rfl
      unfold plan_Place_l1
      rw [decide_eq_false (by dsimp only; omega)]
      rfl) (s := List.set [0] 0 p.From) (by simp [cands])
    rw [e, hvv, List.take_length]
  rw [l1]
  simp only [Option.bind_some]
  have hcl : (cands l p).length ≤ 101 := by
    unfold cands
    have h1 := List.length_filter_le (fun x : Plan => decide (x.Until > p.From)) l
    simp only [List.length_cons, List.length_map]
    omega
  have hsort : slices_Sort___int_int_ (cands l p) = some ((cands l p).mergeSort fun x y => decide (x ≤ y)) := by
    unfold slices_Sort___int_int_ sortI
    rw [if_pos ⟨by unfold cands; simp, by omega⟩]
  rw [hsort]
  simp only [Option.bind_some]
  have hperm : ((cands l p).mergeSort fun x y => decide (x ≤ y)).Perm (cands l p) := List.mergeSort_perm _ _
  have hpw : ((cands l p).mergeSort fun x y => decide (x ≤ y)).Pairwise fun a b => decide (a ≤ b) = true := List.pairwise_mergeSort (fun a b c h1 h2 => by
    rw [decide_eq_true_eq] at *
    omega) (fun a b => by
    simp only [Bool.or_eq_true, decide_eq_true_eq]
    omega) _
  generalize ((cands l p).mergeSort fun x y => decide (x ≤ y)) = s at *
  have hsl : s.length ≤ 101 := by rw [hperm.length_eq]; exact hcl
  rcases loop_first (plan_Place_l2 l total p long s) s.length (fun i => !(goodT l total p long (s.getD i 0))) (fun i => .inl (s.getD i 0, 0)) (.inr ()) (by
    intro k hk
    have hm : s[k] ∈ cands l p := hperm.mem_iff.1 (List.getElem_mem hk)
    have hb := hcb _ hm
    unfold plan_Place_l2
    rw [decide_eq_true (by omega), step_succ (by omega), inb_lt hk]
    simp only [cond_true, Option.bind_some, List.getElem?_eq_getElem hk]
    have e1 : s.getD k 0 = s[k] := by simp [List.getD, hk]
    rw [e1, w64_id (by omega) (by omega), pfree_eq h hv.2.2.2.2.2.2 total (by omega) (by omega)]
    unfold goodT
    simp only [Option.bind_some]
    cases decide (s[k] ≤ p.Until - long) <;> cases fits l total p s[k] long <;> rfl) (by
    unfold plan_Place_l2
    rw [decide_eq_false (by omega)]
    rfl) with ⟨a, b⟩ | ⟨i, hi, a, c, b⟩
  · right
    rw [b]
    refine ⟨?_, rfl⟩
    intro t ht
    obtain ⟨j, hj, e⟩ := List.getElem_of_mem (hperm.mem_iff.2 ht)
    have := a j hj
    simpa [List.getD, hj, e] using this
  · left
    rw [b]
    have e1 : s.getD i 0 = s[i] := by simp [List.getD, hi]
    rw [e1] at a ⊢
    refine ⟨s[i], ⟨hperm.mem_iff.1 (List.getElem_mem hi), by simpa using a, ?_⟩, rfl⟩
    intro t ht hg
    obtain ⟨j, hj, e⟩ := List.getElem_of_mem (hperm.mem_iff.2 ht)
    by_cases hji : j < i
    · have := c j hji
      simp [List.getD, hj, e, hg] at this
    · by_cases hjj : j = i
      · subst hjj; rw [e]; exact Int.le_refl _
      · have := List.pairwise_iff_getElem.1 hpw i j hi hj (by omega)
        rw [decide_eq_true_eq, e] at this
        exact this
theorem IsMin.uniq {l : List Plan} {total : Vec} {p : Plan} {long r r' : Int} (h : IsMin l total p long r) (h' : IsMin l total p long r') : r = r' := by
  have := h.le r' h'.mem h'.good
  have := h'.le r h.mem h.good
  omega
def rc' (l : List Plan) (p : Plan) : List Int := p.From :: l.map (·.Until)
theorem rc_cands {l : List Plan} {p : Plan} {t : Int} : t ∈ cands l p ↔ t ∈ rc' l p ∧ p.From ≤ t := by
  unfold cands rc'
  simp only [List.mem_cons, List.mem_map, List.mem_filter, decide_eq_true_eq]
  constructor
  · rintro (rfl | ⟨x, ⟨hx, h⟩, rfl⟩)
    · exact ⟨.inl rfl, Int.le_refl _⟩
    · exact ⟨.inr ⟨x, hx, rfl⟩, by omega⟩
  · rintro ⟨rfl | ⟨x, hx, rfl⟩, h⟩
    · exact .inl rfl
    · by_cases e : x.Until = p.From
      · exact .inl e
      · exact .inr ⟨x, ⟨hx, by omega⟩, rfl⟩
theorem rpart_eq (n : Int) : dispatchref15_part n = some (decide (0 ≤ n ∧ n ≤ 1073741824)) := by
  unfold dispatchref15_part
  by_cases h : n ≥ 0
  · rw [decide_eq_true h]
    simp [h]
  · rw [decide_eq_false h]
    have : ¬ (0 ≤ n ∧ n ≤ 1073741824) := by omega
    simp [this]
theorem rplace_bad {l : List Plan} (total : Vec) {p : Plan} {long : Int} (hv : ¬ Valid p long) : dispatchref15_Place l total p long = some (0, 1) := by
  unfold dispatchref15_Place
  simp only [rpart_eq, Option.bind_some]
  unfold Valid Few at hv
  by_cases h1 : long < 1
  · rw [decide_eq_true h1]; rfl
  rw [decide_eq_false h1]
  by_cases h2 : long > 1000
  · rw [decide_eq_true h2]; rfl
  rw [decide_eq_false h2]
  by_cases h3 : p.From < 0
  · rw [decide_eq_true h3]; rfl
  rw [decide_eq_false h3]
  by_cases h3' : p.From > 1000000
  · rw [decide_eq_true h3']; rfl
  rw [decide_eq_false h3']
  by_cases h4 : p.Until < 0
  · rw [decide_eq_true h4]; rfl
  rw [decide_eq_false h4]
  by_cases h4' : p.Until > 1000000
  · rw [decide_eq_true h4']; rfl
  rw [decide_eq_false h4']
  by_cases h5 : 0 ≤ p.Need.Mem ∧ p.Need.Mem ≤ 1073741824
  rotate_left
  · rw [decide_eq_false h5]; rfl
  rw [decide_eq_true h5]
  by_cases h6 : 0 ≤ p.Need.Cores ∧ p.Need.Cores ≤ 1073741824
  rotate_left
  · rw [decide_eq_false h6]; rfl
  exact absurd ⟨by omega, by omega, by omega, by omega, by omega, by omega, h5.1, h5.2, h6.1, h6.2⟩ hv
theorem rplace_eq {l : List Plan} (h : Okl l) (total : Vec) {p : Plan} {long : Int} (hv : Valid p long) :
    (∃ r, IsMin l total p long r ∧ dispatchref15_Place l total p long = some (r, 0)) ∨ ((∀ t ∈ cands l p, goodT l total p long t = false) ∧ dispatchref15_Place l total p long = some (0, 16)) := by
  have hl := h.1
  have hv' := hv
  unfold Valid Few at hv'
  unfold dispatchref15_Place
  simp only [rpart_eq, Option.bind_some]
  rw [decide_eq_false (show ¬ long < 1 by omega), decide_eq_false (show ¬ long > 1000 by omega), decide_eq_false (show ¬ p.From < 0 by omega), decide_eq_false (show ¬ p.From > 1000000 by omega), decide_eq_false (show ¬ p.Until < 0 by omega), decide_eq_false (show ¬ p.Until > 1000000 by omega), decide_eq_true (show 0 ≤ p.Need.Mem ∧ p.Need.Mem ≤ 1073741824 by omega), decide_eq_true (show 0 ≤ p.Need.Cores ∧ p.Need.Cores ≤ 1073741824 by omega)]
  simp only [cond_false, Bool.not_true, Option.bind_some]
  have hrl : (rc' l p).length = l.length + 1 := by simp [rc']
  have rb : ∀ t ∈ rc' l p, 0 ≤ t ∧ t ≤ 1000000 := by
    intro t ht
    rcases List.mem_cons.1 ht with rfl | ht
    · omega
    · obtain ⟨x, hx, rfl⟩ := List.mem_map.1 ht
      have := h.2 x hx
      unfold Okp at this
      omega
  obtain ⟨v, e, hvv⟩ := loop_inv (fun (v : Int) k => (v, k - 1)) (dispatchref15_Place_l1 l total p long) (l.length + 1)
    (fun m v => (v = -1 ∧ ∀ t ∈ (rc' l p).take m, p.From ≤ t → goodT l total p long t = false) ∨ (v ∈ (rc' l p).take m ∧ p.From ≤ v ∧ goodT l total p long v = true ∧ ∀ t ∈ (rc' l p).take m, p.From ≤ t → goodT l total p long t = true → v ≤ t)) (fun v => v) (by
    intro m hm v hvm
    have hmr : m < (rc' l p).length := by omega
    have htb := rb _ (List.getElem_mem hmr)
    have hval : (bif decide ((m : Int) - 1 ≥ 0) then (idx l ((m : Int) - 1)).bind fun x2 => some x2.Until else some p.From) = some (rc' l p)[m] := by
      cases m with
      | zero => rfl
      | succ m =>
        rw [decide_eq_true (by omega), show ((m + 1 : Nat) : Int) - 1 = (m : Int) by omega, idx_lt (by omega)]
        simp [rc']
    have gv : (bif decide ((rc' l p)[m] ≥ p.From) then bif decide ((rc' l p)[m] ≤ 1000000) then bif decide ((w64 ((rc' l p)[m] + long)) ≤ p.Until) then bif decide (v < 0) then (dispatchref15_fits l total p (rc' l p)[m] long).bind fun x3 => some x3 else bif decide ((rc' l p)[m] < v) then (dispatchref15_fits l total p (rc' l p)[m] long).bind fun x4 => some x4 else some false else some false else some false else some false : Option Bool) =
        some (decide (p.From ≤ (rc' l p)[m]) && (goodT l total p long (rc' l p)[m] && (decide (v < 0) || decide ((rc' l p)[m] < v)))) := by
      rw [decide_eq_true htb.2, w64_id (by omega) (by omega), rfree_eq h hv.2.2.2.2.2.2 total htb (by omega)]
      unfold goodT
      have e1 : decide ((rc' l p)[m] + long ≤ p.Until) = decide ((rc' l p)[m] ≤ p.Until - long) := by
        rw [Bool.eq_iff_iff, decide_eq_true_eq, decide_eq_true_eq]
        omega
      rw [e1]
      show (bif decide (p.From ≤ (rc' l p)[m]) then _ else _) = _
      cases decide (p.From ≤ (rc' l p)[m]) <;> cases decide ((rc' l p)[m] ≤ p.Until - long) <;> cases decide (v < 0) <;> cases decide ((rc' l p)[m] < v) <;> cases fits l total p (rc' l p)[m] long <;> rfl
    have hstep : dispatchref15_Place_l1 l total p long (v, (m : Int) - 1) = some (.inl ((bif decide (p.From ≤ (rc' l p)[m]) && (goodT l total p long (rc' l p)[m] && (decide (v < 0) || decide ((rc' l p)[m] < v))) then (rc' l p)[m] else v), ((m + 1 : Nat) : Int) - 1)) := by
      unfold dispatchref15_Place_l1
      dsimp only
      rw [decide_eq_true (by omega), hval]
      simp only [cond_true, Option.bind_some]
      rw [gv]
      simp only [Option.bind_some]
      rw [show w64 ((m : Int) - 1 + 1) = ((m + 1 : Nat) : Int) - 1 by rw [w64_id (by omega) (by omega)]; omega]
      cases (decide (p.From ≤ (rc' l p)[m]) && (goodT l total p long (rc' l p)[m] && (decide (v < 0) || decide ((rc' l p)[m] < v)))) <;> rfl
    refine ⟨_, hstep, ?_⟩
    rw [List.take_succ_eq_append_getElem hmr]
    generalize (rc' l p)[m] = t1 at *
    cases hg : (decide (p.From ≤ t1) && (goodT l total p long t1 && (decide (v < 0) || decide (t1 < v)))) with
    | true =>
      simp only [Bool.and_eq_true, Bool.or_eq_true, decide_eq_true_eq] at hg
      refine .inr ⟨by simp, hg.1, hg.2.1, ?_⟩
      intro t ht hf hgt
      rcases List.mem_append.1 ht with ht | ht
      · rcases hvm with ⟨rfl, a⟩ | ⟨a, b, c, d⟩
        · rw [a t ht hf] at hgt; cases hgt
        · have := d t ht hf hgt
          have : 0 ≤ v := by omega
          show t1 ≤ t
          omega
      · rw [List.mem_singleton] at ht
        subst ht
        exact Int.le_refl _
    | false =>
      simp only [cond_false]
      rcases hvm with ⟨rfl, a⟩ | ⟨a, b, c, d⟩
      · refine .inl ⟨rfl, ?_⟩
        intro t ht hf
        rcases List.mem_append.1 ht with ht | ht
        · exact a t ht hf
        · rw [List.mem_singleton] at ht
          subst ht
          cases hgt : goodT l total p long t with
          | false => rfl
          | true => rw [decide_eq_true hf, hgt] at hg; cases hg
      · refine .inr ⟨by simp [a], b, c, ?_⟩
        intro t ht hf hgt
        rcases List.mem_append.1 ht with ht | ht
        · exact d t ht hf hgt
        · rw [List.mem_singleton] at ht
          subst ht
          rw [decide_eq_true hf, hgt] at hg
          simp at hg
          omega) (by
    rintro v _
    unfold dispatchref15_Place_l1
    dsimp only
    rw [decide_eq_false (by omega)]
    rfl) (s := -1) (.inl ⟨rfl, by simp⟩)
  rw [show ((-1 : Int), (-1 : Int)) = (-1, 0 - 1) from rfl, e]
  simp only [Option.bind_some]
  rw [List.take_of_length_le (by omega)] at hvv
  rcases hvv with ⟨rfl, a⟩ | ⟨a, b, c, d⟩
  · right
    refine ⟨?_, rfl⟩
    intro t ht
    have := rc_cands.1 ht
    exact a t this.1 this.2
  · left
    rw [decide_eq_false (by omega)]
    refine ⟨v, ⟨rc_cands.2 ⟨a, b⟩, c, ?_⟩, rfl⟩
    intro t ht hg
    have := rc_cands.1 ht
    exact d t this.1 this.2 hg
theorem both_place {l : List Plan} (h : Okl l) (total : Vec) (p : Plan) (long : Int) : ∃ r e, plan_Place l total p long = some (r, e) ∧ dispatchref15_Place l total p long = some (r, e) := by
  by_cases hv : Valid p long
  · rcases place_eq h total hv with ⟨r, h1, h2⟩ | ⟨h1, h2⟩
    · rcases rplace_eq h total hv with ⟨r', k1, k2⟩ | ⟨k1, k2⟩
      · rw [h1.uniq k1] at h2
        exact ⟨r', 0, h2, k2⟩
      · have := k1 r h1.mem
        rw [h1.good] at this
        cases this
    · rcases rplace_eq h total hv with ⟨r', k1, k2⟩ | ⟨k1, k2⟩
      · have := h1 r' k1.mem
        rw [k1.good] at this
        cases this
      · exact ⟨0, 16, h2, k2⟩
  · exact ⟨0, 1, place_bad total hv, rplace_bad total hv⟩
/-- where a plan of a number stands -/
def placeK (l : List Plan) (id : Int) : Nat := (l.takeWhile fun x => decide (x.Id < id)).length
theorem takeWhile_get {α : Type} (p : α → Bool) : ∀ (l : List α) (k : Nat), k < (l.takeWhile p).length → ∃ h : k < l.length, p l[k] = true
  | [], k, h => by simp at h
  | x :: l, k, h => by
    rw [List.takeWhile_cons] at h
    split at h
    · rename_i hx
      cases k with
      | zero => exact ⟨by simp, hx⟩
      | succ k =>
        obtain ⟨h1, h2⟩ := takeWhile_get p l k (by simpa using h)
        exact ⟨by simpa using h1, by simpa using h2⟩
    · simp at h
theorem takeWhile_stop {α : Type} (p : α → Bool) : ∀ (l : List α) (h : (l.takeWhile p).length < l.length), p l[(l.takeWhile p).length] = false
  | [], h => by simp at h
  | x :: l, h => by
    by_cases hx : p x = true
    · have e : (List.takeWhile p (x :: l)).length = (l.takeWhile p).length + 1 := by rw [List.takeWhile_cons, if_pos hx]; rfl
      have h' : (l.takeWhile p).length < l.length := by rw [e] at h; simpa using h
      have := takeWhile_stop p l h'
      simp only [e, List.getElem_cons_succ]
      exact this
    · have e : (List.takeWhile p (x :: l)).length = 0 := by rw [List.takeWhile_cons, if_neg hx]; rfl
      simp only [e, List.getElem_cons_zero]
      simpa using hx
theorem placeK_le (l : List Plan) (id : Int) : placeK l id ≤ l.length := by
  unfold placeK
  exact (List.takeWhile_sublist _).length_le
theorem add_l1 {s : State} (p : Plan) (h : s.Plans.length ≤ 1000) : loop (plan_Add_l1 p s) 0 = some (placeK s.Plans p.Id : Int) := by
  have hle := placeK_le s.Plans p.Id
  obtain ⟨v, e, _⟩ := loop_inv (fun (_ : Unit) k => k) (plan_Add_l1 p s) (placeK s.Plans p.Id) (fun _ _ => True) (fun _ => (placeK s.Plans p.Id : Int)) (by
    intro k hk _ _
    refine ⟨(), ?_, trivial⟩
    obtain ⟨h1, h2⟩ := takeWhile_get _ s.Plans k hk
    unfold plan_Add_l1
    rw [decide_eq_true (by omega), inb_lt h1]
    simp only [cond_true, Option.bind_some, List.getElem?_eq_getElem h1]
    rw [h2, step_succ (by omega)]
    rfl) (by
    intro _ _
    unfold plan_Add_l1
    by_cases hlt : placeK s.Plans p.Id < s.Plans.length
    · have := takeWhile_stop _ s.Plans hlt
      rw [decide_eq_true (by omega), inb_lt hlt]
      simp only [cond_true, Option.bind_some, List.getElem?_eq_getElem hlt]
      have e : decide (s.Plans[placeK s.Plans p.Id].Id < p.Id) = false := this
      rw [e]
      rfl
    · rw [decide_eq_false (by omega)]
      rfl) (s := ()) trivial
  exact e
theorem contains_plan {s : List Plan} (hs : s.length ≤ 1000) (f : TupT fam [.st 9] → Option Bool) (g : Plan → Bool) (hg : ∀ k, f (k, ()) = some (g k)) : api_Plan__103 s f = some (s.any g) := by
  unfold api_Plan__103 api_Plan__108
  rcases loop_all (api_Plan__108_l1 s f) s.length (fun i => !(g (s.getD i ⟨0, 0, 0, 0, ⟨0, 0⟩⟩))) (fun i => .inl (i : Int)) (.inr ()) (by
    intro k hk
    unfold api_Plan__108_l1
    rw [decide_eq_true (by omega), step_succ (by omega), idx_lt hk]
    have : s.getD k ⟨0, 0, 0, 0, ⟨0, 0⟩⟩ = s[k] := by simp [List.getD, hk]
    rw [this]
    simp only [cond_true, Option.bind_some, hg]
    cases g s[k] <;> rfl) (by
    unfold api_Plan__108_l1
    rw [decide_eq_false (by omega)]
    rfl) with ⟨a, b⟩ | ⟨i, hi, a, b⟩
  · rw [b]
    have : s.any g = false := by
      rw [List.any_eq_false]
      intro x hx
      obtain ⟨i, hi, e⟩ := List.getElem_of_mem hx
      have := a i hi
      simpa [List.getD, hi, e] using this
    rw [this]
    rfl
  · rw [b]
    have : s.any g = true := by
      rw [List.any_eq_true]
      exact ⟨s[i], List.getElem_mem hi, by simpa [List.getD, hi] using a⟩
    rw [this]
    simp
/-- a state with another calendar -/
def withP (s : State) (l : List Plan) : State := ⟨s.Conf, s.Nodes, s.Apps, s.Conts, s.Slots, l, s.Now, s.Epoch, s.Seq⟩
/-- a calendar with one more -/
def insP (l : List Plan) (k : Nat) (x : Plan) : List Plan := l.take k ++ x :: l.drop k
def badP (s : State) (p : Plan) : Bool := !(decide (0 ≤ p.Id ∧ p.Id ≤ 999)) || !(decide (0 ≤ p.Label ∧ p.Label ≤ (s.Conf.Labels.length : Int) - 1)) || (p.Need.Mem == 0 && p.Need.Cores == 0)
theorem inS_ok {a b n : Nat} (h1 : a ≤ b) (h2 : b ≤ n) : inS (a : Int) (b : Int) n = some (a, b - a) := by
  unfold inS
  rw [if_pos ⟨by omega, by omega, by omega⟩]
  simp
theorem inS_ok0 {b n : Nat} (h2 : b ≤ n) : inS 0 (b : Int) n = some (0, b) := inS_ok (Nat.zero_le _) h2
theorem ins_text {l : List Plan} {k : Nat} (hk : k ≤ l.length) (x z : Plan) :
    cpy (List.set (cpy (List.replicate (l.length + 1) z) 0 (List.replicate (l.length + 1) z).length (sub l 0 k)) k x) (k + 1) (l.length + 1 - (k + 1)) (sub l k (l.length - k)) = insP l k x := by
  unfold cpy sub insP
  simp only [List.drop_zero, Nat.sub_zero, List.length_replicate, List.take_zero, List.nil_append, Nat.zero_add, List.length_take, Nat.min_eq_left hk]
  have e1 : List.take (l.length + 1) (List.take k l) = List.take k l := List.take_of_length_le (by simp; omega)
  have e2 : min (l.length + 1) k = k := by omega
  rw [e1, e2]
  have e3 : List.drop k (List.replicate (l.length + 1) z) = z :: List.replicate (l.length - k) z := by
    rw [List.drop_replicate, show l.length + 1 - k = (l.length - k) + 1 by omega]
    rfl
  rw [e3]
  have e4 : List.set (List.take k l ++ z :: List.replicate (l.length - k) z) k x = List.take k l ++ x :: List.replicate (l.length - k) z := by
    rw [List.set_append_right _ _ (by simp; omega)]
    simp [Nat.min_eq_left hk]
  rw [e4]
  have hl1 : (List.take k l).length = k := by simp [hk]
  have e5 : List.take (k + 1) (List.take k l ++ x :: List.replicate (l.length - k) z) = List.take k l ++ [x] := by
    rw [List.take_append, hl1, show k + 1 - k = 1 by omega]
    rw [List.take_of_length_le (by omega)]
    rfl
  rw [e5, List.take_of_length_le (l := List.take (l.length - k) (List.drop k l)) (by simp)]
  rw [List.take_of_length_le (l := List.drop k l) (by simp)]
  have e6 : ∀ m, l.length + 1 ≤ m → List.drop m (List.take k l ++ x :: List.replicate (l.length - k) z) = [] := by
    intro m hm
    apply List.drop_of_length_le
    simp
    omega
  rw [e6 _ (by simp; omega)]
  simp
theorem add_eq {s : State} (h : Small s) (p : Plan) (long : Int) {V : Vec} (hv : share_Total s p.Label = some V) :
    plan_Add s p long = if badP s p then some (s, 0, 1) else if s.Plans.any (fun x => x.Id == p.Id) then some (s, 0, 7) else if 12 ≤ s.Plans.length then some (s, 0, 4) else if p.From < s.Now then some (s, 0, 15) else
      (plan_Place s.Plans V p long).bind fun r => if r.2 ≠ 0 then some (s, 0, r.2) else some (withP s (insP s.Plans (placeK s.Plans p.Id) ⟨p.Id, p.Label, r.1, w64 (r.1 + long), p.Need⟩), r.1, 0) := by
  have hp := h.plans
  have hlb := h.labels
  have hk := placeK_le s.Plans p.Id
  unfold plan_Add
  rw [lose_eq h]
  simp only [Option.bind_some]
  rw [add_l1 p hp]
  simp only [Option.bind_some, pw_eq]
  rw [w64_id (x := (s.Conf.Labels.length : Int) - 1) (by omega) (by omega)]
  have hb : (bif !decide (0 ≤ p.Id ∧ p.Id ≤ 999) then some true else bif !decide (0 ≤ p.Label ∧ p.Label ≤ (s.Conf.Labels.length : Int) - 1) then some true else some ((p.Need.Mem == 0) && (p.Need.Cores == 0)) : Option Bool) = some (badP s p) := by
    unfold badP
    cases decide (0 ≤ p.Id ∧ p.Id ≤ 999) <;> cases decide (0 ≤ p.Label ∧ p.Label ≤ (s.Conf.Labels.length : Int) - 1) <;> rfl
  rw [hb]
  simp only [Option.bind_some]
  cases badP s p with
  | true => rfl
  | false =>
    simp only [cond_false, Bool.false_eq_true, if_false]
    rw [contains_plan (by omega) _ (fun x => x.Id == p.Id) (fun k => rfl)]
    simp only [Option.bind_some]
    cases s.Plans.any (fun x => x.Id == p.Id) with
    | true => rfl
    | false =>
      simp only [cond_false, Bool.false_eq_true, if_false]
      by_cases h12 : 12 ≤ s.Plans.length
      · rw [decide_eq_true (by omega), if_pos h12]
        rfl
      · rw [decide_eq_false (by omega), if_neg h12]
        simp only [cond_false]
        by_cases hnow : p.From < s.Now
        · rw [decide_eq_true hnow, if_pos hnow]
          rfl
        · rw [decide_eq_false hnow, if_neg hnow, hv]
          simp only [cond_false, Option.bind_some]
          cases plan_Place s.Plans V p long with
          | none => rfl
          | some r =>
            simp only [Option.bind_some]
            by_cases hr : r.2 = 0
            · rw [hr, if_neg (by simp)]
              simp only [bne_self_eq_false, cond_false]
              have e0 : w64 ((s.Plans.length : Int) + 1) = ((s.Plans.length + 1 : Nat) : Int) := step_succ (by omega)
              rw [e0, mkl_ok (by omega) (by omega)]
              simp only [Option.bind_some]
              rw [inS_ok0 hk]
              simp only [Option.bind_some]
              have hln : (cpy (List.replicate (s.Plans.length + 1) (⟨0, 0, 0, 0, ⟨0, 0⟩⟩ : Plan)) 0 (List.replicate (s.Plans.length + 1) (⟨0, 0, 0, 0, ⟨0, 0⟩⟩ : Plan)).length (sub s.Plans 0 (placeK s.Plans p.Id))).length = s.Plans.length + 1 := by
                unfold cpy sub
                simp
                omega
              rw [inb_lt (by rw [hln]; omega)]
              simp only [Option.bind_some]
              rw [List.getElem?_eq_getElem (by rw [hln]; omega)]
              simp only [Option.bind_some, List.length_set, hln]
              rw [step_succ (by omega), inS_ok (by omega) (by omega)]
              simp only [Option.bind_some]
              rw [inS_ok hk (Nat.le_refl _)]
              simp only [Option.bind_some]
              have := ins_text hk (⟨p.Id, p.Label, r.1, w64 (r.1 + long), ⟨p.Need.Mem, p.Need.Cores⟩⟩ : Plan) (⟨0, 0, 0, 0, ⟨0, 0⟩⟩ : Plan)
              rw [this]
              rfl
            · rw [if_pos hr]
              have : (r.2 != 0) = true := by simpa using hr
              rw [this]
              rfl
theorem Inv.okl {N : Nat} {s : State} (h : Inv N s) : Okl s.Plans := by
  refine ⟨by have := h.pl; omega, fun p hp => ?_⟩
  obtain ⟨⟨k1, k2⟩, k3, k4⟩ := h.pk p hp
  exact ⟨k3.1, k3.2, k4.1, k4.2, k1.1, k1.2, k2.1, k2.2⟩
theorem placeK_app (l : List Plan) (x : Plan) (id : Int) (h : (l ++ [x]).Pairwise fun a b => a.Id < b.Id) : placeK (l ++ [x]) id = if x.Id < id then l.length + 1 else placeK l id := by
  unfold placeK
  rw [List.takeWhile_append]
  have hp := List.pairwise_append.1 h
  split
  · rename_i e
    rw [List.takeWhile_cons]
    by_cases hx : x.Id < id
    · rw [if_pos hx, decide_eq_true hx]; simp
    · rw [if_neg hx, decide_eq_false hx]
      simp only [Bool.false_eq_true, if_false, List.append_nil]
      exact e.symm
  · rename_i e
    by_cases hx : x.Id < id
    · exfalso
      apply e
      have all : ∀ m : List Plan, (∀ y ∈ m, y.Id < id) → m.takeWhile (fun x => decide (x.Id < id)) = m := by
        intro m
        induction m with
        | nil => intro _; rfl
        | cons y m ih => intro hm; rw [List.takeWhile_cons, decide_eq_true (hm y (by simp)), if_pos rfl, ih fun z hz => hm z (by simp [hz])]
      rw [all]
      intro y hy
      have := hp.2.2 y hy x (by simp)
      omega
    · rw [if_neg hx]
/-- the document's plan is added -/
theorem rAdd_eq {N : Nat} {s : State} (h : Inv N s) (p : Plan) (long : Int) :
    dispatchref15_Add s p long = if badP s p then some (s, 0, 1) else if s.Plans.any (fun x => x.Id == p.Id) then some (s, 0, 7) else if 12 ≤ s.Plans.length then some (s, 0, 4) else if p.From < s.Now then some (s, 0, 15) else
      (dispatchref15_Place s.Plans (pTotal s p.Label) p long).bind fun r => if r.2 ≠ 0 then some (s, 0, r.2) else some (withP s (insP s.Plans (placeK s.Plans p.Id) ⟨p.Id, p.Label, r.1, w64 (r.1 + long), p.Need⟩), r.1, 0) := by
  have hpl := h.pl
  unfold dispatchref15_Add
  have hb : (bif decide (p.Id < 0) then some true else bif decide (p.Id > 999) then some true else bif decide (p.Label < 0) then some true else bif decide (p.Label ≥ (s.Conf.Labels.length : Int)) then some true else some ((p.Need.Mem == 0) && (p.Need.Cores == 0)) : Option Bool) = some (badP s p) := by
    unfold badP
    have e1 : decide (0 ≤ p.Id ∧ p.Id ≤ 999) = (!(decide (p.Id < 0)) && !(decide (p.Id > 999))) := by rw [Bool.eq_iff_iff]; simp
    have e2 : decide (0 ≤ p.Label ∧ p.Label ≤ (s.Conf.Labels.length : Int) - 1) = (!(decide (p.Label < 0)) && !(decide (p.Label ≥ (s.Conf.Labels.length : Int)))) := by rw [Bool.eq_iff_iff]; simp; omega
    rw [e1, e2]
    cases decide (p.Id < 0) <;> cases decide (p.Id > 999) <;> cases decide (p.Label < 0) <;> cases decide (p.Label ≥ (s.Conf.Labels.length : Int)) <;> rfl
  rw [hb, Option.bind_some]
  cases badP s p with
  | true => rfl
  | false =>
    simp only [cond_false, Bool.false_eq_true, if_false]
    have hl := gv_for (Q := fun r => if s.Plans.any (fun x => x.Id == p.Id) then r = (.inl (s, 0, 7) : (State × Int × Int) ⊕ (State × Int)) else ∃ t, r = .inr (t, (placeK s.Plans p.Id : Int))) (fun (t : State × Int) i => (t.1, t.2, i)) s.Plans.length
      (fun j t => t.2 = (placeK (s.Plans.take j) p.Id : Int) ∧ (s.Plans.take j).any (fun x => x.Id == p.Id) = false) (step := dispatchref15_Add_l1 s p) (by omega) ?_ ?_
      (s := ((⟨⟨[], []⟩, [], [], [], [], [], 0, 0, 0⟩ : State), (0 : Int))) ⟨rfl, rfl⟩
    · obtain ⟨r, e, hr⟩ := hl
      have e' : loop (dispatchref15_Add_l1 s p) ((⟨⟨[], []⟩, [], [], [], [], [], 0, 0, 0⟩ : State), 0, 0) = some r := e
      rw [e', Option.bind_some]
      cases ha : s.Plans.any (fun x => x.Id == p.Id) with
      | true =>
        rw [ha] at hr
        simp only [if_true] at hr
        subst hr
        rfl
      | false =>
        rw [ha] at hr
        simp only [Bool.false_eq_true, if_false] at hr
        obtain ⟨t, rfl⟩ := hr
        simp only [Bool.false_eq_true, if_false]
        have hk := placeK_le s.Plans p.Id
        by_cases h12 : 12 ≤ s.Plans.length
        · rw [decide_eq_true (by omega), if_pos h12]; rfl
        · rw [decide_eq_false (by omega), if_neg h12]
          simp only [cond_false]
          by_cases hnow : p.From < s.Now
          · rw [decide_eq_true hnow, if_pos hnow]; rfl
          · rw [decide_eq_false hnow, if_neg hnow, total_eq h.sb]
            simp only [cond_false, Option.bind_some]
            cases dispatchref15_Place s.Plans (pTotal s p.Label) p long with
            | none => rfl
            | some r =>
              simp only [Option.bind_some]
              by_cases hr : r.2 = 0
              · rw [hr, if_neg (by simp)]
                simp only [bne_self_eq_false, cond_false]
                have s1 : slc s.Plans 0 (placeK s.Plans p.Id : Int) = some (s.Plans.take (placeK s.Plans p.Id)) := by
                  unfold slc
                  rw [if_pos ⟨by omega, by omega, by omega⟩]
                  simp
                have s2 : slc s.Plans (placeK s.Plans p.Id : Int) (s.Plans.length : Int) = some (s.Plans.drop (placeK s.Plans p.Id)) := by
                  unfold slc
                  rw [if_pos ⟨by omega, by omega, by omega⟩]
                  simp
                rw [s1, Option.bind_some, app_some (by simp; omega) (by omega), Option.bind_some, app_some (by simp; omega) (by omega), Option.bind_some, s2, Option.bind_some, app_some (by simp; omega) (by omega), Option.bind_some]
                unfold withP insP
                simp
              · rw [if_pos hr]
                have : (r.2 != 0) = true := by simpa using hr
                rw [this]
                rfl
    · rintro j hj ⟨t, k⟩ ⟨rfl, hn⟩
      have hn2 : (s.Plans.take (j + 1)).any (fun x => x.Id == p.Id) = (s.Plans[j].Id == p.Id) := by
        rw [List.take_succ_eq_append_getElem hj, List.any_append, hn]; simp
      have hsub : (s.Plans.take j ++ [s.Plans[j]]).Pairwise fun a b => a.Id < b.Id := by
        rw [← List.take_succ_eq_append_getElem hj]; exact h.ps.sublist (List.take_sublist _ _)
      have hpk := placeK_app (s.Plans.take j) s.Plans[j] p.Id hsub
      rw [← List.take_succ_eq_append_getElem hj] at hpk
      have htl : (s.Plans.take j).length = j := by rw [List.length_take]; omega
      unfold dispatchref15_Add_l1
      dsimp only
      rw [dlt_t hj, cond_true, idx_at hj, Option.bind_some, Option.bind_some]
      cases hx : (s.Plans[j].Id == p.Id) with
      | true =>
        have ha : s.Plans.any (fun x => x.Id == p.Id) = true := List.any_eq_true.2 ⟨_, List.getElem_mem hj, hx⟩
        refine gv_eq (a := .inr (.inl (s, 0, 7))) ?_ (.inr ⟨_, rfl, ?_⟩)
        · rfl
        · rw [ha]; rfl
      | false =>
        rw [cond_false]
        by_cases hlt : s.Plans[j].Id < p.Id
        · rw [decide_eq_true hlt, cond_true]
          refine gv_eq (a := .inl (t, w64 ((j : Int) + 1), w64 ((j : Int) + 1))) ?_ (.inl ⟨(t, w64 ((j : Int) + 1)), rfl, ?_, ?_⟩)
          · rfl
          · dsimp only
            rw [hpk, if_pos hlt, htl, w64_id (by omega) (by omega)]
            rfl
          · rw [hn2, hx]
        · rw [decide_eq_false hlt, cond_false]
          refine gv_eq (a := .inl (t, (placeK (s.Plans.take j) p.Id : Int), w64 ((j : Int) + 1))) ?_ (.inl ⟨(t, (placeK (s.Plans.take j) p.Id : Int)), rfl, ?_, ?_⟩)
          · rfl
          · dsimp only
            rw [hpk, if_neg hlt]
          · rw [hn2, hx]
    · rintro ⟨t, k⟩ ⟨rfl, hn⟩
      rw [List.take_length] at hn
      unfold dispatchref15_Add_l1
      dsimp only
      rw [dlt_f, cond_false]
      refine gv_eq (a := .inr (.inr (t, _))) rfl ⟨_, rfl, ?_⟩
      rw [hn, List.take_length]
      exact ⟨t, rfl⟩
/-- both are the same -/
theorem adds_eq {N : Nat} {s : State} (h : Inv N s) (hN : N ≤ 1000000) (p : Plan) (long : Int) : plan_Add s p long = dispatchref15_Add s p long := by
  obtain ⟨r, e, h1, h2⟩ := both_place h.okl (pTotal s p.Label) p long
  rw [add_eq (h.small hN) p long (sTotal_eq h.sc p.Label), rAdd_eq h, h1, h2]
theorem index_plan (l : List Plan) (hl : l.length ≤ 1000) (f : TupT fam [.st 9] → Option Bool) (g : Plan → Bool) (hg : ∀ k, f (k, ()) = some (g k)) :
    (∃ k, ∃ (hk : k < l.length), l.find? g = some l[k] ∧ api_Plan__108 l f = some (k : Int)) ∨ (l.find? g = none ∧ api_Plan__108 l f = some (-1)) := by
  unfold api_Plan__108
  have e := loop_findI (fun i => i) l g (fun i => (.inl i : Int ⊕ Unit)) (.inr ()) (step := api_Plan__108_l1 l f) (by omega) ?_ ?_ ?_
  · rcases e with ⟨k, hk, e1, e2⟩ | ⟨e1, e2⟩
    · exact .inl ⟨k, hk, e1, by rw [e2]; rfl⟩
    · exact .inr ⟨e1, by rw [e2]; rfl⟩
  · intro k hk hf
    unfold api_Plan__108_l1
    rw [dlt_t hk, idx_at hk]
    simp only [cond_true, Option.bind_some, hg, hf, cond_false]
  · intro k hk hf
    unfold api_Plan__108_l1
    rw [dlt_t hk, idx_at hk]
    simp only [cond_true, Option.bind_some, hg, hf]
  · unfold api_Plan__108_l1
    rw [dlt_f]
    rfl
theorem filter_one {l : List Plan} (h : l.Pairwise fun a b => a.Id < b.Id) {k : Nat} (hk : k < l.length) : (l.filter fun p => p.Id != l[k].Id) = l.take k ++ l.drop (k + 1) := by
  have e1 : ((l.take k).filter fun p => p.Id != l[k].Id) = l.take k := by
    refine List.filter_eq_self.2 fun x hx => ?_
    obtain ⟨i, hi, rfl⟩ := List.getElem_of_mem hx
    rw [List.length_take] at hi
    rw [List.getElem_take]
    have := List.pairwise_iff_getElem.1 h i k (by omega) hk (by omega)
    simp; omega
  have e2 : ((l.drop (k + 1)).filter fun p => p.Id != l[k].Id) = l.drop (k + 1) := by
    refine List.filter_eq_self.2 fun x hx => ?_
    obtain ⟨i, hi, rfl⟩ := List.getElem_of_mem hx
    rw [List.length_drop] at hi
    rw [List.getElem_drop]
    have := List.pairwise_iff_getElem.1 h k (k + 1 + i) hk (by omega) (by omega)
    simp; omega
  have e0 : ∀ f : Plan → Bool, l.filter f = (l.take k).filter f ++ (if f l[k] = true then l[k] :: (l.drop (k + 1)).filter f else (l.drop (k + 1)).filter f) := by
    intro f
    rw [← List.filter_cons, ← List.filter_append, ← List.drop_eq_getElem_cons hk, List.take_append_drop]
  rw [e0, e1, e2]
  simp
theorem drops_eq {N : Nat} {s : State} (h : Inv N s) (hN : N ≤ 1000000) (i : Int) : plan_Drop s i = dispatchref15_Drop s i := by
  have hpl := h.pl
  unfold plan_Drop dispatchref15_Drop
  rw [lose_eq (h.small hN), Option.bind_some]
  have e := loop_filter (fun (l : List Plan) i => (l, i)) s.Plans (fun p => p.Id != i) id (step := dispatchref15_Drop_l1 s i) (by omega) ?_ ?_
  · rw [e, Option.bind_some, List.map_id]
    rcases index_plan s.Plans (by omega) (fun a' => plan_Drop_1 a'.1 i) (fun x => x.Id == i) (fun k => rfl) with ⟨k, hk, e1, e2⟩ | ⟨e1, e2⟩
    · rw [e2, Option.bind_some, decide_eq_false (by omega), cond_false]
      have hid : s.Plans[k].Id = i := by simpa using List.find?_some e1
      have hd : api_Plan__110 s.Plans (k : Int) (w64 ((k : Int) + 1)) = some (s.Plans.take k ++ s.Plans.drop (k + 1)) := by
        unfold api_Plan__110 del
        rw [w64_id (by omega) (by omega), if_pos ⟨by omega, by omega, by omega⟩]
        congr 2
      have hf := filter_one h.ps hk
      rw [hid] at hf
      rw [hd, Option.bind_some, hf]
      have hl : (s.Plans.take k ++ s.Plans.drop (k + 1)).length = s.Plans.length - 1 := by simp; omega
      rw [show (((s.Plans.take k ++ s.Plans.drop (k + 1)).length : Int) == (s.Plans.length : Int)) = false by rw [hl, beq_eq_false_iff_ne]; omega]
      rfl
    · rw [e2, Option.bind_some]
      have hf : (s.Plans.filter fun p => p.Id != i) = s.Plans := by
        refine List.filter_eq_self.2 fun x hx => ?_
        have := List.find?_eq_none.1 e1 x hx
        simpa using this
      rw [hf, show ((s.Plans.length : Int) == (s.Plans.length : Int)) = true by simp]
      rfl
  · intro k hk l hl
    unfold dispatchref15_Drop_l1
    dsimp only
    rw [dlt_t hk, cond_true, idx_at hk, Option.bind_some, Option.bind_some]
    cases hp : (s.Plans[k].Id != i)
    · rfl
    · rw [cond_true, app_some (by simp; omega) (by omega)]
      rfl
  · intro l
    unfold dispatchref15_Drop_l1
    rw [dlt_f]
    rfl
theorem within15_gv (a : Int) {n : Int} (h0 : 0 < n) (h1 : n ≤ 1000000000000) : Gv (dispatchlaw15_within a n) fun k => 0 ≤ k ∧ k < n := within6_gv a h0 h1
theorem known15_eq : dispatchlaw15_known = some true := by
  unfold dispatchlaw15_known
  obtain ⟨r, e, h1, h2⟩ := both_place (l := [(⟨0, 0, 0, 7, ⟨4, 4⟩⟩ : Plan)]) ⟨by simp, fun x hx => by rw [List.mem_singleton] at hx; subst hx; unfold Okp Few; decide⟩ (⟨4, 4⟩ : Vec) (⟨0, 0, 0, 100, ⟨4, 4⟩⟩ : Plan) 5
  have k : dispatchref15_Place [(⟨0, 0, 0, 7, ⟨4, 4⟩⟩ : Plan)] (⟨4, 4⟩ : Vec) (⟨0, 0, 0, 100, ⟨4, 4⟩⟩ : Plan) 5 = some (7, 0) := by
    unfold dispatchref15_Place
    refine Eq.trans (b := (loop (dispatchref15_Place_l1 [(⟨0, 0, 0, 7, ⟨4, 4⟩⟩ : Plan)] (⟨4, 4⟩ : Vec) (⟨0, 0, 0, 100, ⟨4, 4⟩⟩ : Plan) 5) ((-1), (-1))).bind fun best1 => bif decide (best1 < 0) then some (0, 16) else some (best1, 0)) rfl ?_
    have ok : Okl [(⟨0, 0, 0, 7, ⟨4, 4⟩⟩ : Plan)] := ⟨by simp, fun x hx => by rw [List.mem_singleton] at hx; subst hx; unfold Okp Few; decide⟩
    have f1 : dispatchref15_fits [(⟨0, 0, 0, 7, ⟨4, 4⟩⟩ : Plan)] (⟨4, 4⟩ : Vec) (⟨0, 0, 0, 100, ⟨4, 4⟩⟩ : Plan) 0 5 = some false := by
      rw [rfree_eq ok (by unfold Few; decide) _ (by decide) (by decide)]; decide
    have f2 : dispatchref15_fits [(⟨0, 0, 0, 7, ⟨4, 4⟩⟩ : Plan)] (⟨4, 4⟩ : Vec) (⟨0, 0, 0, 100, ⟨4, 4⟩⟩ : Plan) 7 5 = some true := by
      rw [rfree_eq ok (by unfold Few; decide) _ (by decide) (by decide)]; decide
    have l1 : dispatchref15_Place_l1 [(⟨0, 0, 0, 7, ⟨4, 4⟩⟩ : Plan)] (⟨4, 4⟩ : Vec) (⟨0, 0, 0, 100, ⟨4, 4⟩⟩ : Plan) 5 ((-1), (-1)) = some (.inl (-1, 0)) := by
      show (((dispatchref15_fits [(⟨0, 0, 0, 7, ⟨4, 4⟩⟩ : Plan)] (⟨4, 4⟩ : Vec) (⟨0, 0, 0, 100, ⟨4, 4⟩⟩ : Plan) 0 5).bind fun x3 => some x3).bind fun q1 => (bif q1 then some (0 : Int) else some (-1 : Int))).bind _ = _
      rw [f1]; rfl
    have l2 : dispatchref15_Place_l1 [(⟨0, 0, 0, 7, ⟨4, 4⟩⟩ : Plan)] (⟨4, 4⟩ : Vec) (⟨0, 0, 0, 100, ⟨4, 4⟩⟩ : Plan) 5 ((-1), 0) = some (.inl (7, 1)) := by
      show (((dispatchref15_fits [(⟨0, 0, 0, 7, ⟨4, 4⟩⟩ : Plan)] (⟨4, 4⟩ : Vec) (⟨0, 0, 0, 100, ⟨4, 4⟩⟩ : Plan) 7 5).bind fun x3 => some x3).bind fun q1 => (bif q1 then some (7 : Int) else some (-1 : Int))).bind _ = _
      rw [f2]; rfl
    have l3 : dispatchref15_Place_l1 [(⟨0, 0, 0, 7, ⟨4, 4⟩⟩ : Plan)] (⟨4, 4⟩ : Vec) (⟨0, 0, 0, 100, ⟨4, 4⟩⟩ : Plan) 5 (7, 1) = some (.inr 7) := rfl
    rw [loop_next l1, loop_next l2, loop_out l3]
    rfl
  rw [k] at h2
  rw [h1, ← h2]
  rfl
theorem plainPlanAdds (a0 : Script) (a1 : Plan) (a2 a3 : Int) : dispatchlaw15_PlanAdds a0 a1 a2 a3 = some true := by
  unfold dispatchlaw15_PlanAdds
  rw [known15_eq]
  simp only [Option.bind_some, Bool.not_true, cond_false]
  refine script_law fun s hs => ?_
  have sc := hs.sc
  have hnow := hs.now
  have hq : Gv (bif decide ((Int.tmod a3 3) > 0) then
        (dispatchlaw15_good a1).bind fun x4 =>
        (dispatchlaw15_within x4.From 8).bind fun x5 =>
        (dispatchlaw15_within a3 9).bind fun x6 =>
        (dispatchlaw15_within a2 20).bind fun x7 =>
        some (w64 (1 + x7), (⟨x4.Id, x4.Label, w64 ((w64 (s.Now + x5)) - (w64 (Int.tdiv x6 8))), w64 ((w64 ((w64 (s.Now + x5)) - (w64 (Int.tdiv x6 8)))) + 30), ⟨x4.Need.Mem, x4.Need.Cores⟩⟩ : Plan))
      else some (a2, a1)) fun _ => True := by
    refine gv_cond (fun _ => ?_) fun _ => gv_some trivial
    refine gv_bind (P := fun _ => True) ?_ fun x4 _ => ?_
    · unfold dispatchlaw15_good
      exact gv_bind (within15_gv _ (by omega) (by omega)) fun _ _ => gv_bind (within15_gv _ (by omega) (by omega)) fun _ _ => gv_bind (within15_gv _ (by omega) (by omega)) fun _ _ => gv_bind (within15_gv _ (by omega) (by omega)) fun _ _ => gv_bind (within15_gv _ (by omega) (by omega)) fun _ _ => gv_bind (within15_gv _ (by omega) (by omega)) fun _ _ => gv_some trivial
    · exact gv_bind (within15_gv _ (by omega) (by omega)) fun _ _ => gv_bind (within15_gv _ (by omega) (by omega)) fun _ _ => gv_bind (within15_gv _ (by omega) (by omega)) fun _ _ => gv_some trivial
  obtain ⟨⟨lg, p⟩, e, _⟩ := hq
  rw [e, Option.bind_some]
  dsimp only
  rw [adds_eq hs (by omega)]
  obtain ⟨⟨b, m, f⟩, ea, hb⟩ := Add15_gv hs p lg
  rw [ea, Option.bind_some, Option.bind_some]
  dsimp only at hb ⊢
  rw [bne_self_eq_false, cond_false, bne_self_eq_false, cond_false, same_refl (hb.small (by omega)), Option.bind_some, Bool.not_true, Option.bind_some, cond_false]
  have hid : Gv ((bif decide ((b.Plans.length : Int) > 0) then some ((Int.tmod a3 2) == 0) else some false).bind fun q2 => bif q2 then (dispatchlaw15_within a3 (b.Plans.length : Int)).bind fun x11 => (idx b.Plans x11).bind fun x12 => some x12.Id else some p.Id) fun _ => True := by
    by_cases h0 : (b.Plans.length : Int) > 0
    · rw [decide_eq_true h0, cond_true, Option.bind_some]
      refine gv_cond (fun _ => ?_) fun _ => gv_some trivial
      have hbl := hb.pl
      refine gv_bind (within15_gv _ h0 (by omega)) fun x hx => ?_
      exact gv_bind (gv_true (gv_idx hx.1 hx.2)) fun _ _ => gv_some trivial
    · rw [decide_eq_false h0]
      exact gv_some trivial
  obtain ⟨i, ei, _⟩ := hid
  rw [ei, Option.bind_some, drops_eq hb (by omega)]
  obtain ⟨⟨d, g⟩, ed, hd⟩ := Drop_gv hb i
  rw [ed, Option.bind_some, Option.bind_some]
  dsimp only at hd ⊢
  rw [beq_self_eq_true, cond_true, same_refl (hd.small (by omega))]
  rfl
end Go.Fx.D
