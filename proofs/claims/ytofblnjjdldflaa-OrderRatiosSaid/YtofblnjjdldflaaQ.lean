/-
  Laws over plain data: true at all inputs. Conditions: none.
-/
import Derived.Test.YtofblnjjdldflaaP
import Derived.Test.YtofblnjjdldflaaFxB
namespace Go.Fx.D
open Go Go.Fx
set_option linter.unusedVariables false
set_option linter.unusedSimpArgs false
set_option maxRecDepth 100000
abbrev qR : Queue := ⟨root, [⟨10000, 10000⟩], 10000⟩
abbrev cf (l : List Queue) : Conf := ⟨[[]], l⟩
/-! the configuration is sound -/
/-- all that does not hang on numbers -/
def stOk (c : Conf) : Bool := (List.range c.Queues.length).all fun i => match c.Queues[i]? with
  | none => false
  | some q => (match c_dispatchref6_isPath q.Path with | some true => true | _ => false) &&
    (((i == 0) || (match c.Queues[i - 1]? with | some q' => !(strLe q.Path q'.Path) | none => false)) &&
    ((match c_dispatchref6_above q.Path with | none => false | some up => match c_dispatchref6_Find c up with | some (_, is) => (i == 0) || is | none => false) &&
    (q.Caps.length == c.Labels.length)))
def numOk (q : Queue) : Prop := 1 ≤ q.User ∧ q.User ≤ 1000000 ∧ q.Caps.length ≤ 100 ∧ ∀ x ∈ q.Caps, 0 ≤ x.Least ∧ x.Least ≤ x.Most ∧ x.Most ≤ 10000

theorem loop_cnt {ρ : Type} (step : Int → Option (Int ⊕ ρ)) (n : Nat) (fin : ρ) (h1 : ∀ k : Nat, k < n → step k = some (.inl ((k + 1 : Nat) : Int))) (h2 : step (n : Int) = some (.inr fin)) : loop step 0 = some fin := by
  obtain ⟨_, e, _⟩ := loop_inv (fun (_ : Unit) k => k) step n (fun _ _ => True) (fun _ => fin) (fun k hk _ _ => ⟨(), h1 k hk, trivial⟩) (fun _ _ => h2) (s := ()) trivial
  exact e

theorem queue_ok {c : Conf} (hs : stOk c = true) (hn : ∀ q ∈ c.Queues, numOk q) (hl : c.Queues.length ≤ 100) {i : Nat} (hi : i < c.Queues.length) : dispatchref6_queue c (i : Int) = some 0 := by
  unfold stOk at hs
  simp only [List.all_eq_true, List.mem_range] at hs
  have h := hs i hi
  rw [List.getElem?_eq_getElem hi] at h
  dsimp only at h
  have hq := hn _ (List.getElem_mem hi)
  generalize hqe : c.Queues[i] = q at *
  simp only [Bool.and_eq_true] at h
  obtain ⟨h1, h2, h3, h4⟩ := h
  unfold dispatchref6_queue
  rw [idx_lt hi, hqe]
  simp only [Option.bind_some]
  have e1 : dispatchref6_isPath q.Path = some true := by
    refine (le_dispatchref6_isPath q.Path).ok _ ?_
    cases hc : c_dispatchref6_isPath q.Path with
    | none => rw [hc] at h1; cases h1
    | some b => cases b with
      | true => rfl
      | false => rw [hc] at h1; cases h1
  rw [e1]
  simp only [Option.bind_some, Bool.not_true, cond_false]
  have e2 : (bif decide ((i : Int) > 0) then (idx c.Queues (w64 ((i : Int) - 1))).bind fun x2 => some (strLe q.Path x2.Path) else some false : Option Bool) = some false := by
    cases i with
    | zero => rfl
    | succ i =>
      rw [decide_eq_true (by omega), w64_id (x := ((i + 1 : Nat) : Int) - 1) (by omega) (by omega), show ((i + 1 : Nat) : Int) - 1 = (i : Int) by omega, idx_lt (by omega)]
      simp only [Nat.add_sub_cancel, List.getElem?_eq_getElem (show i < c.Queues.length by omega)] at h2
      have : (!(strLe q.Path c.Queues[i].Path)) = true := by simpa using h2
      simp only [cond_true, Option.bind_some]
      simpa using this
  rw [e2]
  simp only [Option.bind_some, cond_false]
  cases ha : c_dispatchref6_above q.Path with
  | none => rw [ha] at h3; cases h3
  | some up =>
    rw [ha] at h3
    dsimp only at h3
    rw [(le_dispatchref6_above q.Path).ok _ ha]
    simp only [Option.bind_some]
    cases hf : c_dispatchref6_Find c up with
    | none => rw [hf] at h3; cases h3
    | some f =>
      rw [hf] at h3
      rw [(le_dispatchref6_Find c up).ok _ hf]
      simp only [Option.bind_some]
      obtain ⟨f, is⟩ := f
      dsimp only at h3 ⊢
      have e3 : (bif decide ((i : Int) > 0) then some (!is) else some false : Option Bool) = some false := by
        cases i with
        | zero => rfl
        | succ i =>
          rw [decide_eq_true (by omega)]
          have : is = true := by simpa using h3
          rw [this]
          rfl
      rw [e3]
      simp only [Option.bind_some, cond_false]
      obtain ⟨n1, n2, n3, n4⟩ := hq
      rw [decide_eq_false (by omega), decide_eq_false (by omega)]
      have e4 : ((q.Caps.length : Int) != (c.Labels.length : Int)) = false := by
        rw [beq_iff_eq] at h4
        rw [h4]
        simp
      rw [e4]
      simp only [cond_false, Option.bind_some]
      rw [loop_cnt (dispatchref6_queue_l1 q) q.Caps.length (.inr ()) (by
        intro k hk
        have hx := n4 _ (List.getElem_mem hk)
        unfold dispatchref6_queue_l1
        rw [decide_eq_true (by omega), idx_lt hk, step_succ (by omega)]
        simp only [cond_true, Option.bind_some]
        rw [decide_eq_false (by omega), decide_eq_false (by omega), decide_eq_false (by omega), decide_eq_false (by omega), decide_eq_false (by omega)]
        rfl) (by
        unfold dispatchref6_queue_l1
        rw [decide_eq_false (by omega)]
        rfl)]
      rfl

theorem check_ok {c : Conf} (hlab : c_dispatchref6_labels c = some 0) (hp : (bif (c.Queues.length : Int) == 0 then some true else (idx c.Queues 0).bind fun x2 => some (! (x2.Path == ([114, 111, 111, 116] : List UInt8))) : Option Bool) = some false) (hs : stOk c = true) (hn : ∀ q ∈ c.Queues, numOk q) (hl : c.Queues.length ≤ 100)
    (h2 : itr 4096 (c_dispatchref6_Check_l2 c) 0 = some (.inr ())) (h3 : dispatchref6_sums c = some true) : dispatchref6_Check c = some 0 := by
  unfold dispatchref6_Check
  rw [(le_dispatchref6_labels c).ok _ hlab]
  simp only [Option.bind_some, bne_self_eq_false, cond_false]
  rw [hp]
  simp only [Option.bind_some, cond_false]
  rw [loop_cnt (dispatchref6_Check_l1 c) c.Queues.length (.inr ()) (by
    intro k hk
    unfold dispatchref6_Check_l1
    rw [decide_eq_true (by omega), queue_ok hs hn hl hk, step_succ (by omega)]
    rfl) (by
    unfold dispatchref6_Check_l1
    rw [decide_eq_false (by omega)]
    rfl)]
  simp only [Option.bind_some]
  rw [(lo_iter (fun t => le_dispatchref6_Check_l2 c t) 0).ok _ h2]
  simp only [Option.bind_some]
  rw [h3]
  rfl

theorem sums_step {c : Conf} {i : Nat} {q : Queue} {kids : List (List UInt8)} (hi : i < c.Queues.length) (hlen : c.Queues.length ≤ 100) (hq : c.Queues[i]? = some q) (hk : c_dispatchref6_Kids c q.Path = some kids) (hl : c.Labels.length = 1)
    (hn : kids = [] ∨ ∃ e, itr 4096 (c_dispatchref6_sums_l3 c kids 0) (0, 0) = some e ∧ e = 10000) : dispatchref6_sums_l1 c (i : Int) = some (.inl ((i + 1 : Nat) : Int)) := by
  unfold dispatchref6_sums_l1
  have eq : c.Queues[i] = q := by rw [List.getElem?_eq_getElem hi] at hq; exact Option.some.inj hq
  rw [decide_eq_true (by omega), idx_lt hi, eq, step_succ (by omega)]
  simp only [cond_true, Option.bind_some]
  rw [(le_dispatchref6_Kids c q.Path).ok _ hk]
  simp only [Option.bind_some]
  have e : loop (dispatchref6_sums_l2 c kids) 0 = some (.inr ()) := by
    rcases hn with rfl | ⟨e, he, rfl⟩
    · rw [loop_eq]
      unfold dispatchref6_sums_l2
      rw [hl]
      rfl
    · have s0 : dispatchref6_sums_l2 c kids 0 = some (.inl 1) ∨ dispatchref6_sums_l2 c kids 0 = some (.inr (.inr ())) := by
        unfold dispatchref6_sums_l2
        rw [hl, decide_eq_true (by omega)]
        simp only [cond_true, Option.bind_some]
        cases hkl : decide ((kids.length : Int) > 0) with
        | false => exact .inr rfl
        | true =>
          simp only [cond_true]
          rw [(lo_iter (fun t => le_dispatchref6_sums_l3 c kids 0 t) (0, 0)).ok _ he]
          exact .inl rfl
      rcases s0 with s0 | s0
      · rw [loop_eq, s0]
        dsimp only
        rw [loop_eq]
        have : dispatchref6_sums_l2 c kids 1 = some (.inr (.inr ())) := by
          unfold dispatchref6_sums_l2
          rw [hl]
          rfl
        rw [this]
      · rw [loop_eq, s0]
  rw [e]
  rfl

theorem sums_ok {c : Conf} (h : ∀ k : Nat, k < c.Queues.length → dispatchref6_sums_l1 c (k : Int) = some (.inl ((k + 1 : Nat) : Int))) : dispatchref6_sums c = some true := by
  unfold dispatchref6_sums
  rw [loop_cnt (dispatchref6_sums_l1 c) c.Queues.length (.inr ()) h (by
    unfold dispatchref6_sums_l1
    rw [decide_eq_false (by omega)]
    rfl)]
  rfl

theorem whole {a : Int} (h0 : 0 ≤ a) (h1 : a ≤ 10000) : w64 (w64 (0 + a) + (10000 - a)) = 10000 := by
  rw [w64_id (x := 0 + a) (by omega) (by omega), w64_id (by omega) (by omega)]
  omega

theorem num_R : numOk qR := ⟨by decide, by decide, by decide, fun x hx => by
  simp only [List.mem_singleton] at hx
  subst hx
  decide⟩
end Go.Fx.D
