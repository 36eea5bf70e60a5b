/-
  Laws over plain data: true at all inputs. Conditions: none.
-/
import Derived.Test.YtkbpndpddlhgbaaO
namespace Go.Fx.D
open Go Go.Fx
set_option linter.unusedVariables false
set_option linter.unusedSimpArgs false

/-- rounds that count up, nothing else -/
theorem loop_cnt {ρ : Type} (step : Int → Option (Int ⊕ ρ)) (n : Nat) (fin : ρ) (h1 : ∀ k : Nat, k < n → step k = some (.inl ((k + 1 : Nat) : Int))) (h2 : step (n : Int) = some (.inr fin)) : loop step 0 = some fin := by
  rcases loop_all step n (fun _ => true) (fun _ => fin) fin (fun k hk => by rw [h1 k hk]; rfl) h2 with ⟨_, b⟩ | ⟨i, _, h, _⟩
  · exact b
  · cases h

/-! the same is the same -/
theorem ints_refl {l : List Int} (h : l.length ≤ 1000) : dispatchref19_ints l l = some true := by
  unfold dispatchref19_ints
  rw [loop_cnt (dispatchref19_ints_l1 l l) l.length (.inr ()) (by
    intro k hk
    unfold dispatchref19_ints_l1
    rw [decide_eq_true (by omega), idx_lt hk, step_succ (by omega)]
    simp only [cond_true, Option.bind_some, bne_self_eq_false, cond_false]) (by
    unfold dispatchref19_ints_l1
    rw [decide_eq_false (by omega)]
    rfl)]
  simp

theorem app_refl {a : App} (h : SmallA a) : dispatchref19_app a a = some true := by
  have hl := h.asks
  unfold dispatchref19_app
  rw [loop_cnt (dispatchref19_app_l1 a a) a.Asks.length (.inr ()) (by
    intro k hk
    unfold dispatchref19_app_l1
    rw [decide_eq_true (by omega), idx_lt hk, step_succ (by omega)]
    simp only [cond_true, Option.bind_some, beq_self_eq_true, Bool.and_self, Bool.not_true, cond_false]) (by
    unfold dispatchref19_app_l1
    rw [decide_eq_false (by omega)]
    rfl)]
  simp only [bne_self_eq_false, beq_self_eq_true, Bool.not_true, cond_false, Bool.and_self, Option.bind_some]
  rw [ints_refl h.grants, ints_refl h.kills, ints_refl h.told, ints_refl h.lost]
  rfl

theorem conf_refl {c : Conf} (h1 : c.Labels.length ≤ 1000) (h2 : c.Queues.length ≤ 1000) (h3 : ∀ q ∈ c.Queues, q.Caps.length ≤ 1000) : dispatchref5_Same c c = some true := by
  unfold dispatchref5_Same
  rw [loop_cnt (dispatchref5_Same_l1 c c) c.Labels.length (.inr ()) (by
    intro k hk
    unfold dispatchref5_Same_l1
    rw [decide_eq_true (by omega), idx_lt hk, step_succ (by omega)]
    simp only [cond_true, Option.bind_some, beq_self_eq_true, Bool.not_true, cond_false]) (by
    unfold dispatchref5_Same_l1
    rw [decide_eq_false (by omega)]
    rfl)]
  rw [loop_cnt (dispatchref5_Same_l2 c c) c.Queues.length (.inr ()) (by
    intro k hk
    have hc := h3 _ (List.getElem_mem hk)
    unfold dispatchref5_Same_l2
    rw [decide_eq_true (by omega), idx_lt hk, step_succ (by omega)]
    simp only [cond_true, Option.bind_some, beq_self_eq_true, bne_self_eq_false, Bool.not_true, cond_false]
    rw [loop_cnt (dispatchref5_Same_l3 c.Queues[k] c.Queues[k]) c.Queues[k].Caps.length (.inr ()) (by
      intro j hj
      unfold dispatchref5_Same_l3
      rw [decide_eq_true (by omega), idx_lt hj, step_succ (by omega)]
      simp only [cond_true, Option.bind_some, beq_self_eq_true, Bool.and_self, Bool.not_true, cond_false]) (by
      unfold dispatchref5_Same_l3
      rw [decide_eq_false (by omega)]
      rfl)]
    rfl) (by
    unfold dispatchref5_Same_l2
    rw [decide_eq_false (by omega)]
    rfl)]
  simp

theorem same_refl {s : State} (h : Small s) : dispatchref19_Same s s = some true := by
  have hn := h.nodes
  have ha := h.apps
  have hc := h.conts
  have hs := h.slots
  have hp := h.plans
  unfold dispatchref19_Same
  rw [conf_refl h.labels h.queues h.caps]
  simp only [Option.bind_some, Bool.not_true, bne_self_eq_false, cond_false]
  obtain ⟨b1, e1, rfl⟩ := loop_inv (fun (v : Bool) k => (v, k)) (dispatchref19_Same_l1 s s) s.Nodes.length (fun _ v => v = true) (fun v => v) (by
    rintro k hk v rfl
    refine ⟨true, ?_, rfl⟩
    unfold dispatchref19_Same_l1
    rw [decide_eq_true (by dsimp only; omega), step_succ (by omega)]
    dsimp only
    rw [idx_lt hk]
    simp) (by
    rintro v rfl
    unfold dispatchref19_Same_l1
    rw [decide_eq_false (by dsimp only; omega)]
    rfl) (s := true) rfl
  rw [e1]
  simp only [Option.bind_some]
  obtain ⟨b2, e2, rfl⟩ := loop_inv (fun (v : Bool) k => (v, k)) (dispatchref19_Same_l2 s s) s.Apps.length (fun _ v => v = true) (fun v => v) (by
    rintro k hk v rfl
    refine ⟨true, ?_, rfl⟩
    unfold dispatchref19_Same_l2
    rw [decide_eq_true (by dsimp only; omega), step_succ (by omega)]
    dsimp only
    rw [idx_lt hk]
    simp only [cond_true, Option.bind_some]
    rw [app_refl (h.app _ (List.getElem_mem hk))]
    rfl) (by
    rintro v rfl
    unfold dispatchref19_Same_l2
    rw [decide_eq_false (by dsimp only; omega)]
    rfl) (s := true) rfl
  rw [e2]
  simp only [Option.bind_some]
  obtain ⟨b3, e3, rfl⟩ := loop_inv (fun (v : Bool) k => (v, k)) (dispatchref19_Same_l3 s s) s.Conts.length (fun _ v => v = true) (fun v => v) (by
    rintro k hk v rfl
    refine ⟨true, ?_, rfl⟩
    unfold dispatchref19_Same_l3
    rw [decide_eq_true (by dsimp only; omega), step_succ (by omega)]
    dsimp only
    rw [idx_lt hk]
    simp) (by
    rintro v rfl
    unfold dispatchref19_Same_l3
    rw [decide_eq_false (by dsimp only; omega)]
    rfl) (s := true) rfl
  rw [e3]
  simp only [Option.bind_some]
  obtain ⟨b4, e4, rfl⟩ := loop_inv (fun (v : Bool) k => (v, k)) (dispatchref19_Same_l4 s s) s.Slots.length (fun _ v => v = true) (fun v => v) (by
    rintro k hk v rfl
    refine ⟨true, ?_, rfl⟩
    unfold dispatchref19_Same_l4
    rw [decide_eq_true (by dsimp only; omega), step_succ (by omega)]
    dsimp only
    rw [idx_lt hk]
    simp) (by
    rintro v rfl
    unfold dispatchref19_Same_l4
    rw [decide_eq_false (by dsimp only; omega)]
    rfl) (s := true) rfl
  rw [e4]
  simp only [Option.bind_some]
  obtain ⟨b5, e5, rfl⟩ := loop_inv (fun (v : Bool) k => (v, k)) (dispatchref19_Same_l5 s s) s.Plans.length (fun _ v => v = true) (fun v => v) (by
    rintro k hk v rfl
    refine ⟨true, ?_, rfl⟩
    unfold dispatchref19_Same_l5
    rw [decide_eq_true (by dsimp only; omega), step_succ (by omega)]
    dsimp only
    rw [idx_lt hk]
    simp) (by
    rintro v rfl
    unfold dispatchref19_Same_l5
    rw [decide_eq_false (by dsimp only; omega)]
    rfl) (s := true) rfl
  rw [e5]
  rfl

/-- a cluster of one node, with a calendar -/
def cfg : Conf := ⟨[([] : List UInt8)], [(⟨([114, 111, 111, 116] : List UInt8), [(⟨10000, 10000⟩ : Cap)], 10000⟩ : Queue)]⟩
def one (n : Int) (l : List Plan) (now : Int) : State := ⟨cfg, [(⟨1, 0, 0, ⟨n, n⟩, 0, 0, true⟩ : Node)], [], [], [], l, now, 0, 0⟩

theorem small_one {n : Int} {l : List Plan} {now : Int} (h : l.length ≤ 1000) : Small (one n l now) := by
  refine ⟨by simp [one, cfg], by simp [one, cfg], ?_, by simp [one], by simp [one], by simp [one], by simp [one], by simp [one], h⟩
  intro q hq
  simp only [one, cfg, List.mem_singleton] at hq
  subst hq
  simp

theorem total_one {n : Int} {l : List Plan} {now : Int} (h0 : 0 ≤ n) (h1 : n ≤ 1000) : share_Total (one n l now) 0 = some ⟨n, n⟩ := by
  unfold share_Total
  rw [iter_loop (n := 3) (r := [⟨n, n⟩]) (by kernel_rfl)]
  simp only [Option.bind_some]
  unfold share_sum
  have s1 : share_sum_l1 [(⟨n, n⟩ : Vec)] (⟨0, 0⟩, 0) = some (.inl (⟨n, n⟩, 1)) := by
    unfold share_sum_l1
    have e : rvec_Add ⟨0, 0⟩ ⟨n, n⟩ = some (⟨0 + n, 0 + n⟩, 0) := add_few (by simp) (by simp) (by simp) (by simp) (by unfold Few; dsimp only; omega)
    have e2 : idx [(⟨n, n⟩ : Vec)] 0 = some ⟨n, n⟩ := rfl
    dsimp only
    rw [e2]
    simp only [Option.bind_some]
    rw [e, Int.zero_add]
    rfl
  rw [loop_eq, s1]
  dsimp only
  rw [loop_eq]
  rfl

theorem badP_one {n : Int} {l : List Plan} {now : Int} {p : Plan} (h0 : 0 ≤ p.Id) (h1 : p.Id ≤ 999) (hl : p.Label = 0) : badP (one n l now) p = (p.Need.Mem == 0 && p.Need.Cores == 0) := by
  unfold badP
  rw [decide_eq_true ⟨h0, h1⟩, hl, decide_eq_true (by simp [one, cfg])]
  rfl
end Go.Fx.D
