/-
  Laws over plain data: true at all inputs. Conditions: none.
-/
import Derived.Test.YtfpkhbclbhghnaaS
namespace Go.Fx.D
open Go Go.Fx
set_option linter.unusedVariables false
set_option linter.unusedSimpArgs false

/-! paths -/
abbrev p1 : List UInt8 := [114, 111, 111, 116, 46, 113]
abbrev p2 : List UInt8 := [114, 111, 111, 116, 46, 113, 46, 113]
abbrev p3 : List UInt8 := [114, 111, 111, 116, 46, 113, 46, 113, 46, 113]
abbrev s1 : List UInt8 := [114, 111, 111, 116, 46, 114]
abbrev s2 : List UInt8 := [114, 111, 111, 116, 46, 113, 46, 114]
abbrev s3 : List UInt8 := [114, 111, 111, 116, 46, 113, 46, 113, 46, 114]
abbrev qR : Queue := ⟨root, [⟨10000, 10000⟩], 10000⟩
abbrev qQ (p : List UInt8) (x : Int × Int) (u : Int) : Queue := ⟨p, [⟨x.1, x.2⟩], u⟩
abbrev qS (p : List UInt8) (x : Int × Int) : Queue := ⟨p, [⟨10000 - x.1, 10000⟩], 1⟩
abbrev L0 : List Queue := [qR]
abbrev L1 (x : Int × Int) (u : Int) : List Queue := [qR, qQ p1 x u, qS s1 x]
abbrev L2 (x y : Int × Int) (u : Int) : List Queue := [qR, qQ p1 x u, qQ p2 y u, qS s2 y, qS s1 x]
abbrev L3 (x y z : Int × Int) (u : Int) : List Queue := [qR, qQ p1 x u, qQ p2 y u, qQ p3 z u, qS s3 z, qS s2 y, qS s1 x]
abbrev cf (l : List Queue) : Conf := ⟨[[]], l⟩
abbrev st (l : List Queue) (v : Vec) : State := ⟨cf l, [(⟨1, 0, 0, v, 0, 0, true⟩ : Node)], [], [], [], [], 0, 0, 0⟩
def Pr (x : Int × Int) : Prop := 0 ≤ x.1 ∧ x.1 ≤ x.2 ∧ x.2 ≤ 10000

/-! the configuration is sound -/
/-- all that does not hang on numbers -/
def stOk (c : Conf) : Bool := (List.range c.Queues.length).all fun i => match c.Queues[i]? with
  | none => false
  | some q => (match c_dispatchref6_isPath q.Path with | some true => true | _ => false) &&
    (((i == 0) || (match c.Queues[i - 1]? with | some q' => !(strLe q.Path q'.Path) | none => false)) &&
    ((match c_dispatchref6_above q.Path with | none => false | some up => match c_dispatchref6_Find c up with | some (_, is) => (i == 0) || is | none => false) &&
    (q.Caps.length == c.Labels.length)))
def numOk (q : Queue) : Prop := 1 ≤ q.User ∧ q.User ≤ 1000000 ∧ q.Caps.length ≤ 100 ∧ ∀ x ∈ q.Caps, 0 ≤ x.Least ∧ x.Least ≤ x.Most ∧ x.Most ≤ 10000

theorem loop_cnt {ρ : Type} (step : Int → Option (Int ⊕ ρ)) (n : Nat) (fin : ρ) (h1 : ∀ k : Nat, k < n → step k = some (.inl ((k + 1 : Nat) : Int))) (h2 : step (n : Int) = some (.inr fin)) : loop step 0 = some fin := by
  obtain ⟨_, e, _⟩ := loop_inv (fun (_ : Unit) k => k) step n (fun _ _ => True) (fun _ => fin) (fun k hk _ _ => ⟨(), h1 k hk, trivial⟩) (fun _ _ => h2) (s := ()) trivial
  exact e

theorem queue_ok {c : Conf} (hs : stOk c = true) (hn : ∀ q ∈ c.Queues, numOk q) (hl : c.Queues.length ≤ 100) {i : Nat} (hi : i < c.Queues.length) : dispatchref6_queue c (i : Int) = some 0 := by
  unfold stOk at hs
  simp only [List.all_eq_true, List.mem_range] at hs
  have h := hs i hi
  rw [List.getElem?_eq_getElem hi] at h
  dsimp only at h
  have hq := hn _ (List.getElem_mem hi)
  generalize hqe : c.Queues[i] = q at *
  simp only [Bool.and_eq_true] at h
  obtain ⟨h1, h2, h3, h4⟩ := h
  unfold dispatchref6_queue
  rw [idx_lt hi, hqe]
  simp only [Option.bind_some]
  have e1 : dispatchref6_isPath q.Path = some true := by
    refine (le_dispatchref6_isPath q.Path).ok _ ?_
    cases hc : c_dispatchref6_isPath q.Path with
    | none => rw [hc] at h1; cases h1
    | some b => cases b with
      | true => rfl
      | false => rw [hc] at h1; cases h1
  rw [e1]
  simp only [Option.bind_some, Bool.not_true, cond_false]
  have e2 : (bif decide ((i : Int) > 0) then (idx c.Queues (w64 ((i : Int) - 1))).bind fun x2 => some (strLe q.Path x2.Path) else some false : Option Bool) = some false := by
    cases i with
    | zero => rfl
    | succ i =>
      rw [decide_eq_true (by omega), w64_id (x := ((i + 1 : Nat) : Int) - 1) (by omega) (by omega), show ((i + 1 : Nat) : Int) - 1 = (i : Int) by omega, idx_lt (by omega)]
      simp only [Nat.add_sub_cancel, List.getElem?_eq_getElem (show i < c.Queues.length by omega)] at h2
      have : (!(strLe q.Path c.Queues[i].Path)) = true := by simpa using h2
      simp only [cond_true, Option.bind_some]
      simpa using this
  rw [e2]
  simp only [Option.bind_some, cond_false]
  cases ha : c_dispatchref6_above q.Path with
  | none => rw [ha] at h3; cases h3
  | some up =>
    rw [ha] at h3
    dsimp only at h3
    rw [(le_dispatchref6_above q.Path).ok _ ha]
    simp only [Option.bind_some]
    cases hf : c_dispatchref6_Find c up with
    | none => rw [hf] at h3; cases h3
    | some f =>
      rw [hf] at h3
      rw [(le_dispatchref6_Find c up).ok _ hf]
      simp only [Option.bind_some]
      obtain ⟨f, is⟩ := f
      dsimp only at h3 ⊢
      have e3 : (bif decide ((i : Int) > 0) then some (!is) else some false : Option Bool) = some false := by
        cases i with
        | zero => rfl
        | succ i =>
          rw [decide_eq_true (by omega)]
          have : is = true := by simpa using h3
          rw [this]
          rfl
      rw [e3]
      simp only [Option.bind_some, cond_false]
      obtain ⟨n1, n2, n3, n4⟩ := hq
      rw [decide_eq_false (by omega), decide_eq_false (by omega)]
      have e4 : ((q.Caps.length : Int) != (c.Labels.length : Int)) = false := by
        rw [beq_iff_eq] at h4
        rw [h4]
        simp
      rw [e4]
      simp only [cond_false, Option.bind_some]
      rw [loop_cnt (dispatchref6_queue_l1 q) q.Caps.length (.inr ()) (by
        intro k hk
        have hx := n4 _ (List.getElem_mem hk)
        unfold dispatchref6_queue_l1
        rw [decide_eq_true (by omega), idx_lt hk, step_succ (by omega)]
        simp only [cond_true, Option.bind_some]
        rw [decide_eq_false (by omega), decide_eq_false (by omega), decide_eq_false (by omega), decide_eq_false (by omega), decide_eq_false (by omega)]
        rfl) (by
        unfold dispatchref6_queue_l1
        rw [decide_eq_false (by omega)]
        rfl)]
      rfl

theorem check_ok {c : Conf} (hlab : c_dispatchref6_labels c = some 0) (hp : (bif (c.Queues.length : Int) == 0 then some true else (idx c.Queues 0).bind fun x2 => some (! (x2.Path == ([114, 111, 111, 116] : List UInt8))) : Option Bool) = some false) (hs : stOk c = true) (hn : ∀ q ∈ c.Queues, numOk q) (hl : c.Queues.length ≤ 100)
    (h2 : itr 4096 (c_dispatchref6_Check_l2 c) 0 = some (.inr ())) (h3 : dispatchref6_sums c = some true) : dispatchref6_Check c = some 0 := by
  unfold dispatchref6_Check
  rw [(le_dispatchref6_labels c).ok _ hlab]
  simp only [Option.bind_some, bne_self_eq_false, cond_false]
  rw [hp]
  simp only [Option.bind_some, cond_false]
  rw [loop_cnt (dispatchref6_Check_l1 c) c.Queues.length (.inr ()) (by
    intro k hk
    unfold dispatchref6_Check_l1
    rw [decide_eq_true (by omega), queue_ok hs hn hl hk, step_succ (by omega)]
    rfl) (by
    unfold dispatchref6_Check_l1
    rw [decide_eq_false (by omega)]
    rfl)]
  simp only [Option.bind_some]
  rw [(lo_iter (fun t => le_dispatchref6_Check_l2 c t) 0).ok _ h2]
  simp only [Option.bind_some]
  rw [h3]
  rfl

theorem sums_step {c : Conf} {i : Nat} {q : Queue} {kids : List (List UInt8)} (hi : i < c.Queues.length) (hlen : c.Queues.length ≤ 100) (hq : c.Queues[i]? = some q) (hk : c_dispatchref6_Kids c q.Path = some kids) (hl : c.Labels.length = 1)
    (hn : kids = [] ∨ ∃ e, itr 4096 (c_dispatchref6_sums_l3 c kids 0) (0, 0) = some e ∧ e = 10000) : dispatchref6_sums_l1 c (i : Int) = some (.inl ((i + 1 : Nat) : Int)) := by
  unfold dispatchref6_sums_l1
  have eq : c.Queues[i] = q := by rw [List.getElem?_eq_getElem hi] at hq; exact Option.some.inj hq
  rw [decide_eq_true (by omega), idx_lt hi, eq, step_succ (by omega)]
  simp only [cond_true, Option.bind_some]
  rw [(le_dispatchref6_Kids c q.Path).ok _ hk]
  simp only [Option.bind_some]
  have e : loop (dispatchref6_sums_l2 c kids) 0 = some (.inr ()) := by
    rcases hn with rfl | ⟨e, he, rfl⟩
    · rw [loop_eq]
      unfold dispatchref6_sums_l2
      rw [hl]
      rfl
    · have s0 : dispatchref6_sums_l2 c kids 0 = some (.inl 1) ∨ dispatchref6_sums_l2 c kids 0 = some (.inr (.inr ())) := by
        unfold dispatchref6_sums_l2
        rw [hl, decide_eq_true (by omega)]
        simp only [cond_true, Option.bind_some]
        cases hkl : decide ((kids.length : Int) > 0) with
        | false => exact .inr rfl
        | true =>
          simp only [cond_true]
          rw [(lo_iter (fun t => le_dispatchref6_sums_l3 c kids 0 t) (0, 0)).ok _ he]
          exact .inl rfl
      rcases s0 with s0 | s0
      · rw [loop_eq, s0]
        dsimp only
        rw [loop_eq]
        have : dispatchref6_sums_l2 c kids 1 = some (.inr (.inr ())) := by
          unfold dispatchref6_sums_l2
          rw [hl]
          rfl
        rw [this]
      · rw [loop_eq, s0]
  rw [e]
  rfl

theorem sums_ok {c : Conf} (h : ∀ k : Nat, k < c.Queues.length → dispatchref6_sums_l1 c (k : Int) = some (.inl ((k + 1 : Nat) : Int))) : dispatchref6_sums c = some true := by
  unfold dispatchref6_sums
  rw [loop_cnt (dispatchref6_sums_l1 c) c.Queues.length (.inr ()) h (by
    unfold dispatchref6_sums_l1
    rw [decide_eq_false (by omega)]
    rfl)]
  rfl

theorem whole {a : Int} (h0 : 0 ≤ a) (h1 : a ≤ 10000) : w64 (w64 (0 + a) + (10000 - a)) = 10000 := by
  rw [w64_id (x := 0 + a) (by omega) (by omega), w64_id (by omega) (by omega)]
  omega

theorem num_R : numOk qR := ⟨by decide, by decide, by decide, fun x hx => by
  simp only [List.mem_singleton] at hx
  subst hx
  decide⟩
theorem num_Q {p : List UInt8} {x : Int × Int} {u : Int} (h : Pr x) (h1 : 1 ≤ u) (h2 : u ≤ 1000000) : numOk (qQ p x u) := ⟨h1, h2, by simp, fun y hy => by
  simp only [List.mem_singleton] at hy
  subst hy
  exact ⟨h.1, h.2.1, h.2.2⟩⟩
theorem num_S {p : List UInt8} {x : Int × Int} (h : Pr x) : numOk (qS p x) := ⟨(by decide : (1 : Int) ≤ 1), (by decide : (1 : Int) ≤ 1000000), by simp, fun y hy => by
  simp only [List.mem_singleton] at hy
  subst hy
  unfold Pr at h
  dsimp only
  omega⟩

theorem check0 : dispatchref6_Check (cf L0) = some 0 := by
  refine check_ok (by kernel_rfl) rfl (by kernel_rfl) (fun q hq => ?_) (by decide) (by kernel_rfl) (sums_ok fun k hk => ?_)
  · simp only [List.mem_singleton] at hq
    subst hq
    exact num_R
  · have : k = 0 := by simpa using hk
    subst this
    exact sums_step (q := qR) (kids := []) (by decide) (by decide) rfl (by kernel_rfl) rfl (.inl rfl)

theorem check1 {x : Int × Int} (hx : Pr x) {u : Int} (u1 : 1 ≤ u) (u2 : u ≤ 1000000) : dispatchref6_Check (cf (L1 x u)) = some 0 := by
  obtain ⟨a, b⟩ := x
  refine check_ok (by kernel_rfl) rfl (by kernel_rfl) (fun q hq => ?_) (by simp) (by kernel_rfl) (sums_ok fun k hk => ?_)
  · simp only [List.mem_cons, List.not_mem_nil, or_false] at hq
    rcases hq with rfl | rfl | rfl
    · exact num_R
    · exact num_Q hx u1 u2
    · exact num_S hx
  · match k, hk with
    | 0, hk => exact sums_step (q := qR) (kids := [p1, s1]) hk (by simp) rfl (by kernel_rfl) rfl (.inr ⟨w64 (w64 (0 + a) + (10000 - a)), by kernel_rfl, whole hx.1 (by have := hx.2; dsimp only at this; omega)⟩)
    | 1, hk => exact sums_step (q := qQ p1 (a, b) u) (kids := []) hk (by simp) rfl (by kernel_rfl) rfl (.inl rfl)
    | 2, hk => exact sums_step (q := qS s1 (a, b)) (kids := []) hk (by simp) rfl (by kernel_rfl) rfl (.inl rfl)
    | k + 3, hk => exact absurd (show k + 3 < 3 from hk) (by omega)

theorem check2 {x y : Int × Int} (hx : Pr x) (hy : Pr y) {u : Int} (u1 : 1 ≤ u) (u2 : u ≤ 1000000) : dispatchref6_Check (cf (L2 x y u)) = some 0 := by
  obtain ⟨a, b⟩ := x
  obtain ⟨a', b'⟩ := y
  refine check_ok (by kernel_rfl) rfl (by kernel_rfl) (fun q hq => ?_) (by simp) (by kernel_rfl) (sums_ok fun k hk => ?_)
  · simp only [List.mem_cons, List.not_mem_nil, or_false] at hq
    rcases hq with rfl | rfl | rfl | rfl | rfl
    · exact num_R
    · exact num_Q hx u1 u2
    · exact num_Q hy u1 u2
    · exact num_S hy
    · exact num_S hx
  · match k, hk with
    | 0, hk => exact sums_step (q := qR) (kids := [p1, s1]) hk (by simp) rfl (by kernel_rfl) rfl (.inr ⟨w64 (w64 (0 + a) + (10000 - a)), by kernel_rfl, whole hx.1 (by have := hx.2; dsimp only at this; omega)⟩)
    | 1, hk => exact sums_step (q := qQ p1 (a, b) u) (kids := [p2, s2]) hk (by simp) rfl (by kernel_rfl) rfl (.inr ⟨w64 (w64 (0 + a') + (10000 - a')), by kernel_rfl, whole hy.1 (by have := hy.2; dsimp only at this; omega)⟩)
    | 2, hk => exact sums_step (q := qQ p2 (a', b') u) (kids := []) hk (by simp) rfl (by kernel_rfl) rfl (.inl rfl)
    | 3, hk => exact sums_step (q := qS s2 (a', b')) (kids := []) hk (by simp) rfl (by kernel_rfl) rfl (.inl rfl)
    | 4, hk => exact sums_step (q := qS s1 (a, b)) (kids := []) hk (by simp) rfl (by kernel_rfl) rfl (.inl rfl)
    | k + 5, hk => exact absurd (show k + 5 < 5 from hk) (by omega)

theorem check3 {x y z : Int × Int} (hx : Pr x) (hy : Pr y) (hz : Pr z) {u : Int} (u1 : 1 ≤ u) (u2 : u ≤ 1000000) : dispatchref6_Check (cf (L3 x y z u)) = some 0 := by
  obtain ⟨a, b⟩ := x
  obtain ⟨a', b'⟩ := y
  obtain ⟨a'', b''⟩ := z
  refine check_ok (by kernel_rfl) rfl (by kernel_rfl) (fun q hq => ?_) (by simp) (by kernel_rfl) (sums_ok fun k hk => ?_)
  · simp only [List.mem_cons, List.not_mem_nil, or_false] at hq
    rcases hq with rfl | rfl | rfl | rfl | rfl | rfl | rfl
    · exact num_R
    · exact num_Q hx u1 u2
    · exact num_Q hy u1 u2
    · exact num_Q hz u1 u2
    · exact num_S hz
    · exact num_S hy
    · exact num_S hx
  · match k, hk with
    | 0, hk => exact sums_step (q := qR) (kids := [p1, s1]) hk (by simp) rfl (by kernel_rfl) rfl (.inr ⟨w64 (w64 (0 + a) + (10000 - a)), by kernel_rfl, whole hx.1 (by have := hx.2; dsimp only at this; omega)⟩)
    | 1, hk => exact sums_step (q := qQ p1 (a, b) u) (kids := [p2, s2]) hk (by simp) rfl (by kernel_rfl) rfl (.inr ⟨w64 (w64 (0 + a') + (10000 - a')), by kernel_rfl, whole hy.1 (by have := hy.2; dsimp only at this; omega)⟩)
    | 2, hk => exact sums_step (q := qQ p2 (a', b') u) (kids := [p3, s3]) hk (by simp) rfl (by kernel_rfl) rfl (.inr ⟨w64 (w64 (0 + a'') + (10000 - a'')), by kernel_rfl, whole hz.1 (by have := hz.2; dsimp only at this; omega)⟩)
    | 3, hk => exact sums_step (q := qQ p3 (a'', b'') u) (kids := []) hk (by simp) rfl (by kernel_rfl) rfl (.inl rfl)
    | 4, hk => exact sums_step (q := qS s3 (a'', b'')) (kids := []) hk (by simp) rfl (by kernel_rfl) rfl (.inl rfl)
    | 5, hk => exact sums_step (q := qS s2 (a', b')) (kids := []) hk (by simp) rfl (by kernel_rfl) rfl (.inl rfl)
    | 6, hk => exact sums_step (q := qS s1 (a, b)) (kids := []) hk (by simp) rfl (by kernel_rfl) rfl (.inl rfl)
    | k + 7, hk => exact absurd (show k + 7 < 7 from hk) (by omega)

theorem sound_ok {l : List Queue} {v : Vec} (hv : Few v) (hc : dispatchref6_Check (cf l) = some 0) : dispatchref19_Sound (st l v) = some true := by
  unfold Few at hv
  obtain ⟨m, k⟩ := v
  dsimp only at hv
  unfold dispatchref19_Sound
  have e1 : dispatchref19_vecs (st l ⟨m, k⟩) = some true := by
    unfold dispatchref19_vecs
    have v1 : dispatchref19_vec ⟨m, k⟩ = some true := by
      unfold dispatchref19_vec
      dsimp only
      rw [decide_eq_true (by omega), decide_eq_true (by omega), decide_eq_true (by omega), decide_eq_true (by omega)]
      rfl
    have s0 : dispatchref19_vecs_l1 (st l ⟨m, k⟩) (true, 0) = some (.inl (true, 1)) := by
      have i0 : idx (st l ⟨m, k⟩).Nodes 0 = some (⟨1, 0, 0, ⟨m, k⟩, 0, 0, true⟩ : Node) := rfl
      unfold dispatchref19_vecs_l1
      rw [decide_eq_true (by simp)]
      simp only [cond_true, i0, Option.bind_some, v1]
      rfl
    have l1 : loop (dispatchref19_vecs_l1 (st l ⟨m, k⟩)) (true, 0) = some true := by
      rw [loop_eq, s0]
      dsimp only
      rw [loop_eq]
      rfl
    rw [l1]
    simp only [Option.bind_some]
    rw [(lo_iter (n := 4096) (fun t => le_dispatchref19_vecs_l2 (st l ⟨m, k⟩) t) (true, 0)).ok true (by kernel_rfl)]
    simp only [Option.bind_some]
    rw [(lo_iter (n := 4096) (fun t => le_dispatchref19_vecs_l3 (st l ⟨m, k⟩) t) (true, 0)).ok true (by kernel_rfl)]
    simp only [Option.bind_some]
    rw [(lo_iter (n := 4096) (fun t => le_dispatchref19_vecs_l4 (st l ⟨m, k⟩) t) (true, 0)).ok true (by kernel_rfl)]
    rfl
  have e2 : dispatchref19_orders (st l ⟨m, k⟩) = some true := (le_dispatchref19_orders (st l ⟨m, k⟩)).ok _ (by kernel_rfl)
  have e3 : dispatchref19_fit (st l ⟨m, k⟩) = some true := by
    unfold dispatchref19_fit
    have u1 : dispatchref8_Used (st l ⟨m, k⟩) 1 = some ⟨0, 0⟩ := (le_dispatchref8_Used (st l ⟨m, k⟩) 1).ok _ (by kernel_rfl)
    have s0 : dispatchref19_fit_l1 (st l ⟨m, k⟩) 0 = some (.inl 1) := by
      have i0 : idx (st l ⟨m, k⟩).Nodes 0 = some (⟨1, 0, 0, ⟨m, k⟩, 0, 0, true⟩ : Node) := rfl
      unfold dispatchref19_fit_l1
      rw [decide_eq_true (by simp)]
      simp only [cond_true, i0, Option.bind_some, u1]
      rw [decide_eq_false (by omega), decide_eq_false (by omega)]
      rfl
    have l1 : loop (dispatchref19_fit_l1 (st l ⟨m, k⟩)) 0 = some (.inr ()) := by
      rw [loop_eq, s0]
      dsimp only
      rw [loop_eq]
      rfl
    rw [l1]
    rfl
  rw [hc, e1, e2, e3]
  simp only [Option.bind_some, bne_self_eq_false, cond_false, Bool.not_true]
  rw [(lo_iter (n := 4096) (fun t => le_dispatchref19_Sound_l1 (st l ⟨m, k⟩) t) 0).ok (.inr ()) (by kernel_rfl)]
  simp only [Option.bind_some]
  rw [(lo_iter (n := 4096) (fun t => le_dispatchref19_Sound_l2 (st l ⟨m, k⟩) t) 0).ok (.inr ()) (by kernel_rfl)]
  simp only [Option.bind_some]
  rw [(lo_iter (n := 4096) (fun t => le_dispatchref19_Sound_l3 (st l ⟨m, k⟩) t) 0).ok (.inr ()) (by kernel_rfl)]
  rfl
end Go.Fx.D
