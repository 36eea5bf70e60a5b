/-
  Laws over plain data: true at all inputs. Conditions: none.
-/
import Derived.Test.YtfpkhbclbhghnaaQ
namespace Go.Fx.D
open Go Go.Fx
set_option linter.unusedVariables false
set_option linter.unusedSimpArgs false

/-- parts of ten thousand -/
def sc (v : Vec) (k : Int) : Vec := ⟨v.Mem * k / 10000, v.Cores * k / 10000⟩
theorem sc_few {v : Vec} (h : Few v) {k : Int} (k0 : 0 ≤ k) (k1 : k ≤ 10000) : Few (sc v k) ∧ rvec_Scale v k = some (sc v k, 0) := by
  have ho : Ok v := by unfold Few at h; unfold Ok; omega
  obtain ⟨e, a, b, c, d⟩ := scale_le ho k0 k1
  refine ⟨?_, e⟩
  unfold Few at h ⊢
  unfold sc
  dsimp only
  omega

theorem total_st {l : List Queue} {v : Vec} (hv : Few v) : share_Total (st l v) 0 = some v := by
  unfold share_Total
  rw [iter_loop (n := 3) (r := [v]) (by kernel_rfl)]
  simp only [Option.bind_some]
  rw [sum_eq (l := [v]) (fun x hx => by rw [List.mem_singleton] at hx; rw [hx]; exact hv) (by simp)]
  obtain ⟨m, k⟩ := v
  simp [sumV]

/-- one step down -/
theorem down_step {l : List Queue} {v : Vec} {f : TupT fam [.st 0] → Option Int} {up : List (List UInt8)} {i : Nat} {p : List UInt8} {cap : Cap} {u bp : Int} {t0 out : Vec} (hi : up[i]? = some p) (hn : i < 100)
    (hf : c_rule_Find (cf l) p = some (⟨p, [cap], u⟩, true)) (hb : f (cap, ()) = some bp) (ho : Few out) (b0 : 0 ≤ bp) (b1 : bp ≤ 10000) : share_down_l1 (st l v) 0 f up (t0, out, (i : Int)) = some (.inl (t0, sc out bp, (i : Int) - 1)) := by
  unfold share_down_l1
  have hlt : i < up.length := (List.getElem?_eq_some_iff.1 hi).1
  have hin : inb (i : Int) up.length = some i := by unfold inb; rw [Int.toNat_natCast, if_pos ⟨by omega, hlt⟩]
  rw [decide_eq_true (by dsimp only; omega)]
  dsimp only
  rw [hin]
  simp only [cond_true, Option.bind_some, hi]
  have hf' : rule_Find (st l v).Conf p = some (⟨p, [cap], u⟩, true) := (le_rule_Find (cf l) p).ok _ hf
  rw [hf']
  have e0 : inb 0 ([cap] : List Cap).length = some 0 := rfl
  have e1 : ([cap] : List Cap)[0]? = some cap := rfl
  have e2 : (bif !(true : Bool) then some true else bif decide ((0 : Int) < 0) then some true else some (decide ((0 : Int) ≥ (([cap] : List Cap).length : Int))) : Option Bool) = some false := rfl
  simp only [Option.bind_some]
  rw [e2]
  simp only [Option.bind_some, cond_false]
  rw [e0]
  simp only [Option.bind_some]
  rw [e1]
  simp only [Option.bind_some, hb]
  rw [(sc_few ho b0 b1).2, w64_id (by omega) (by omega)]
  rfl

theorem down_end {s : State} {f : TupT fam [.st 0] → Option Int} {up : List (List UInt8)} {t0 out : Vec} : share_down_l1 s 0 f up (t0, out, -1) = some (.inr (.inr (t0, out))) := by
  unfold share_down_l1
  rfl

theorem down_of {l : List Queue} {v w : Vec} {f : TupT fam [.st 0] → Option Int} {p : List UInt8} {up : List (List UInt8)} {q : Queue} {n : Nat} (hv : Few v) (hu : c_rule_Up p = some up) (hn : up.length = n + 1) (h100 : n ≤ 100) (hf : c_rule_Find (cf l) p = some (q, true))
    (h : loop (share_down_l1 (st l v) 0 f up) (⟨0, 0⟩, v, (n : Int) - 1) = some (.inr (⟨0, 0⟩, w))) : share_down (st l v) p 0 f = some w := by
  unfold share_down
  rw [(le_rule_Up p).ok _ hu]
  simp only [Option.bind_some]
  have hf' : rule_Find (st l v).Conf p = some (q, true) := (le_rule_Find (cf l) p).ok _ hf
  rw [hf']
  simp only [Option.bind_some, Bool.not_true, cond_false]
  rw [total_st hv, hn, w64_id (by omega) (by omega)]
  simp only [Option.bind_some]
  rw [show ((n + 1 : Nat) : Int) - 2 = (n : Int) - 1 by omega, h]
  rfl

/-- down 0, 1, 2, 3 steps, by any part -/
theorem down0 {v : Vec} {f : TupT fam [.st 0] → Option Int} (hv : Few v) : share_down (st L0 v) root 0 f = some v :=
  down_of (up := [root]) (n := 0) hv (by kernel_rfl) rfl (by omega) (q := qR) (by kernel_rfl) (by
    rw [show ((0 : Nat) : Int) - 1 = -1 from rfl, loop_eq, down_end])
theorem down1 {v : Vec} {f : TupT fam [.st 0] → Option Int} {a b u k : Int} (hv : Few v) (hf : f (⟨a, b⟩, ()) = some k) (k0 : 0 ≤ k) (k1 : k ≤ 10000) : share_down (st (L1 (a, b) u) v) p1 0 f = some (sc v k) :=
  down_of (up := [p1, root]) (n := 1) hv (by kernel_rfl) rfl (by omega) (q := qQ p1 (a, b) u) (by kernel_rfl) (by
    have s := down_step (l := L1 (a, b) u) (v := v) (f := f) (up := [p1, root]) (i := 0) (p := p1) (cap := ⟨a, b⟩) (u := u) (bp := k) (t0 := ⟨0, 0⟩) (out := v) rfl (by omega) (by kernel_rfl) hf hv k0 k1
    rw [show ((1 : Nat) : Int) - 1 = ((0 : Nat) : Int) from rfl, loop_eq, s]
    dsimp only
    rw [show ((0 : Nat) : Int) - 1 = -1 from rfl, loop_eq, down_end])
theorem down2 {v : Vec} {f : TupT fam [.st 0] → Option Int} {a b a' b' u k k' : Int} (hv : Few v) (hf : f (⟨a, b⟩, ()) = some k) (k0 : 0 ≤ k) (k1 : k ≤ 10000) (hf' : f (⟨a', b'⟩, ()) = some k') (k0' : 0 ≤ k') (k1' : k' ≤ 10000) : share_down (st (L2 (a, b) (a', b') u) v) p2 0 f = some (sc (sc v k) k') :=
  down_of (up := [p2, p1, root]) (n := 2) hv (by kernel_rfl) rfl (by omega) (q := qQ p2 (a', b') u) (by kernel_rfl) (by
    have s := down_step (l := L2 (a, b) (a', b') u) (v := v) (f := f) (up := [p2, p1, root]) (i := 1) (p := p1) (cap := ⟨a, b⟩) (u := u) (bp := k) (t0 := ⟨0, 0⟩) (out := v) rfl (by omega) (by kernel_rfl) hf hv k0 k1
    have s' := down_step (l := L2 (a, b) (a', b') u) (v := v) (f := f) (up := [p2, p1, root]) (i := 0) (p := p2) (cap := ⟨a', b'⟩) (u := u) (bp := k') (t0 := ⟨0, 0⟩) (out := sc v k) rfl (by omega) (by kernel_rfl) hf' (sc_few hv k0 k1).1 k0' k1'
    rw [show ((2 : Nat) : Int) - 1 = ((1 : Nat) : Int) from rfl, loop_eq, s]
    dsimp only
    rw [show ((1 : Nat) : Int) - 1 = ((0 : Nat) : Int) from rfl, loop_eq, s']
    dsimp only
    rw [show ((0 : Nat) : Int) - 1 = -1 from rfl, loop_eq, down_end])
theorem down3 {v : Vec} {f : TupT fam [.st 0] → Option Int} {a b a' b' a'' b'' u k k' k'' : Int} (hv : Few v) (hf : f (⟨a, b⟩, ()) = some k) (k0 : 0 ≤ k) (k1 : k ≤ 10000) (hf' : f (⟨a', b'⟩, ()) = some k') (k0' : 0 ≤ k') (k1' : k' ≤ 10000) (hf'' : f (⟨a'', b''⟩, ()) = some k'') (k0'' : 0 ≤ k'') (k1'' : k'' ≤ 10000) :
    share_down (st (L3 (a, b) (a', b') (a'', b'') u) v) p3 0 f = some (sc (sc (sc v k) k') k'') :=
  down_of (up := [p3, p2, p1, root]) (n := 3) hv (by kernel_rfl) rfl (by omega) (q := qQ p3 (a'', b'') u) (by kernel_rfl) (by
    have s := down_step (l := L3 (a, b) (a', b') (a'', b'') u) (v := v) (f := f) (up := [p3, p2, p1, root]) (i := 2) (p := p1) (cap := ⟨a, b⟩) (u := u) (bp := k) (t0 := ⟨0, 0⟩) (out := v) rfl (by omega) (by kernel_rfl) hf hv k0 k1
    have s' := down_step (l := L3 (a, b) (a', b') (a'', b'') u) (v := v) (f := f) (up := [p3, p2, p1, root]) (i := 1) (p := p2) (cap := ⟨a', b'⟩) (u := u) (bp := k') (t0 := ⟨0, 0⟩) (out := sc v k) rfl (by omega) (by kernel_rfl) hf' (sc_few hv k0 k1).1 k0' k1'
    have s'' := down_step (l := L3 (a, b) (a', b') (a'', b'') u) (v := v) (f := f) (up := [p3, p2, p1, root]) (i := 0) (p := p3) (cap := ⟨a'', b''⟩) (u := u) (bp := k'') (t0 := ⟨0, 0⟩) (out := sc (sc v k) k') rfl (by omega) (by kernel_rfl) hf'' (sc_few (sc_few hv k0 k1).1 k0' k1').1 k0'' k1''
    rw [show ((3 : Nat) : Int) - 1 = ((2 : Nat) : Int) from rfl, loop_eq, s]
    dsimp only
    rw [show ((2 : Nat) : Int) - 1 = ((1 : Nat) : Int) from rfl, loop_eq, s']
    dsimp only
    rw [show ((1 : Nat) : Int) - 1 = ((0 : Nat) : Int) from rfl, loop_eq, s'']
    dsimp only
    rw [show ((0 : Nat) : Int) - 1 = -1 from rfl, loop_eq, down_end])

/-! the script's steps -/
def pr (n : Int) : Int × Int := (n % 10001, n % 10001 + (Int.tdiv n 3) % (10001 - n % 10001))
theorem pr_ok (n : Int) : Pr (pr n) := by
  unfold pr Pr
  dsimp only
  have h0 := Int.emod_nonneg n (show (10001 : Int) ≠ 0 by omega)
  have h1 := Int.emod_lt_of_pos n (show (0 : Int) < 10001 by omega)
  have h2 := Int.emod_nonneg (Int.tdiv n 3) (show 10001 - n % 10001 ≠ 0 by omega)
  have h3 := Int.emod_lt_of_pos (Int.tdiv n 3) (show 0 < 10001 - n % 10001 by omega)
  omega
theorem tdiv_bd {n : Int} (h0 : -9223372036854775808 ≤ n) (h1 : n < 9223372036854775808) {k : Int} (hk : 2 ≤ k) (hk2 : k ≤ 10) : w64 (Int.tdiv n k) = Int.tdiv n k := by
  have e : Int.tdiv n k = if 0 ≤ n then n / k else -((-n) / k) := by
    split
    · rw [Int.tdiv_eq_ediv_of_nonneg (by assumption)]
    · rename_i h
      have := Int.neg_tdiv (-n) k
      rw [Int.neg_neg] at this
      rw [this, Int.tdiv_eq_ediv_of_nonneg (by omega)]
  have b1 : ∀ x : Int, 0 ≤ x → x ≤ 9223372036854775808 → 0 ≤ x / k ∧ x / k ≤ 4611686018427387904 := by
    intro x hx0 hx1
    refine ⟨Int.ediv_nonneg hx0 (by omega), ?_⟩
    have h2 : x / k ≤ x / 2 := by
      apply Int.le_ediv_of_mul_le (by omega)
      have h3 := Int.ediv_mul_le x (show k ≠ 0 by omega)
      have h4 : 0 ≤ x / k := Int.ediv_nonneg hx0 (by omega)
      have h5 : x / k * 2 ≤ x / k * k := Int.mul_le_mul_of_nonneg_left hk h4
      omega
    omega
  rw [e]
  split
  · have := b1 n (by assumption) (by omega)
    exact w64_id (by omega) (by omega)
  · have := b1 (-n) (by omega) (by omega)
    exact w64_id (by omega) (by omega)

set_option maxRecDepth 100000 in
theorem step_eq {bps : List Int} {user : Int} {k : Nat} {L L' L'' : List Queue} {v least most : Vec} {p : List UInt8} (hk : k < bps.length) (h3 : k < 3) (hr : -9223372036854775808 ≤ bps[k] ∧ bps[k] < 9223372036854775808)
    (hp : p.length ≤ 100) (hl : Few least) (hm : Few most)
    (h1 : c_dispatchlaw7_lay L ⟨p ++ [46, 114], [⟨10000 - (pr bps[k]).1, 10000⟩], 1⟩ = some L') (h2 : c_dispatchlaw7_lay L' ⟨p ++ [46, 113], [⟨(pr bps[k]).1, (pr bps[k]).2⟩], 1 + user % 1000000⟩ = some L'') :
    dispatchlaw7_ShareDown_l1 bps user (st L v, p, least, most, (k : Int)) = some (.inl (st L'' v, p ++ [46, 113], sc least (pr bps[k]).1, sc most (pr bps[k]).2, ((k + 1 : Nat) : Int))) := by
  have ho := pr_ok bps[k]
  unfold Pr at ho
  have h0 := Int.emod_nonneg bps[k] (show (10001 : Int) ≠ 0 by omega)
  have h01 := Int.emod_lt_of_pos bps[k] (show (0 : Int) < 10001 by omega)
  unfold dispatchlaw7_ShareDown_l1
  dsimp only
  rw [decide_eq_true (show (k : Int) < (bps.length : Int) by omega), decide_eq_true (show (k : Int) < 3 by omega), idx_lt hk]
  rw [cond_true]
  rw [Option.bind_some]
  rw [cond_true]
  rw [Option.bind_some]
  rw [within_eq (show (0 : Int) < 10001 by omega) (show (10001 : Int) ≤ 4611686018427387904 by omega)]
  rw [Option.bind_some]
  rw [Option.bind_some]
  rw [w64_id (x := 10000 - bps[k] % 10001) (by omega) (by omega), w64_id (x := 10000 - bps[k] % 10001 + 1) (by omega) (by omega), tdiv_bd hr.1 hr.2 (by omega) (by omega)]
  rw [within_eq (show 0 < 10000 - bps[k] % 10001 + 1 by omega) (by omega)]
  have e1 : bps[k] % 10001 + Int.tdiv bps[k] 3 % (10000 - bps[k] % 10001 + 1) = (pr bps[k]).2 := by
    unfold pr
    dsimp only
    rw [show 10000 - bps[k] % 10001 + 1 = 10001 - bps[k] % 10001 by omega]
  have e2 : bps[k] % 10001 = (pr bps[k]).1 := by unfold pr; exact Eq.refl _
  rw [Option.bind_some]
  rw [e1, e2, w64_id (x := (pr bps[k]).2) (by omega) (by omega)]
  have c1 : cat p [46, 114] = some (p ++ [46, 114]) := by unfold cat; rw [if_pos]; simp only [List.length_cons, List.length_nil]; omega
  have c2 : cat p [46, 113] = some (p ++ [46, 113]) := by unfold cat; rw [if_pos]; simp only [List.length_cons, List.length_nil]; omega
  rw [c1, c2]
  rw [Option.bind_some]
  have u0 := Int.emod_nonneg user (show (1000000 : Int) ≠ 0 by omega)
  have u1 := Int.emod_lt_of_pos user (show (0 : Int) < 1000000 by omega)
  have g1 : dispatchlaw7_lay (cf L).Queues ⟨p ++ [46, 114], [⟨10000 - (pr bps[k]).1, 10000⟩], 1⟩ = some L' := (le_dispatchlaw7_lay _ _).ok _ h1
  rw [g1]
  rw [Option.bind_some]
  rw [within_eq (show (0 : Int) < 1000000 by omega) (show (1000000 : Int) ≤ 4611686018427387904 by omega)]
  rw [Option.bind_some]
  rw [Option.bind_some]
  rw [w64_id (x := 1 + user % 1000000) (by omega) (by omega), (le_dispatchlaw7_lay _ _).ok _ h2]
  rw [Option.bind_some]
  rw [rscale_eq, rscale_eq, (sc_few hl (by omega) (by omega)).2, (sc_few hm (by omega) (by omega)).2, step_succ (by omega)]
  rfl

theorem fin_eq {bps : List Int} {user : Int} {k : Nat} {s : State} {p : List UInt8} {least most : Vec} (h : ¬ (k < bps.length ∧ k < 3)) : dispatchlaw7_ShareDown_l1 bps user (s, p, least, most, (k : Int)) = some (.inr (s, p, least, most)) := by
  unfold dispatchlaw7_ShareDown_l1
  dsimp only
  by_cases h1 : k < bps.length
  · rw [decide_eq_true (show (k : Int) < (bps.length : Int) by omega), decide_eq_false (show ¬ (k : Int) < 3 by omega)]
    rfl
  · rw [decide_eq_false (show ¬ (k : Int) < (bps.length : Int) by omega)]
    rfl

/-- what is asked behind the script -/
theorem behind {s : State} {p : List UInt8} {least most : Vec} {n : Int} {q : Queue} {fl : Bool} (hs : dispatchref19_Sound s = some true) (h1 : share_Least s p 0 = some least) (h2 : share_Most s p 0 = some most) (hf : rule_Find s.Conf p = some (q, fl)) (hu : q.User = n) :
    ((dispatchref1_Scale least n).bind fun x15 =>
    (dispatchref19_Sound s).bind fun x16 =>
    bif x16 then
      (share_Least s p 0).bind fun x17 =>
      bif (x17.Mem == least.Mem) && (x17.Cores == least.Cores) then
        (share_Most s p 0).bind fun x18 =>
        bif (x18.Mem == most.Mem) && (x18.Cores == most.Cores) then
          (share_User s p 0).bind fun x19 =>
          some ((x19.Mem == x15.1.Mem) && (x19.Cores == x15.1.Cores))
        else
          some false
      else
        some false
    else
      some false) = some true := by
  have hu' : ∃ x, rvec_Scale least n = some x ∧ share_User s p 0 = some x.1 := by
    refine ⟨_, scale_eq least n, ?_⟩
    unfold share_User
    rw [hf, h1]
    simp only [Option.bind_some]
    rw [hu, scale_eq least n]
    rfl
  obtain ⟨x, x1, x2⟩ := hu'
  rw [rscale_eq, x1, hs, h1, h2, x2]
  simp

theorem wf_i {n : Int} (h : WfT fam (.int .i64) n) : -9223372036854775808 ≤ n ∧ n < 9223372036854775808 := by
  cases h with
  | int h =>
    simp only [Lit.wf, Bool.and_eq_true, decide_eq_true_eq, IntKind.min, IntKind.max, IntKind.bits, IntKind.signed] at h
    simp at h
    omega
theorem wf_l {l : List Int} (h : WfT fam (.slice (.int .i64)) l) : ∀ k (h : k < l.length), -9223372036854775808 ≤ l[k] ∧ l[k] < 9223372036854775808 := by
  cases h with
  | slice hl h => exact fun k hk => wf_i (h _ (List.getElem_mem hk))

theorem plainShareDown (mem : Int) (bps : List Int) (user : Int) (w0 : WfT fam (.int .i64) mem) (w1 : WfT fam (.slice (.int .i64)) bps) (w2 : WfT fam (.int .i64) user) : dispatchlaw7_ShareDown mem bps user = some true := by
  have hmem := wf_i w0
  have hb := wf_l w1
  unfold dispatchlaw7_ShareDown dispatchref19_New
  rw [known_eq]
  simp only [Option.bind_some, Bool.not_true, cond_false, within_eq (show (0 : Int) < 1073741825 by omega) (show (1073741825 : Int) ≤ 4611686018427387904 by omega), within_eq (show (0 : Int) < 1000 by omega) (show (1000 : Int) ≤ 4611686018427387904 by omega), within_eq (show (0 : Int) < 1000000 by omega) (show (1000000 : Int) ≤ 4611686018427387904 by omega)]
  rw [tdiv_bd hmem.1 hmem.2 (by omega) (by omega)]
  have m0 := Int.emod_nonneg mem (show (1073741825 : Int) ≠ 0 by omega)
  have m1 := Int.emod_lt_of_pos mem (show (0 : Int) < 1073741825 by omega)
  have c0 := Int.emod_nonneg (Int.tdiv mem 7) (show (1000 : Int) ≠ 0 by omega)
  have c1 := Int.emod_lt_of_pos (Int.tdiv mem 7) (show (0 : Int) < 1000 by omega)
  have hV : Few (⟨mem % 1073741825, Int.tdiv mem 7 % 1000⟩ : Vec) := by unfold Few; dsimp only; omega
  generalize (⟨mem % 1073741825, Int.tdiv mem 7 % 1000⟩ : Vec) = V at *
  have i0 : inb 0 [(⟨1, 0, 0, V, 0, 0, true⟩ : Node)].length = some 0 := rfl
  have u0 := Int.emod_nonneg user (show (1000000 : Int) ≠ 0 by omega)
  have u1 := Int.emod_lt_of_pos user (show (0 : Int) < 1000000 by omega)
  rw [i0]
  simp only [Option.bind_some, List.getElem?_cons_zero]
  show ((loop (dispatchlaw7_ShareDown_l1 bps user) (st L0 V, root, V, V, ((0 : Nat) : Int))).bind _) = _
  by_cases h0 : 0 < bps.length
  rotate_left
  · rw [loop_eq, fin_eq (by omega)]
    simp only [Option.bind_some]
    exact behind (sound_ok hV check0) (by unfold share_Least; rw [down0 hV]; rfl) (by unfold share_Most; rw [down0 hV]; rfl) ((le_rule_Find (cf L0) root).ok (qR, true) (by kernel_rfl)) rfl
  have r0 := pr_ok bps[0]
  rw [loop_eq, step_eq (L' := [qR, qS s1 (pr bps[0])]) (L'' := L1 (pr bps[0]) (1 + user % 1000000)) h0 (by omega) (hb 0 h0) (by simp) hV hV (by kernel_rfl) (by kernel_rfl)]
  dsimp only
  have f0 := (sc_few hV r0.1 (by have := r0.2; omega)).1
  have g0 := (sc_few hV (show 0 ≤ (pr bps[0]).2 by have := r0.1; have := r0.2; omega) r0.2.2).1
  by_cases h1 : 1 < bps.length
  rotate_left
  · rw [loop_eq, fin_eq (by omega)]
    simp only [Option.bind_some]
    show ((some (w64 (1 + user % 1000000)) : Option Int).bind _) = _
    rw [w64_id (x := 1 + user % 1000000) (by omega) (by omega)]
    simp only [Option.bind_some]
    exact behind (fl := true) (p := p1) (n := 1 + user % 1000000) (q := qQ p1 (pr bps[0]) (1 + user % 1000000)) (sound_ok hV (check1 r0 (by omega) (by omega)))
      (by unfold share_Least; rw [down1 (k := (pr bps[0]).1) hV rfl r0.1 (by have := r0.2; omega)]; rfl)
      (by unfold share_Most; rw [down1 (k := (pr bps[0]).2) hV rfl (by have := r0.1; have := r0.2; omega) r0.2.2]; rfl)
      ((le_rule_Find (cf (L1 (pr bps[0]) (1 + user % 1000000))) p1).ok _ (by kernel_rfl)) rfl
  have r1 := pr_ok bps[1]
  rw [loop_eq, step_eq (L' := [qR, qQ p1 (pr bps[0]) (1 + user % 1000000), qS s2 (pr bps[1]), qS s1 (pr bps[0])]) (L'' := L2 (pr bps[0]) (pr bps[1]) (1 + user % 1000000)) h1 (by omega) (hb 1 h1) (by simp) f0 g0 (by kernel_rfl) (by kernel_rfl)]
  dsimp only
  have f1 := (sc_few f0 r1.1 (by have := r1.2; omega)).1
  have g1 := (sc_few g0 (show 0 ≤ (pr bps[1]).2 by have := r1.1; have := r1.2; omega) r1.2.2).1
  by_cases h2 : 2 < bps.length
  rotate_left
  · rw [loop_eq, fin_eq (by omega)]
    simp only [Option.bind_some]
    show ((some (w64 (1 + user % 1000000)) : Option Int).bind _) = _
    rw [w64_id (x := 1 + user % 1000000) (by omega) (by omega)]
    simp only [Option.bind_some]
    exact behind (fl := true) (p := p2) (n := 1 + user % 1000000) (q := qQ p2 (pr bps[1]) (1 + user % 1000000)) (sound_ok hV (check2 r0 r1 (by omega) (by omega)))
      (by unfold share_Least; rw [down2 (k := (pr bps[0]).1) (k' := (pr bps[1]).1) hV rfl r0.1 (by have := r0.2; omega) rfl r1.1 (by have := r1.2; omega)]; rfl)
      (by unfold share_Most; rw [down2 (k := (pr bps[0]).2) (k' := (pr bps[1]).2) hV rfl (by have := r0.1; have := r0.2; omega) r0.2.2 rfl (by have := r1.1; have := r1.2; omega) r1.2.2]; rfl)
      ((le_rule_Find (cf (L2 (pr bps[0]) (pr bps[1]) (1 + user % 1000000))) p2).ok _ (by kernel_rfl)) rfl
  have r2 := pr_ok bps[2]
  rw [loop_eq, step_eq (L' := [qR, qQ p1 (pr bps[0]) (1 + user % 1000000), qQ p2 (pr bps[1]) (1 + user % 1000000), qS s3 (pr bps[2]), qS s2 (pr bps[1]), qS s1 (pr bps[0])]) (L'' := L3 (pr bps[0]) (pr bps[1]) (pr bps[2]) (1 + user % 1000000)) h2 (by omega) (hb 2 h2) (by simp) f1 g1 (by kernel_rfl) (by kernel_rfl)]
  dsimp only
  rw [loop_eq, fin_eq (by omega)]
  simp only [Option.bind_some]
  show ((some (w64 (1 + user % 1000000)) : Option Int).bind _) = _
  rw [w64_id (x := 1 + user % 1000000) (by omega) (by omega)]
  simp only [Option.bind_some]
  exact behind (fl := true) (p := p3) (n := 1 + user % 1000000) (q := qQ p3 (pr bps[2]) (1 + user % 1000000)) (sound_ok hV (check3 r0 r1 r2 (by omega) (by omega)))
    (by unfold share_Least; rw [down3 (k := (pr bps[0]).1) (k' := (pr bps[1]).1) (k'' := (pr bps[2]).1) hV rfl r0.1 (by have := r0.2; omega) rfl r1.1 (by have := r1.2; omega) rfl r2.1 (by have := r2.2; omega)]; rfl)
    (by unfold share_Most; rw [down3 (k := (pr bps[0]).2) (k' := (pr bps[1]).2) (k'' := (pr bps[2]).2) hV rfl (by have := r0.1; have := r0.2; omega) r0.2.2 rfl (by have := r1.1; have := r1.2; omega) r1.2.2 rfl (by have := r2.1; have := r2.2; omega) r2.2.2]; rfl)
    ((le_rule_Find (cf (L3 (pr bps[0]) (pr bps[1]) (pr bps[2]) (1 + user % 1000000))) p3).ok _ (by kernel_rfl)) rfl
end Go.Fx.D
