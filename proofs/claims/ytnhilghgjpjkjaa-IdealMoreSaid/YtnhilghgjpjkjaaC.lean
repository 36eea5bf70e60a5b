/-
  Each of these functions' calls computes what its function over plain data says (printed by gen.py). Conditions: where the plain function gives an answer.
-/
import Derived.Test.YtnhilghgjpjkjaaD
import Derived.Test.YtnhilghgjpjkjaaChecked
import Derived.Eval
namespace Go.Fw
open Go Go.Proofs Go.Fw.D
set_option linter.unusedVariables false

abbrev enc_u8 (n : Int) : List ID := [.i .u8 n]
abbrev enc_i8 (n : Int) : List ID := [.i .i8 n]
abbrev enc_i16 (n : Int) : List ID := [.i .i16 n]
abbrev enc_u16 (n : Int) : List ID := [.i .u16 n]
abbrev enc_i32 (n : Int) : List ID := [.i .i32 n]
abbrev enc_u32 (n : Int) : List ID := [.i .u32 n]
abbrev enc_u64 (n : Int) : List ID := [.i .u64 n]



theorem row3 : RowOk Try.prog 3 ⟨Try.t3.desc, 1, 8, [.i .i64 0]⟩ := ⟨by kernel_rfl, ⟨Try.t3, (Try.t3.zero).getD .nilFunc, by kernel_rfl, by kernel_rfl, by kernel_rfl⟩⟩
theorem row4 : RowOk Try.prog 4 ⟨Try.t4.desc, 1, 1, [.b false]⟩ := ⟨by kernel_rfl, ⟨Try.t4, (Try.t4.zero).getD .nilFunc, by kernel_rfl, by kernel_rfl, by kernel_rfl⟩⟩
theorem row22 : RowOk Try.prog 22 ⟨Try.t22.desc, 1, 24, [.nl 1]⟩ := ⟨by kernel_rfl, ⟨Try.t22, (Try.t22.zero).getD .nilFunc, by kernel_rfl, by kernel_rfl, by kernel_rfl⟩⟩
noncomputable def tbl : List (Nat × TI) := [(3, ⟨Try.t3.desc, 1, 8, [.i .i64 0]⟩), (4, ⟨Try.t4.desc, 1, 1, [.b false]⟩), (22, ⟨Try.t22.desc, 1, 24, [.nl 1]⟩)]
theorem tok : TblOk Try.prog (look tbl) := tblOk (all_cons row3 (all_cons row4 (all_cons row22 all_nil)))
theorem mix : Try.prog.follows .mixedOrders = true := Checked.mixed Try.checked
theorem areg {n : Nat} {F : Fr} {Q : Exit → Act → World → Prop} {id : Nat} {ops : Array Oper} {draw : Bool} (orcs : List Orc) (cs : List Cmd) {s s' : LS} {V : List Prop}
    (h : evReg Try.prog (look tbl) n ops draw orcs cs s = some (s', V)) (hv : All V) (hp : Post n F Q .normal s') : Awp Try.prog n F (.region id ops draw) Q s := awp_reg tok mix orcs cs h hv hp

theorem con_dispatchref16_good {n : Int} {r : Int} (h : D.dispatchref16_good n = some r) : Con Try.prog 14 [I n] (I r) := by
  refine con_intro Try.func14 rfl Try.ntmps14 (by kernel_rfl) rfl fun F hF => ?_
  unfold D.dispatchref16_good at h
  refine awp_seq ?_
  refine areg [] [.keep [0] [], .useU []] (s' := ⟨[(0, I n)], [], []⟩) (by kernel_rfl) an ?_
  refine post_then ?_
  refine awp_seq ?_
  refine awp_seq ?_
  replace h := bs h
  obtain ⟨v, hj1, h⟩ := h
  refine awp_cutN (⟨[(0, I n), (8, Bo v)], [], []⟩) ?_ ?_
  · replace h := hj1
    clear hj1
    rcases boolc (decide (n < 0)) with hj2 | hj2
    · replace h := ifT hj2 h
      refine areg [{b := true}, {b := true}] [.keep [0, 8] [], .useU []] (s' := ⟨[(0, I n), (8, Bo true)], [], []⟩) (by kernel_rfl) (ac (hj2 : (decide (n < 0)) = true) (ac (hj2 : (decide (n < 0)) = true) an)) ?_
      have e := Option.some.inj h
      clear h
      subst e
      exact post_cmds [.keep [0, 8] [], .useU [], .keep [0, 8] [], .useU []] (by kernel_rfl) an post_in
    · replace h := ifF hj2 h
      refine areg [{b := false}, {b := false}] [.keep [0, 8] [], .useU []] (s' := ⟨[(0, I n), (8, Bo (decide (n > 1125899906842624)))], [], []⟩) (by kernel_rfl) (ac (hj2 : (decide (n < 0)) = false) (ac (hj2 : (decide (n < 0)) = false) an)) ?_
      have e := Option.some.inj h
      clear h
      subst e
      exact post_cmds [.keep [0, 8] [], .useU [], .keep [0, 8] [], .useU []] (by kernel_rfl) an post_in
  · skip
    refine post_then ?_
    refine awp_cond (b := v) rfl (fun hb => ?_) (fun hb => ?_)
    · replace h := ifT hb h
      refine awp_seq ?_
      refine areg [] [.keep [2] [], .useU []] (s' := ⟨[(2, I 0)], [], []⟩) (by kernel_rfl) an ?_
      refine post_then ?_
      refine awp_ret ?_
      refine post_thenR ?_
      have e := Option.some.inj h
      clear h
      subst e
      exact post_ret tok hF rfl (by kernel_rfl) (by kernel_rfl)
    · replace h := ifF hb h
      refine awp_skip ?_
      refine post_then ?_
      refine awp_seq ?_
      refine areg [] [.keep [2] [], .useU []] (s' := ⟨[(2, I n)], [], []⟩) (by kernel_rfl) an ?_
      refine post_then ?_
      refine awp_ret ?_
      have e := Option.some.inj h
      clear h
      subst e
      exact post_ret tok hF rfl (by kernel_rfl) (by kernel_rfl)

theorem con_ideal_lesser {first : Int} {l : (List Int)} {r : Int} (h : D.ideal_lesser first l = some r) : Con Try.prog 12 [I first, .c (.im (.sl 1 (l.map enc_int)))] (I r) := by
  refine con_intro Try.func12 rfl Try.ntmps12 (by kernel_rfl) rfl fun F hF => ?_
  unfold D.ideal_lesser at h
  refine awp_seq ?_
  refine areg [] [.keep [0, 1] [], .useU []] (s' := ⟨[(0, I first), (1, .c (.im (.sl 1 (l.map enc_int))))], [], []⟩) (by kernel_rfl) an ?_
  refine post_then ?_
  refine awp_seq ?_
  refine awp_seq ?_
  refine areg [{n := l.length}] [.keep [0, 7, 8, 9] [], .useU []] (s' := ⟨[(0, I first), (7, .c (.im (.sl 1 (l.map enc_int)))), (8, I (l.length : Int)), (9, I 0)], [], []⟩) (by kernel_rfl) (ac (len_map (l := l) enc_int) an) ?_
  refine post_then ?_
  replace h := bs h
  obtain ⟨first2, hj2, h⟩ := h
  refine awp_cutN (⟨[(0, I first2)], [], []⟩) ?_ ?_
  · replace h := hj2
    clear hj2
    refine awp_cmds [.keep [0, 7, 8, 9] [], .useU [], .keep [0, 7, 8, 9] [], .useU []] (by kernel_rfl) an (awp_block (awp_loop (fun k s => ∃ (first1 : Int) (v : Int), D.ideal_lesser_l1 l k first1 v = some first2 ∧ s = ⟨[(0, I first1), (7, .c (.im (.sl 1 (l.map enc_int)))), (8, I (l.length : Int)), (9, I v)], [], []⟩) ⟨_, _, h, rfl⟩ ?_))
    clear h
    rintro (_ | k) s ⟨first1, v, h, rfl⟩
    · cases h
    · unfold D.ideal_lesser_l1 at h
      refine awp_seq ?_
      refine areg [] [.keep [0, 7, 8, 9, 10] [], .useU []] (s' := ⟨[(0, I first1), (7, .c (.im (.sl 1 (l.map enc_int)))), (8, I (l.length : Int)), (9, I v), (10, Bo (decide (v < (l.length : Int))))], [], []⟩) (by kernel_rfl) an ?_
      refine post_then ?_
      refine awp_seq ?_
      refine awp_cond (b := (decide (v < (l.length : Int)))) rfl (fun hb => ?_) (fun hb => ?_)
      · replace h := ifT hb h
        refine awp_skip ?_
        refine post_then ?_
        refine awp_seq ?_
        refine awp_block ?_
        refine awp_seq ?_
        replace h := bs h
        obtain ⟨x, hx_, h⟩ := h
        refine areg [{cs := enc_int x}] [.keep [0, 6, 7, 8, 9] [], .useU []] (s' := ⟨[(0, I first1), (6, I x), (7, .c (.im (.sl 1 (l.map enc_int)))), (8, I (l.length : Int)), (9, I v)], [], []⟩) (by kernel_rfl) (ac (idx_nn hx_) (ac (idx_map enc_int hx_) an)) ?_
        refine post_then ?_
        refine areg [] [.keep [0, 7, 8, 9] [], .useU []] (s' := ⟨[(0, I (imin first1 x)), (7, .c (.im (.sl 1 (l.map enc_int)))), (8, I (l.length : Int)), (9, I v)], [], []⟩) (by kernel_rfl) an ?_
        refine post_blk ?_
        refine post_then ?_
        refine areg [] [.keep [0, 7, 8, 9] [], .useU []] (s' := ⟨[(0, I (imin first1 x)), (7, .c (.im (.sl 1 (l.map enc_int)))), (8, I (l.length : Int)), (9, I (w64 (v + 1)))], [], []⟩) (by kernel_rfl) an ?_
        exact post_cmds [.keep [0, 7, 8, 9] [], .useU [], .keep [0, 7, 8, 9] [], .useU []] (by kernel_rfl) an (post_back (Nat.lt_succ_self _) ⟨_, _, h, rfl⟩)
      · replace h := ifF hb h
        refine awp_exit ?_
        refine post_thenE ?_
        refine post_thenE ?_
        refine post_blkE ?_
        have e := Option.some.inj h
        clear h
        subst e
        exact post_cmds [.keep [0] [], .useU [], .keep [0] [], .useU []] (by kernel_rfl) an post_in
  · skip
    refine post_then ?_
    refine awp_seq ?_
    refine areg [] [.keep [4] [], .useU []] (s' := ⟨[(4, I first2)], [], []⟩) (by kernel_rfl) an ?_
    refine post_then ?_
    refine awp_ret ?_
    have e := Option.some.inj h
    clear h
    subst e
    exact post_ret tok hF rfl (by kernel_rfl) (by kernel_rfl)

theorem con_dispatchlaw16_within {at_ : Int} {n : Int} {r : Int} (h : D.dispatchlaw16_within at_ n = some r) : Con Try.prog 8 [I at_, I n] (I r) := by
  refine con_intro Try.func8 rfl Try.ntmps8 (by kernel_rfl) rfl fun F hF => ?_
  unfold D.dispatchlaw16_within at h
  refine awp_seq ?_
  refine areg [] [.keep [0, 1] [], .useU []] (s' := ⟨[(0, I at_), (1, I n)], [], []⟩) (by kernel_rfl) an ?_
  refine post_then ?_
  refine awp_seq ?_
  replace h := bs h
  obtain ⟨_, hj1, h⟩ := h
  refine areg [] [.keep [1, 5] [], .useU []] (s' := ⟨[(1, I n), (5, I (at_.tmod n))], [], []⟩) (by kernel_rfl) (ac (nz_eq hj1) an) ?_
  refine post_then ?_
  refine awp_seq ?_
  replace h := bs h
  obtain ⟨k_, hj2, h⟩ := h
  refine awp_cutN (⟨[(5, I k_)], [], []⟩) ?_ ?_
  · replace h := hj2
    clear hj2
    refine awp_seq ?_
    refine areg [] [.keep [1, 5, 10] [], .useU []] (s' := ⟨[(1, I n), (5, I (at_.tmod n)), (10, Bo (decide ((at_.tmod n) < 0)))], [], []⟩) (by kernel_rfl) an ?_
    refine post_then ?_
    refine awp_cond (b := (decide ((at_.tmod n) < 0))) rfl (fun hb => ?_) (fun hb => ?_)
    · replace h := ifT hb h
      refine areg [] [.keep [5] [], .useU []] (s' := ⟨[(5, I (w64 ((at_.tmod n) + n)))], [], []⟩) (by kernel_rfl) an ?_
      have e := Option.some.inj h
      clear h
      subst e
      exact post_cmds [.keep [5] [], .useU [], .keep [5] [], .useU []] (by kernel_rfl) an post_in
    · replace h := ifF hb h
      refine awp_skip ?_
      have e := Option.some.inj h
      clear h
      subst e
      exact post_cmds [.keep [5] [], .useU [], .keep [5] [], .useU []] (by kernel_rfl) an post_in
  · skip
    refine post_then ?_
    refine awp_seq ?_
    refine areg [] [.keep [4] [], .useU []] (s' := ⟨[(4, I k_)], [], []⟩) (by kernel_rfl) an ?_
    refine post_then ?_
    refine awp_ret ?_
    have e := Option.some.inj h
    clear h
    subst e
    exact post_ret tok hF rfl (by kernel_rfl) (by kernel_rfl)

theorem con_ideal_good {n : Int} {r : Int} (h : D.ideal_good n = some r) : Con Try.prog 13 [I n] (I r) := by
  refine con_intro Try.func13 rfl Try.ntmps13 (by kernel_rfl) rfl fun F hF => ?_
  unfold D.ideal_good at h
  refine awp_seq ?_
  refine areg [] [.keep [0] [], .useU []] (s' := ⟨[(0, I n)], [], []⟩) (by kernel_rfl) an ?_
  refine post_then ?_
  refine awp_seq ?_
  refine awp_seq ?_
  replace h := bs h
  obtain ⟨v, hj1, h⟩ := h
  refine awp_cutN (⟨[(0, I n), (8, Bo v)], [], []⟩) ?_ ?_
  · replace h := hj1
    clear hj1
    rcases boolc (decide (n < 0)) with hj2 | hj2
    · replace h := ifT hj2 h
      refine areg [{b := true}, {b := true}] [.keep [0, 8] [], .useU []] (s' := ⟨[(0, I n), (8, Bo true)], [], []⟩) (by kernel_rfl) (ac (hj2 : (decide (n < 0)) = true) (ac (hj2 : (decide (n < 0)) = true) an)) ?_
      have e := Option.some.inj h
      clear h
      subst e
      exact post_cmds [.keep [0, 8] [], .useU [], .keep [0, 8] [], .useU []] (by kernel_rfl) an post_in
    · replace h := ifF hj2 h
      refine areg [{b := false}, {b := false}] [.keep [0, 8] [], .useU []] (s' := ⟨[(0, I n), (8, Bo (decide (n > 1125899906842624)))], [], []⟩) (by kernel_rfl) (ac (hj2 : (decide (n < 0)) = false) (ac (hj2 : (decide (n < 0)) = false) an)) ?_
      have e := Option.some.inj h
      clear h
      subst e
      exact post_cmds [.keep [0, 8] [], .useU [], .keep [0, 8] [], .useU []] (by kernel_rfl) an post_in
  · skip
    refine post_then ?_
    refine awp_cond (b := v) rfl (fun hb => ?_) (fun hb => ?_)
    · replace h := ifT hb h
      refine awp_seq ?_
      refine areg [] [.keep [2] [], .useU []] (s' := ⟨[(2, I 0)], [], []⟩) (by kernel_rfl) an ?_
      refine post_then ?_
      refine awp_ret ?_
      refine post_thenR ?_
      have e := Option.some.inj h
      clear h
      subst e
      exact post_ret tok hF rfl (by kernel_rfl) (by kernel_rfl)
    · replace h := ifF hb h
      refine awp_skip ?_
      refine post_then ?_
      refine awp_seq ?_
      refine areg [] [.keep [2] [], .useU []] (s' := ⟨[(2, I n)], [], []⟩) (by kernel_rfl) an ?_
      refine post_then ?_
      refine awp_ret ?_
      have e := Option.some.inj h
      clear h
      subst e
      exact post_ret tok hF rfl (by kernel_rfl) (by kernel_rfl)

theorem con_dispatchlaw16_few {l : (List Int)} {r : (List Int)} (h : D.dispatchlaw16_few l = some r) : Con Try.prog 9 [.c (.im (.sl 1 (l.map enc_int)))] (.c (.im (.sl 1 (r.map enc_int)))) := by
  refine con_intro Try.func9 rfl Try.ntmps9 (by kernel_rfl) rfl fun F hF => ?_
  unfold D.dispatchlaw16_few at h
  refine awp_seq ?_
  refine areg [] [.keep [0] [], .useU []] (s' := ⟨[(0, .c (.im (.sl 1 (l.map enc_int))))], [], []⟩) (by kernel_rfl) an ?_
  refine post_then ?_
  refine awp_seq ?_
  refine areg [] [.keep [0, 3] [], .useU []] (s' := ⟨[(0, .c (.im (.sl 1 (l.map enc_int)))), (3, .c (.im (.nl 1)))], [], []⟩) (by kernel_rfl) an ?_
  refine post_then ?_
  refine awp_seq ?_
  refine awp_seq ?_
  refine areg [] [.keep [0, 3, 4] [], .useU []] (s' := ⟨[(0, .c (.im (.sl 1 (l.map enc_int)))), (3, .c (.im (.nl 1))), (4, I 0)], [], []⟩) (by kernel_rfl) an ?_
  refine post_then ?_
  replace h := bs h
  obtain ⟨out1, hj2, h⟩ := h
  refine awp_cutN (⟨[(3, .c (.lsl 1003 1 0 out1.length))], [(1003, .row 3 1 (out1.map enc_int))], [1003]⟩) ?_ ?_
  · replace h := hj2
    clear hj2
    refine awp_cmds [.keep [0, 3, 4] [], .useU [], .nilrow 3 1003 3 1, .keep [0, 3, 4] [1003], .useU [1003]] (by kernel_rfl) an (awp_block (awp_loop (fun k s => ∃ (out : (List Int)) (i : Int), D.dispatchlaw16_few_l1 l k out i = some out1 ∧ s = ⟨[(0, .c (.im (.sl 1 (l.map enc_int)))), (3, .c (.lsl 1003 1 0 out.length)), (4, I i)], [(1003, .row 3 1 (out.map enc_int))], [1003]⟩) ⟨_, _, h, rfl⟩ ?_))
    clear h
    rintro (_ | k) s ⟨out, i, h, rfl⟩
    · cases h
    · unfold D.dispatchlaw16_few_l1 at h
      refine awp_seq ?_
      refine awp_seq ?_
      refine areg [{n := l.length}] [.keep [0, 3, 4, 8] [1003], .useU [1003]] (s' := ⟨[(0, .c (.im (.sl 1 (l.map enc_int)))), (3, .c (.lsl 1003 1 0 out.length)), (4, I i), (8, Bo (decide (i < (l.length : Int))))], [(1003, .row 3 1 (out.map enc_int))], [1003]⟩) (by kernel_rfl) (ac (len_map (l := l) enc_int) an) ?_
      refine post_then ?_
      refine awp_cond (b := (decide (i < (l.length : Int)))) rfl (fun hb => ?_) (fun hb => ?_)
      · replace h := ifT hb h
        refine awp_skip ?_
        refine post_then ?_
        refine awp_seq ?_
        refine awp_block ?_
        replace h := bs h
        obtain ⟨x, hx_, h⟩ := h
        replace h := bs h
        obtain ⟨r, hr_, h⟩ := h
        replace h := bs h
        obtain ⟨out2, hout2_, h⟩ := h
        refine areg [{cs := enc_int x}, {d := I r}, {k := true}, {id := 18, es := out2.map enc_int, n := out2.length}] [.keep [0, 3, 4] [18], .useU [18]] (s' := ⟨[(0, .c (.im (.sl 1 (l.map enc_int)))), (3, .c (.lsl 18 1 0 out2.length)), (4, I i)], [(18, .row 3 1 (out2.map enc_int))], [18]⟩) (by kernel_rfl) (ac (idx_nn hx_) (ac (idx_map enc_int hx_) (ac (con_dispatchlaw16_within hr_) (ac (lenm enc_int (rfl : out.length = out.length)) (ac (app_map enc_int hout2_) (ac (len_map (l := out2) enc_int) (ac (app_len hout2_) (ac (app_by hout2_) an)))))))) ?_
        refine post_blk ?_
        refine post_then ?_
        refine areg [] [.keep [0, 3, 4] [18], .useU [18]] (s' := ⟨[(0, .c (.im (.sl 1 (l.map enc_int)))), (3, .c (.lsl 18 1 0 out2.length)), (4, I (w64 (i + 1)))], [(18, .row 3 1 (out2.map enc_int))], [18]⟩) (by kernel_rfl) an ?_
        exact post_cmds [.keep [0, 3, 4] [18], .useU [18], .ren 18 1003, .keep [0, 3, 4] [1003], .useU [1003]] (by kernel_rfl) an (post_back (Nat.lt_succ_self _) ⟨_, _, h, rfl⟩)
      · replace h := ifF hb h
        refine awp_exit ?_
        refine post_thenE ?_
        refine post_thenE ?_
        refine post_blkE ?_
        have e := Option.some.inj h
        clear h
        subst e
        exact post_cmds [.keep [3] [1003], .useU [1003], .keep [3] [1003], .useU [1003]] (by kernel_rfl) an post_in
  · skip
    refine post_then ?_
    refine awp_seq ?_
    refine areg [] [.keep [2] [1003], .useU [1003]] (s' := ⟨[(2, .c (.lsl 1003 1 0 out1.length))], [(1003, .row 3 1 (out1.map enc_int))], [1003]⟩) (by kernel_rfl) an ?_
    refine post_then ?_
    refine awp_ret ?_
    have e := Option.some.inj h
    clear h
    subst e
    exact post_cmds [.keep [2] [1003], .fz 1003] (s' := ⟨[(2, .c (.im (.sl 1 (out1.map enc_int))))], [], [1003]⟩) (by kernel_rfl) (ac (len_map (l := out1) enc_int) an) (post_ret tok hF rfl (by kernel_rfl) (by kernel_rfl))

theorem con_ideal_Split {total : Int} {least : (List Int)} {want : (List Int)} {most : (List Int)} {r : (List Int)} (h : D.ideal_Split total least want most = some r) : Con Try.prog 10 [I total, .c (.im (.sl 1 (least.map enc_int))), .c (.im (.sl 1 (want.map enc_int))), .c (.im (.sl 1 (most.map enc_int)))] (.c (.im (.sl 1 (r.map enc_int)))) := by
  refine con_intro Try.func10 rfl Try.ntmps10 (by kernel_rfl) rfl fun F hF => ?_
  unfold D.ideal_Split at h
  refine awp_seq ?_
  refine areg [] [.keep [0, 1, 2, 3] [], .useU []] (s' := ⟨[(0, I total), (1, .c (.im (.sl 1 (least.map enc_int)))), (2, .c (.im (.sl 1 (want.map enc_int)))), (3, .c (.im (.sl 1 (most.map enc_int))))], [], []⟩) (by kernel_rfl) an ?_
  refine post_then ?_
  refine awp_seq ?_
  replace h := bs h
  obtain ⟨r, hr_, h⟩ := h
  refine areg [{n := least.length}, {n := want.length}, {n := most.length}, {k := true}, {d := I r}] [.keep [0, 1, 2, 3, 9] [], .useU []] (s' := ⟨[(0, I total), (1, .c (.im (.sl 1 (least.map enc_int)))), (2, .c (.im (.sl 1 (want.map enc_int)))), (3, .c (.im (.sl 1 (most.map enc_int)))), (9, I r)], [], []⟩) (by kernel_rfl) (ac (len_map (l := least) enc_int) (ac (len_map (l := want) enc_int) (ac (len_map (l := most) enc_int) (ac (con_ideal_lesser hr_) an)))) ?_
  refine post_then ?_
  refine awp_seq ?_
  replace h := bs h
  obtain ⟨l, hl_, h⟩ := h
  refine areg [{id := 24, es := l.map enc_int, n := l.length}] [.keep [0, 1, 2, 3, 9, 10] [24], .useU [24]] (s' := ⟨[(0, I total), (1, .c (.im (.sl 1 (least.map enc_int)))), (2, .c (.im (.sl 1 (want.map enc_int)))), (3, .c (.im (.sl 1 (most.map enc_int)))), (9, I r), (10, .c (.lsl 24 1 0 l.length))], [(24, .row 3 1 (l.map enc_int))], [24]⟩) (by kernel_rfl) (ac (rfl : r = r) (ac (mkl_eq hl_).1 (ac (mkl_map enc_int hl_) (ac (mkl_eq hl_).2.2.1 (ac (mkl_eq hl_).2.2.2.1 (ac (mkl_eq hl_).2.2.2.2 an)))))) ?_
  refine post_then ?_
  refine awp_seq ?_
  replace h := bs h
  obtain ⟨r1, hr1_, h⟩ := h
  refine areg [{d := I r1}] [.keep [1, 2, 3, 9, 10, 11] [24], .useU [24]] (s' := ⟨[(1, .c (.im (.sl 1 (least.map enc_int)))), (2, .c (.im (.sl 1 (want.map enc_int)))), (3, .c (.im (.sl 1 (most.map enc_int)))), (9, I r), (10, .c (.lsl 24 1 0 l.length)), (11, I r1)], [(24, .row 3 1 (l.map enc_int))], [24]⟩) (by kernel_rfl) (ac (con_ideal_good hr1_) an) ?_
  refine post_then ?_
  refine awp_seq ?_
  refine awp_seq ?_
  refine areg [] [.keep [1, 2, 3, 9, 10, 11, 27, 28] [24], .useU [24]] (s' := ⟨[(1, .c (.im (.sl 1 (least.map enc_int)))), (2, .c (.im (.sl 1 (want.map enc_int)))), (3, .c (.im (.sl 1 (most.map enc_int)))), (9, I r), (10, .c (.lsl 24 1 0 l.length)), (11, I r1), (27, I r), (28, I 0)], [(24, .row 3 1 (l.map enc_int))], [24]⟩) (by kernel_rfl) an ?_
  refine post_then ?_
  replace h := bs h
  obtain ⟨⟨out1, left1⟩, hj2, h⟩ := h
  refine awp_cutN (⟨[(2, .c (.im (.sl 1 (want.map enc_int)))), (3, .c (.im (.sl 1 (most.map enc_int)))), (9, I r), (10, .c (.lsl 1010 1 0 out1.length)), (11, I left1)], [(1010, .row 3 1 (out1.map enc_int))], [1010]⟩) ?_ ?_
  · replace h := hj2
    clear hj2
    refine awp_cmds [.keep [1, 2, 3, 9, 10, 11, 27, 28] [24], .useU [24], .ren 24 1010, .keep [1, 2, 3, 9, 10, 11, 27, 28] [1010], .useU [1010]] (by kernel_rfl) an (awp_block (awp_loop (fun k s => ∃ (out : (List Int)) (left : Int) (v : Int), D.ideal_Split_l1 least want most r k out left v = some (out1, left1) ∧ s = ⟨[(1, .c (.im (.sl 1 (least.map enc_int)))), (2, .c (.im (.sl 1 (want.map enc_int)))), (3, .c (.im (.sl 1 (most.map enc_int)))), (9, I r), (10, .c (.lsl 1010 1 0 out.length)), (11, I left), (27, I r), (28, I v)], [(1010, .row 3 1 (out.map enc_int))], [1010]⟩) ⟨_, _, _, h, rfl⟩ ?_))
    clear h
    rintro (_ | k) s ⟨out, left, v, h, rfl⟩
    · cases h
    · unfold D.ideal_Split_l1 at h
      refine awp_seq ?_
      refine areg [] [.keep [1, 2, 3, 9, 10, 11, 27, 28, 29] [1010], .useU [1010]] (s' := ⟨[(1, .c (.im (.sl 1 (least.map enc_int)))), (2, .c (.im (.sl 1 (want.map enc_int)))), (3, .c (.im (.sl 1 (most.map enc_int)))), (9, I r), (10, .c (.lsl 1010 1 0 out.length)), (11, I left), (27, I r), (28, I v), (29, Bo (decide (v < r)))], [(1010, .row 3 1 (out.map enc_int))], [1010]⟩) (by kernel_rfl) an ?_
      refine post_then ?_
      refine awp_seq ?_
      refine awp_cond (b := (decide (v < r))) rfl (fun hb => ?_) (fun hb => ?_)
      · replace h := ifT hb h
        refine awp_skip ?_
        refine post_then ?_
        refine awp_seq ?_
        refine awp_block ?_
        refine awp_seq ?_
        refine areg [] [.keep [1, 2, 3, 9, 10, 11, 12, 27, 28] [1010], .useU [1010]] (s' := ⟨[(1, .c (.im (.sl 1 (least.map enc_int)))), (2, .c (.im (.sl 1 (want.map enc_int)))), (3, .c (.im (.sl 1 (most.map enc_int)))), (9, I r), (10, .c (.lsl 1010 1 0 out.length)), (11, I left), (12, I v), (27, I r), (28, I v)], [(1010, .row 3 1 (out.map enc_int))], [1010]⟩) (by kernel_rfl) an ?_
        refine post_then ?_
        refine awp_seq ?_
        replace h := bs h
        obtain ⟨x, hx_, h⟩ := h
        replace h := bs h
        obtain ⟨r2, hr2_, h⟩ := h
        replace h := bs h
        obtain ⟨x1, hx1_, h⟩ := h
        replace h := bs h
        obtain ⟨r3, hr3_, h⟩ := h
        replace h := bs h
        obtain ⟨x2, hx2_, h⟩ := h
        replace h := bs h
        obtain ⟨r4, hr4_, h⟩ := h
        replace h := bs h
        obtain ⟨r5, hr5_, h⟩ := h
        replace h := bs h
        obtain ⟨x3, hx3_, h⟩ := h
        replace h := bs h
        obtain ⟨out2, hout2_, h⟩ := h
        refine areg [{cs := enc_int x}, {d := I r2}, {cs := enc_int x1}, {d := I r3}, {cs := enc_int x2}, {d := I r4}, {k := true}, {d := I r5}, {cs := enc_int x3, es := out2.map enc_int}] [.keep [1, 2, 3, 9, 10, 11, 12, 27, 28] [1010], .useU [1010]] (s' := ⟨[(1, .c (.im (.sl 1 (least.map enc_int)))), (2, .c (.im (.sl 1 (want.map enc_int)))), (3, .c (.im (.sl 1 (most.map enc_int)))), (9, I r), (10, .c (.lsl 1010 1 0 out.length)), (11, I left), (12, I v), (27, I r), (28, I v)], [(1010, .row 3 1 (out2.map enc_int))], [1010]⟩) (by kernel_rfl) (ac (idx_nn hx_) (ac (idx_map enc_int hx_) (ac (con_ideal_good hr2_) (ac (idx_nn hx1_) (ac (idx_map enc_int hx1_) (ac (con_ideal_good hr3_) (ac (idx_nn hx2_) (ac (idx_map enc_int hx2_) (ac (con_ideal_good hr4_) (ac (con_ideal_lesser hr5_) (ac (idx_nn hx3_) (ac (idx_ltn (rfl : out.length = out.length) hx3_) (ac (idx_row enc_int hx3_) (ac (upd_set enc_int hout2_) an)))))))))))))) ?_
        refine post_eq (s' := ⟨[(1, .c (.im (.sl 1 (least.map enc_int)))), (2, .c (.im (.sl 1 (want.map enc_int)))), (3, .c (.im (.sl 1 (most.map enc_int)))), (9, I r), (10, .c (.lsl 1010 1 0 out2.length)), (11, I left), (12, I v), (27, I r), (28, I v)], [(1010, .row 3 1 (out2.map enc_int))], [1010]⟩) (by rw [((rfl : out.length = out.length).trans (upd_len hout2_))]) ?_
        refine post_then ?_
        replace h := bs h
        obtain ⟨x4, hx4_, h⟩ := h
        refine areg [{cs := enc_int x4}] [.keep [1, 2, 3, 9, 10, 11, 27, 28] [1010], .useU [1010]] (s' := ⟨[(1, .c (.im (.sl 1 (least.map enc_int)))), (2, .c (.im (.sl 1 (want.map enc_int)))), (3, .c (.im (.sl 1 (most.map enc_int)))), (9, I r), (10, .c (.lsl 1010 1 0 out2.length)), (11, I (w64 (left - x4))), (27, I r), (28, I v)], [(1010, .row 3 1 (out2.map enc_int))], [1010]⟩) (by kernel_rfl) (ac (idx_nn hx4_) (ac (idx_ltn (rfl : out2.length = out2.length) hx4_) (ac (idx_row enc_int hx4_) an))) ?_
        refine post_blk ?_
        refine post_then ?_
        refine areg [] [.keep [1, 2, 3, 9, 10, 11, 27, 28] [1010], .useU [1010]] (s' := ⟨[(1, .c (.im (.sl 1 (least.map enc_int)))), (2, .c (.im (.sl 1 (want.map enc_int)))), (3, .c (.im (.sl 1 (most.map enc_int)))), (9, I r), (10, .c (.lsl 1010 1 0 out2.length)), (11, I (w64 (left - x4))), (27, I r), (28, I (w64 (v + 1)))], [(1010, .row 3 1 (out2.map enc_int))], [1010]⟩) (by kernel_rfl) an ?_
        exact post_cmds [.keep [1, 2, 3, 9, 10, 11, 27, 28] [1010], .useU [1010], .keep [1, 2, 3, 9, 10, 11, 27, 28] [1010], .useU [1010]] (by kernel_rfl) an (post_back (Nat.lt_succ_self _) ⟨_, _, _, h, rfl⟩)
      · replace h := ifF hb h
        refine awp_exit ?_
        refine post_thenE ?_
        refine post_thenE ?_
        refine post_blkE ?_
        have e := Option.some.inj h
        clear h
        obtain ⟨e1, e2⟩ := Prod.mk.inj e
        subst e1 e2
        exact post_cmds [.keep [2, 3, 9, 10, 11] [1010], .useU [1010], .keep [2, 3, 9, 10, 11] [1010], .useU [1010]] (by kernel_rfl) an post_in
  · skip
    refine post_then ?_
    refine awp_seq ?_
    refine awp_seq ?_
    refine areg [] [.keep [2, 3, 10, 11, 59, 60] [1010], .useU [1010]] (s' := ⟨[(2, .c (.im (.sl 1 (want.map enc_int)))), (3, .c (.im (.sl 1 (most.map enc_int)))), (10, .c (.lsl 1010 1 0 out1.length)), (11, I left1), (59, I r), (60, I 0)], [(1010, .row 3 1 (out1.map enc_int))], [1010]⟩) (by kernel_rfl) an ?_
    refine post_then ?_
    replace h := bs h
    obtain ⟨out4, hj4, h⟩ := h
    refine awp_cutN (⟨[(10, .c (.lsl 1010 1 0 out4.length))], [(1010, .row 3 1 (out4.map enc_int))], [1010]⟩) ?_ ?_
    · replace h := hj4
      clear hj4
      refine awp_cmds [.keep [2, 3, 10, 11, 59, 60] [1010], .useU [1010], .keep [2, 3, 10, 11, 59, 60] [1010], .useU [1010]] (by kernel_rfl) an (awp_block (awp_loop (fun k s => ∃ (out3 : (List Int)) (left2 : Int) (v1 : Int), D.ideal_Split_l3 want most r k out3 left2 v1 = some out4 ∧ s = ⟨[(2, .c (.im (.sl 1 (want.map enc_int)))), (3, .c (.im (.sl 1 (most.map enc_int)))), (10, .c (.lsl 1010 1 0 out3.length)), (11, I left2), (59, I r), (60, I v1)], [(1010, .row 3 1 (out3.map enc_int))], [1010]⟩) ⟨_, _, _, h, rfl⟩ ?_))
      clear h
      rintro (_ | k) s ⟨out3, left2, v1, h, rfl⟩
      · cases h
      · unfold D.ideal_Split_l3 at h
        refine awp_seq ?_
        refine areg [] [.keep [2, 3, 10, 11, 59, 60, 61] [1010], .useU [1010]] (s' := ⟨[(2, .c (.im (.sl 1 (want.map enc_int)))), (3, .c (.im (.sl 1 (most.map enc_int)))), (10, .c (.lsl 1010 1 0 out3.length)), (11, I left2), (59, I r), (60, I v1), (61, Bo (decide (v1 < r)))], [(1010, .row 3 1 (out3.map enc_int))], [1010]⟩) (by kernel_rfl) an ?_
        refine post_then ?_
        refine awp_seq ?_
        refine awp_cond (b := (decide (v1 < r))) rfl (fun hb => ?_) (fun hb => ?_)
        · replace h := ifT hb h
          refine awp_skip ?_
          refine post_then ?_
          refine awp_seq ?_
          refine awp_block ?_
          refine awp_seq ?_
          refine areg [] [.keep [2, 3, 10, 11, 13, 59, 60] [1010], .useU [1010]] (s' := ⟨[(2, .c (.im (.sl 1 (want.map enc_int)))), (3, .c (.im (.sl 1 (most.map enc_int)))), (10, .c (.lsl 1010 1 0 out3.length)), (11, I left2), (13, I v1), (59, I r), (60, I v1)], [(1010, .row 3 1 (out3.map enc_int))], [1010]⟩) (by kernel_rfl) an ?_
          refine post_then ?_
          refine awp_seq ?_
          replace h := bs h
          obtain ⟨x5, hx5_, h⟩ := h
          replace h := bs h
          obtain ⟨r6, hr6_, h⟩ := h
          replace h := bs h
          obtain ⟨x6, hx6_, h⟩ := h
          replace h := bs h
          obtain ⟨r7, hr7_, h⟩ := h
          replace h := bs h
          obtain ⟨r8, hr8_, h⟩ := h
          replace h := bs h
          obtain ⟨x7, hx7_, h⟩ := h
          replace h := bs h
          obtain ⟨r9, hr9_, h⟩ := h
          refine areg [{cs := enc_int x5}, {d := I r6}, {cs := enc_int x6}, {d := I r7}, {k := true}, {d := I r8}, {cs := enc_int x7}, {k := true}, {d := I r9}] [.keep [2, 3, 10, 11, 13, 14, 59, 60] [1010], .useU [1010]] (s' := ⟨[(2, .c (.im (.sl 1 (want.map enc_int)))), (3, .c (.im (.sl 1 (most.map enc_int)))), (10, .c (.lsl 1010 1 0 out3.length)), (11, I left2), (13, I v1), (14, I r9), (59, I r), (60, I v1)], [(1010, .row 3 1 (out3.map enc_int))], [1010]⟩) (by kernel_rfl) (ac (idx_nn hx5_) (ac (idx_map enc_int hx5_) (ac (con_ideal_good hr6_) (ac (idx_nn hx6_) (ac (idx_map enc_int hx6_) (ac (con_ideal_good hr7_) (ac (con_ideal_lesser hr8_) (ac (idx_nn hx7_) (ac (idx_ltn (rfl : out3.length = out3.length) hx7_) (ac (idx_row enc_int hx7_) (ac (con_ideal_lesser hr9_) an))))))))))) ?_
          refine post_then ?_
          refine awp_seq ?_
          replace h := bs h
          obtain ⟨x8, hx8_, h⟩ := h
          replace h := bs h
          obtain ⟨out5, hout5_, h⟩ := h
          refine areg [{cs := enc_int x8}, {cs := enc_int x8, es := out5.map enc_int}] [.keep [2, 3, 10, 11, 14, 59, 60] [1010], .useU [1010]] (s' := ⟨[(2, .c (.im (.sl 1 (want.map enc_int)))), (3, .c (.im (.sl 1 (most.map enc_int)))), (10, .c (.lsl 1010 1 0 out3.length)), (11, I left2), (14, I r9), (59, I r), (60, I v1)], [(1010, .row 3 1 (out5.map enc_int))], [1010]⟩) (by kernel_rfl) (ac (idx_nn hx8_) (ac (idx_ltn (rfl : out3.length = out3.length) hx8_) (ac (idx_row enc_int hx8_) (ac (idx_nn hx8_) (ac (idx_ltn (rfl : out3.length = out3.length) hx8_) (ac (idx_row enc_int hx8_) (ac (upd_set enc_int hout5_) an))))))) ?_
          refine post_eq (s' := ⟨[(2, .c (.im (.sl 1 (want.map enc_int)))), (3, .c (.im (.sl 1 (most.map enc_int)))), (10, .c (.lsl 1010 1 0 out5.length)), (11, I left2), (14, I r9), (59, I r), (60, I v1)], [(1010, .row 3 1 (out5.map enc_int))], [1010]⟩) (by rw [((rfl : out3.length = out3.length).trans (upd_len hout5_))]) ?_
          refine post_then ?_
          refine areg [] [.keep [2, 3, 10, 11, 59, 60] [1010], .useU [1010]] (s' := ⟨[(2, .c (.im (.sl 1 (want.map enc_int)))), (3, .c (.im (.sl 1 (most.map enc_int)))), (10, .c (.lsl 1010 1 0 out5.length)), (11, I (w64 (left2 - r9))), (59, I r), (60, I v1)], [(1010, .row 3 1 (out5.map enc_int))], [1010]⟩) (by kernel_rfl) an ?_
          refine post_blk ?_
          refine post_then ?_
          refine areg [] [.keep [2, 3, 10, 11, 59, 60] [1010], .useU [1010]] (s' := ⟨[(2, .c (.im (.sl 1 (want.map enc_int)))), (3, .c (.im (.sl 1 (most.map enc_int)))), (10, .c (.lsl 1010 1 0 out5.length)), (11, I (w64 (left2 - r9))), (59, I r), (60, I (w64 (v1 + 1)))], [(1010, .row 3 1 (out5.map enc_int))], [1010]⟩) (by kernel_rfl) an ?_
          exact post_cmds [.keep [2, 3, 10, 11, 59, 60] [1010], .useU [1010], .keep [2, 3, 10, 11, 59, 60] [1010], .useU [1010]] (by kernel_rfl) an (post_back (Nat.lt_succ_self _) ⟨_, _, _, h, rfl⟩)
        · replace h := ifF hb h
          refine awp_exit ?_
          refine post_thenE ?_
          refine post_thenE ?_
          refine post_blkE ?_
          have e := Option.some.inj h
          clear h
          subst e
          exact post_cmds [.keep [10] [1010], .useU [1010], .keep [10] [1010], .useU [1010]] (by kernel_rfl) an post_in
    · skip
      refine post_then ?_
      refine awp_seq ?_
      refine areg [] [.keep [8] [1010], .useU [1010]] (s' := ⟨[(8, .c (.lsl 1010 1 0 out4.length))], [(1010, .row 3 1 (out4.map enc_int))], [1010]⟩) (by kernel_rfl) an ?_
      refine post_then ?_
      refine awp_ret ?_
      have e := Option.some.inj h
      clear h
      subst e
      exact post_cmds [.keep [8] [1010], .fz 1010] (s' := ⟨[(8, .c (.im (.sl 1 (out4.map enc_int))))], [], [1010]⟩) (by kernel_rfl) (ac (len_map (l := out4) enc_int) an) (post_ret tok hF rfl (by kernel_rfl) (by kernel_rfl))

theorem con_dispatchref16_Split {total : Int} {least : (List Int)} {want : (List Int)} {most : (List Int)} {r : (List Int)} (h : D.dispatchref16_Split total least want most = some r) : Con Try.prog 11 [I total, .c (.im (.sl 1 (least.map enc_int))), .c (.im (.sl 1 (want.map enc_int))), .c (.im (.sl 1 (most.map enc_int)))] (.c (.im (.sl 1 (r.map enc_int)))) := by
  refine con_intro Try.func11 rfl Try.ntmps11 (by kernel_rfl) rfl fun F hF => ?_
  unfold D.dispatchref16_Split at h
  refine awp_seq ?_
  refine areg [] [.keep [0, 1, 2, 3] [], .useU []] (s' := ⟨[(0, I total), (1, .c (.im (.sl 1 (least.map enc_int)))), (2, .c (.im (.sl 1 (want.map enc_int)))), (3, .c (.im (.sl 1 (most.map enc_int))))], [], []⟩) (by kernel_rfl) an ?_
  refine post_then ?_
  refine awp_seq ?_
  refine areg [{n := least.length}, {n := want.length}, {n := most.length}] [.keep [0, 1, 2, 3, 9] [], .useU []] (s' := ⟨[(0, I total), (1, .c (.im (.sl 1 (least.map enc_int)))), (2, .c (.im (.sl 1 (want.map enc_int)))), (3, .c (.im (.sl 1 (most.map enc_int)))), (9, I (imin (imin (least.length : Int) (want.length : Int)) (most.length : Int)))], [], []⟩) (by kernel_rfl) (ac (len_map (l := least) enc_int) (ac (len_map (l := want) enc_int) (ac (len_map (l := most) enc_int) an))) ?_
  refine post_then ?_
  refine awp_seq ?_
  replace h := bs h
  obtain ⟨r, hr_, h⟩ := h
  refine areg [{d := I r}] [.keep [1, 2, 3, 9, 10] [], .useU []] (s' := ⟨[(1, .c (.im (.sl 1 (least.map enc_int)))), (2, .c (.im (.sl 1 (want.map enc_int)))), (3, .c (.im (.sl 1 (most.map enc_int)))), (9, I (imin (imin (least.length : Int) (want.length : Int)) (most.length : Int))), (10, I r)], [], []⟩) (by kernel_rfl) (ac (con_dispatchref16_good hr_) an) ?_
  refine post_then ?_
  refine awp_seq ?_
  refine areg [] [.keep [1, 2, 3, 9, 10, 11] [], .useU []] (s' := ⟨[(1, .c (.im (.sl 1 (least.map enc_int)))), (2, .c (.im (.sl 1 (want.map enc_int)))), (3, .c (.im (.sl 1 (most.map enc_int)))), (9, I (imin (imin (least.length : Int) (want.length : Int)) (most.length : Int))), (10, I r), (11, .c (.im (.nl 1)))], [], []⟩) (by kernel_rfl) an ?_
  refine post_then ?_
  refine awp_seq ?_
  refine awp_seq ?_
  refine areg [] [.keep [1, 2, 3, 9, 10, 11, 12] [], .useU []] (s' := ⟨[(1, .c (.im (.sl 1 (least.map enc_int)))), (2, .c (.im (.sl 1 (want.map enc_int)))), (3, .c (.im (.sl 1 (most.map enc_int)))), (9, I (imin (imin (least.length : Int) (want.length : Int)) (most.length : Int))), (10, I r), (11, .c (.im (.nl 1))), (12, I 0)], [], []⟩) (by kernel_rfl) an ?_
  refine post_then ?_
  replace h := bs h
  obtain ⟨⟨left1, out1⟩, hj2, h⟩ := h
  refine awp_cutN (⟨[(2, .c (.im (.sl 1 (want.map enc_int)))), (3, .c (.im (.sl 1 (most.map enc_int)))), (9, I (imin (imin (least.length : Int) (want.length : Int)) (most.length : Int))), (10, I left1), (11, .c (.lsl 1011 1 0 out1.length))], [(1011, .row 3 1 (out1.map enc_int))], [1011]⟩) ?_ ?_
  · replace h := hj2
    clear hj2
    refine awp_cmds [.keep [1, 2, 3, 9, 10, 11, 12] [], .useU [], .nilrow 11 1011 3 1, .keep [1, 2, 3, 9, 10, 11, 12] [1011], .useU [1011]] (by kernel_rfl) an (awp_block (awp_loop (fun k s => ∃ (left : Int) (out : (List Int)) (i : Int), D.dispatchref16_Split_l1 least want most k left out i = some (left1, out1) ∧ s = ⟨[(1, .c (.im (.sl 1 (least.map enc_int)))), (2, .c (.im (.sl 1 (want.map enc_int)))), (3, .c (.im (.sl 1 (most.map enc_int)))), (9, I (imin (imin (least.length : Int) (want.length : Int)) (most.length : Int))), (10, I left), (11, .c (.lsl 1011 1 0 out.length)), (12, I i)], [(1011, .row 3 1 (out.map enc_int))], [1011]⟩) ⟨_, _, _, h, rfl⟩ ?_))
    clear h
    rintro (_ | k) s ⟨left, out, i, h, rfl⟩
    · cases h
    · unfold D.dispatchref16_Split_l1 at h
      refine awp_seq ?_
      refine awp_seq ?_
      refine areg [] [.keep [1, 2, 3, 9, 10, 11, 12, 27] [1011], .useU [1011]] (s' := ⟨[(1, .c (.im (.sl 1 (least.map enc_int)))), (2, .c (.im (.sl 1 (want.map enc_int)))), (3, .c (.im (.sl 1 (most.map enc_int)))), (9, I (imin (imin (least.length : Int) (want.length : Int)) (most.length : Int))), (10, I left), (11, .c (.lsl 1011 1 0 out.length)), (12, I i), (27, Bo (decide (i < (imin (imin (least.length : Int) (want.length : Int)) (most.length : Int)))))], [(1011, .row 3 1 (out.map enc_int))], [1011]⟩) (by kernel_rfl) an ?_
      refine post_then ?_
      refine awp_cond (b := (decide (i < (imin (imin (least.length : Int) (want.length : Int)) (most.length : Int))))) rfl (fun hb => ?_) (fun hb => ?_)
      · replace h := ifT hb h
        refine awp_skip ?_
        refine post_then ?_
        refine awp_seq ?_
        refine awp_block ?_
        refine awp_seq ?_
        replace h := bs h
        obtain ⟨x, hx_, h⟩ := h
        replace h := bs h
        obtain ⟨r1, hr1_, h⟩ := h
        replace h := bs h
        obtain ⟨x1, hx1_, h⟩ := h
        replace h := bs h
        obtain ⟨r2, hr2_, h⟩ := h
        replace h := bs h
        obtain ⟨x2, hx2_, h⟩ := h
        replace h := bs h
        obtain ⟨r3, hr3_, h⟩ := h
        refine areg [{cs := enc_int x}, {d := I r1}, {cs := enc_int x1}, {d := I r2}, {cs := enc_int x2}, {d := I r3}] [.keep [1, 2, 3, 9, 10, 11, 12, 13] [1011], .useU [1011]] (s' := ⟨[(1, .c (.im (.sl 1 (least.map enc_int)))), (2, .c (.im (.sl 1 (want.map enc_int)))), (3, .c (.im (.sl 1 (most.map enc_int)))), (9, I (imin (imin (least.length : Int) (want.length : Int)) (most.length : Int))), (10, I left), (11, .c (.lsl 1011 1 0 out.length)), (12, I i), (13, I (imin (imin (imin r1 r2) r3) left))], [(1011, .row 3 1 (out.map enc_int))], [1011]⟩) (by kernel_rfl) (ac (idx_nn hx_) (ac (idx_map enc_int hx_) (ac (con_dispatchref16_good hr1_) (ac (idx_nn hx1_) (ac (idx_map enc_int hx1_) (ac (con_dispatchref16_good hr2_) (ac (idx_nn hx2_) (ac (idx_map enc_int hx2_) (ac (con_dispatchref16_good hr3_) an))))))))) ?_
        refine post_then ?_
        refine awp_seq ?_
        replace h := bs h
        obtain ⟨out2, hout2_, h⟩ := h
        refine areg [{k := true}, {id := 50, es := out2.map enc_int, n := out2.length}] [.keep [1, 2, 3, 9, 10, 11, 12, 13] [50], .useU [50]] (s' := ⟨[(1, .c (.im (.sl 1 (least.map enc_int)))), (2, .c (.im (.sl 1 (want.map enc_int)))), (3, .c (.im (.sl 1 (most.map enc_int)))), (9, I (imin (imin (least.length : Int) (want.length : Int)) (most.length : Int))), (10, I left), (11, .c (.lsl 50 1 0 out2.length)), (12, I i), (13, I (imin (imin (imin r1 r2) r3) left))], [(50, .row 3 1 (out2.map enc_int))], [50]⟩) (by kernel_rfl) (ac (lenm enc_int (rfl : out.length = out.length)) (ac (app_map enc_int hout2_) (ac (len_map (l := out2) enc_int) (ac (app_len hout2_) (ac (app_by hout2_) an))))) ?_
        refine post_then ?_
        refine areg [] [.keep [1, 2, 3, 9, 10, 11, 12] [50], .useU [50]] (s' := ⟨[(1, .c (.im (.sl 1 (least.map enc_int)))), (2, .c (.im (.sl 1 (want.map enc_int)))), (3, .c (.im (.sl 1 (most.map enc_int)))), (9, I (imin (imin (least.length : Int) (want.length : Int)) (most.length : Int))), (10, I (w64 (left - (imin (imin (imin r1 r2) r3) left)))), (11, .c (.lsl 50 1 0 out2.length)), (12, I i)], [(50, .row 3 1 (out2.map enc_int))], [50]⟩) (by kernel_rfl) an ?_
        refine post_blk ?_
        refine post_then ?_
        refine areg [] [.keep [1, 2, 3, 9, 10, 11, 12] [50], .useU [50]] (s' := ⟨[(1, .c (.im (.sl 1 (least.map enc_int)))), (2, .c (.im (.sl 1 (want.map enc_int)))), (3, .c (.im (.sl 1 (most.map enc_int)))), (9, I (imin (imin (least.length : Int) (want.length : Int)) (most.length : Int))), (10, I (w64 (left - (imin (imin (imin r1 r2) r3) left)))), (11, .c (.lsl 50 1 0 out2.length)), (12, I (w64 (i + 1)))], [(50, .row 3 1 (out2.map enc_int))], [50]⟩) (by kernel_rfl) an ?_
        exact post_cmds [.keep [1, 2, 3, 9, 10, 11, 12] [50], .useU [50], .ren 50 1011, .keep [1, 2, 3, 9, 10, 11, 12] [1011], .useU [1011]] (by kernel_rfl) an (post_back (Nat.lt_succ_self _) ⟨_, _, _, h, rfl⟩)
      · replace h := ifF hb h
        refine awp_exit ?_
        refine post_thenE ?_
        refine post_thenE ?_
        refine post_blkE ?_
        have e := Option.some.inj h
        clear h
        obtain ⟨e1, e2⟩ := Prod.mk.inj e
        subst e1 e2
        exact post_cmds [.keep [2, 3, 9, 10, 11] [1011], .useU [1011], .keep [2, 3, 9, 10, 11] [1011], .useU [1011]] (by kernel_rfl) an post_in
  · skip
    refine post_then ?_
    refine awp_seq ?_
    refine awp_seq ?_
    refine areg [] [.keep [2, 3, 9, 10, 11, 14] [1011], .useU [1011]] (s' := ⟨[(2, .c (.im (.sl 1 (want.map enc_int)))), (3, .c (.im (.sl 1 (most.map enc_int)))), (9, I (imin (imin (least.length : Int) (want.length : Int)) (most.length : Int))), (10, I left1), (11, .c (.lsl 1011 1 0 out1.length)), (14, I 0)], [(1011, .row 3 1 (out1.map enc_int))], [1011]⟩) (by kernel_rfl) an ?_
    refine post_then ?_
    replace h := bs h
    obtain ⟨out4, hj4, h⟩ := h
    refine awp_cutN (⟨[(11, .c (.lsl 1011 1 0 out4.length))], [(1011, .row 3 1 (out4.map enc_int))], [1011]⟩) ?_ ?_
    · replace h := hj4
      clear hj4
      refine awp_cmds [.keep [2, 3, 9, 10, 11, 14] [1011], .useU [1011], .keep [2, 3, 9, 10, 11, 14] [1011], .useU [1011]] (by kernel_rfl) an (awp_block (awp_loop (fun k s => ∃ (left2 : Int) (out3 : (List Int)) (i1 : Int), D.dispatchref16_Split_l3 least want most k left2 out3 i1 = some out4 ∧ s = ⟨[(2, .c (.im (.sl 1 (want.map enc_int)))), (3, .c (.im (.sl 1 (most.map enc_int)))), (9, I (imin (imin (least.length : Int) (want.length : Int)) (most.length : Int))), (10, I left2), (11, .c (.lsl 1011 1 0 out3.length)), (14, I i1)], [(1011, .row 3 1 (out3.map enc_int))], [1011]⟩) ⟨_, _, _, h, rfl⟩ ?_))
      clear h
      rintro (_ | k) s ⟨left2, out3, i1, h, rfl⟩
      · cases h
      · unfold D.dispatchref16_Split_l3 at h
        refine awp_seq ?_
        refine awp_seq ?_
        refine areg [] [.keep [2, 3, 9, 10, 11, 14, 56] [1011], .useU [1011]] (s' := ⟨[(2, .c (.im (.sl 1 (want.map enc_int)))), (3, .c (.im (.sl 1 (most.map enc_int)))), (9, I (imin (imin (least.length : Int) (want.length : Int)) (most.length : Int))), (10, I left2), (11, .c (.lsl 1011 1 0 out3.length)), (14, I i1), (56, Bo (decide (i1 < (imin (imin (least.length : Int) (want.length : Int)) (most.length : Int)))))], [(1011, .row 3 1 (out3.map enc_int))], [1011]⟩) (by kernel_rfl) an ?_
        refine post_then ?_
        refine awp_cond (b := (decide (i1 < (imin (imin (least.length : Int) (want.length : Int)) (most.length : Int))))) rfl (fun hb => ?_) (fun hb => ?_)
        · replace h := ifT hb h
          refine awp_skip ?_
          refine post_then ?_
          refine awp_seq ?_
          refine awp_block ?_
          refine awp_seq ?_
          replace h := bs h
          obtain ⟨x3, hx3_, h⟩ := h
          replace h := bs h
          obtain ⟨r4, hr4_, h⟩ := h
          replace h := bs h
          obtain ⟨x4, hx4_, h⟩ := h
          replace h := bs h
          obtain ⟨r5, hr5_, h⟩ := h
          replace h := bs h
          obtain ⟨x5, hx5_, h⟩ := h
          refine areg [{cs := enc_int x3}, {d := I r4}, {cs := enc_int x4}, {d := I r5}, {cs := enc_int x5}] [.keep [2, 3, 9, 10, 11, 14, 15] [1011], .useU [1011]] (s' := ⟨[(2, .c (.im (.sl 1 (want.map enc_int)))), (3, .c (.im (.sl 1 (most.map enc_int)))), (9, I (imin (imin (least.length : Int) (want.length : Int)) (most.length : Int))), (10, I left2), (11, .c (.lsl 1011 1 0 out3.length)), (14, I i1), (15, I (imin (imax (w64 ((imin r4 r5) - x5)) 0) left2))], [(1011, .row 3 1 (out3.map enc_int))], [1011]⟩) (by kernel_rfl) (ac (idx_nn hx3_) (ac (idx_map enc_int hx3_) (ac (con_dispatchref16_good hr4_) (ac (idx_nn hx4_) (ac (idx_map enc_int hx4_) (ac (con_dispatchref16_good hr5_) (ac (idx_nn hx5_) (ac (idx_ltn (rfl : out3.length = out3.length) hx5_) (ac (idx_row enc_int hx5_) an))))))))) ?_
          refine post_then ?_
          refine awp_seq ?_
          replace h := bs h
          obtain ⟨x6, hx6_, h⟩ := h
          replace h := bs h
          obtain ⟨out5, hout5_, h⟩ := h
          refine areg [{cs := enc_int x6}, {cs := enc_int x6, es := out5.map enc_int}] [.keep [2, 3, 9, 10, 11, 14, 15] [1011], .useU [1011]] (s' := ⟨[(2, .c (.im (.sl 1 (want.map enc_int)))), (3, .c (.im (.sl 1 (most.map enc_int)))), (9, I (imin (imin (least.length : Int) (want.length : Int)) (most.length : Int))), (10, I left2), (11, .c (.lsl 1011 1 0 out3.length)), (14, I i1), (15, I (imin (imax (w64 ((imin r4 r5) - x5)) 0) left2))], [(1011, .row 3 1 (out5.map enc_int))], [1011]⟩) (by kernel_rfl) (ac (idx_nn hx6_) (ac (idx_ltn (rfl : out3.length = out3.length) hx6_) (ac (idx_row enc_int hx6_) (ac (idx_nn hx6_) (ac (idx_ltn (rfl : out3.length = out3.length) hx6_) (ac (idx_row enc_int hx6_) (ac (upd_set enc_int hout5_) an))))))) ?_
          refine post_eq (s' := ⟨[(2, .c (.im (.sl 1 (want.map enc_int)))), (3, .c (.im (.sl 1 (most.map enc_int)))), (9, I (imin (imin (least.length : Int) (want.length : Int)) (most.length : Int))), (10, I left2), (11, .c (.lsl 1011 1 0 out5.length)), (14, I i1), (15, I (imin (imax (w64 ((imin r4 r5) - x5)) 0) left2))], [(1011, .row 3 1 (out5.map enc_int))], [1011]⟩) (by rw [((rfl : out3.length = out3.length).trans (upd_len hout5_))]) ?_
          refine post_then ?_
          refine areg [] [.keep [2, 3, 9, 10, 11, 14] [1011], .useU [1011]] (s' := ⟨[(2, .c (.im (.sl 1 (want.map enc_int)))), (3, .c (.im (.sl 1 (most.map enc_int)))), (9, I (imin (imin (least.length : Int) (want.length : Int)) (most.length : Int))), (10, I (w64 (left2 - (imin (imax (w64 ((imin r4 r5) - x5)) 0) left2)))), (11, .c (.lsl 1011 1 0 out5.length)), (14, I i1)], [(1011, .row 3 1 (out5.map enc_int))], [1011]⟩) (by kernel_rfl) an ?_
          refine post_blk ?_
          refine post_then ?_
          refine areg [] [.keep [2, 3, 9, 10, 11, 14] [1011], .useU [1011]] (s' := ⟨[(2, .c (.im (.sl 1 (want.map enc_int)))), (3, .c (.im (.sl 1 (most.map enc_int)))), (9, I (imin (imin (least.length : Int) (want.length : Int)) (most.length : Int))), (10, I (w64 (left2 - (imin (imax (w64 ((imin r4 r5) - x5)) 0) left2)))), (11, .c (.lsl 1011 1 0 out5.length)), (14, I (w64 (i1 + 1)))], [(1011, .row 3 1 (out5.map enc_int))], [1011]⟩) (by kernel_rfl) an ?_
          exact post_cmds [.keep [2, 3, 9, 10, 11, 14] [1011], .useU [1011], .keep [2, 3, 9, 10, 11, 14] [1011], .useU [1011]] (by kernel_rfl) an (post_back (Nat.lt_succ_self _) ⟨_, _, _, h, rfl⟩)
        · replace h := ifF hb h
          refine awp_exit ?_
          refine post_thenE ?_
          refine post_thenE ?_
          refine post_blkE ?_
          have e := Option.some.inj h
          clear h
          subst e
          exact post_cmds [.keep [11] [1011], .useU [1011], .keep [11] [1011], .useU [1011]] (by kernel_rfl) an post_in
    · skip
      refine post_then ?_
      refine awp_seq ?_
      refine areg [] [.keep [8] [1011], .useU [1011]] (s' := ⟨[(8, .c (.lsl 1011 1 0 out4.length))], [(1011, .row 3 1 (out4.map enc_int))], [1011]⟩) (by kernel_rfl) an ?_
      refine post_then ?_
      refine awp_ret ?_
      have e := Option.some.inj h
      clear h
      subst e
      exact post_cmds [.keep [8] [1011], .fz 1011] (s' := ⟨[(8, .c (.im (.sl 1 (out4.map enc_int))))], [], [1011]⟩) (by kernel_rfl) (ac (len_map (l := out4) enc_int) an) (post_ret tok hF rfl (by kernel_rfl) (by kernel_rfl))

theorem con_dispatchlaw16_known {r : Bool} (h : D.dispatchlaw16_known = some r) : Con Try.prog 7 [] (Bo r) := by
  refine con_intro Try.func7 rfl Try.ntmps7 (by kernel_rfl) rfl fun F hF => ?_
  unfold D.dispatchlaw16_known at h
  refine awp_seq ?_
  refine areg [] [.keep [] [], .useU []] (s' := ⟨[], [], []⟩) (by kernel_rfl) an ?_
  refine post_then ?_
  refine awp_seq ?_
  replace h := bs h
  obtain ⟨r, hr_, h⟩ := h
  refine areg [{k := true}, {k := true}, {k := true}, {d := .c (.im (.sl 1 (r.map enc_int)))}] [.keep [1] [], .useU []] (s' := ⟨[(1, .c (.im (.sl 1 (r.map enc_int))))], [], []⟩) (by kernel_rfl) (ac (con_ideal_Split hr_) an) ?_
  refine post_then ?_
  refine awp_seq ?_
  replace h := bs h
  obtain ⟨v, hj1, h⟩ := h
  refine awp_cutN (⟨[(0, Bo v)], [], []⟩) ?_ ?_
  · replace h := hj1
    clear hj1
    rcases boolc ((r.length : Int) == 2) with hj2 | hj2
    · replace h := ifT hj2 h
      replace h := bs h
      obtain ⟨x, hx_, h⟩ := h
      rcases boolc (x == 7) with hj3 | hj3
      · replace h := ifT hj3 h
        replace h := bs h
        obtain ⟨x1, hx1_, h⟩ := h
        refine areg [{n := r.length}, {b := true}, {cs := enc_int x}, {b := true}, {b := true}, {cs := enc_int x1}, {b := true}] [.keep [0] [], .useU []] (s' := ⟨[(0, Bo (x1 == 3))], [], []⟩) (by kernel_rfl) (ac (len_map (l := r) enc_int) (ac (hj2 : ((r.length : Int) == 2) = true) (ac (idx_nn hx_) (ac (idx_map enc_int hx_) (ac (hj2 : ((r.length : Int) == 2) = true) (ac (hj3 : (x == 7) = true) (ac (idx_nn hx1_) (ac (idx_map enc_int hx1_) (ac (hj3 : (x == 7) = true) an))))))))) ?_
        have e := Option.some.inj h
        clear h
        subst e
        exact post_cmds [.keep [0] [], .useU [], .keep [0] [], .useU []] (by kernel_rfl) an post_in
      · replace h := ifF hj3 h
        refine areg [{n := r.length}, {b := true}, {cs := enc_int x}, {b := true}, {b := false}, {b := false}] [.keep [0] [], .useU []] (s' := ⟨[(0, Bo false)], [], []⟩) (by kernel_rfl) (ac (len_map (l := r) enc_int) (ac (hj2 : ((r.length : Int) == 2) = true) (ac (idx_nn hx_) (ac (idx_map enc_int hx_) (ac (hj2 : ((r.length : Int) == 2) = true) (ac (hj3 : (x == 7) = false) (ac (hj3 : (x == 7) = false) an))))))) ?_
        have e := Option.some.inj h
        clear h
        subst e
        exact post_cmds [.keep [0] [], .useU [], .keep [0] [], .useU []] (by kernel_rfl) an post_in
    · replace h := ifF hj2 h
      refine areg [{n := r.length}, {b := false}, {b := false}, {b := false}, {b := false}] [.keep [0] [], .useU []] (s' := ⟨[(0, Bo false)], [], []⟩) (by kernel_rfl) (ac (len_map (l := r) enc_int) (ac (hj2 : ((r.length : Int) == 2) = false) (ac (hj2 : ((r.length : Int) == 2) = false) (ac (rfl : false = false) (ac (rfl : false = false) an))))) ?_
      have e := Option.some.inj h
      clear h
      subst e
      exact post_cmds [.keep [0] [], .useU [], .keep [0] [], .useU []] (by kernel_rfl) an post_in
  · skip
    refine post_then ?_
    refine awp_ret ?_
    have e := Option.some.inj h
    clear h
    subst e
    exact post_ret tok hF rfl (by kernel_rfl) (by kernel_rfl)

theorem con_dispatchlaw16_IdealSplits {total : Int} {least : (List Int)} {want : (List Int)} {most : (List Int)} {small : Bool} {r : Bool} (h : D.dispatchlaw16_IdealSplits total least want most small = some r) : Con Try.prog 3 [I total, .c (.im (.sl 1 (least.map enc_int))), .c (.im (.sl 1 (want.map enc_int))), .c (.im (.sl 1 (most.map enc_int))), Bo small] (Bo r) := by
  refine con_intro Try.func3 rfl Try.ntmps3 (by kernel_rfl) rfl fun F hF => ?_
  unfold D.dispatchlaw16_IdealSplits at h
  refine awp_seq ?_
  refine areg [] [.keep [0, 1, 2, 3, 4] [], .useU []] (s' := ⟨[(0, I total), (1, .c (.im (.sl 1 (least.map enc_int)))), (2, .c (.im (.sl 1 (want.map enc_int)))), (3, .c (.im (.sl 1 (most.map enc_int)))), (4, Bo small)], [], []⟩) (by kernel_rfl) an ?_
  refine post_then ?_
  refine awp_seq ?_
  refine awp_seq ?_
  replace h := bs h
  obtain ⟨r, hr_, h⟩ := h
  refine areg [{d := Bo r}] [.keep [0, 1, 2, 3, 4, 15] [], .useU []] (s' := ⟨[(0, I total), (1, .c (.im (.sl 1 (least.map enc_int)))), (2, .c (.im (.sl 1 (want.map enc_int)))), (3, .c (.im (.sl 1 (most.map enc_int)))), (4, Bo small), (15, Bo (!r))], [], []⟩) (by kernel_rfl) (ac (con_dispatchlaw16_known hr_) an) ?_
  refine post_then ?_
  refine awp_cond (b := (!r)) rfl (fun hb => ?_) (fun hb => ?_)
  · replace h := ifT hb h
    refine awp_seq ?_
    refine areg [] [.keep [10] [], .useU []] (s' := ⟨[(10, Bo false)], [], []⟩) (by kernel_rfl) an ?_
    refine post_then ?_
    refine awp_ret ?_
    refine post_thenR ?_
    have e := Option.some.inj h
    clear h
    subst e
    exact post_ret tok hF rfl (by kernel_rfl) (by kernel_rfl)
  · replace h := ifF hb h
    refine awp_skip ?_
    refine post_then ?_
    refine awp_seq ?_
    refine awp_seq ?_
    replace h := bs h
    obtain ⟨v, hj1, h⟩ := h
    refine awp_cutN (⟨[(0, I total), (1, .c (.im (.sl 1 (least.map enc_int)))), (2, .c (.im (.sl 1 (want.map enc_int)))), (3, .c (.im (.sl 1 (most.map enc_int)))), (4, Bo small), (28, Bo v)], [], []⟩) ?_ ?_
    · replace h := hj1
      clear hj1
      rcases boolc (decide ((least.length : Int) > 20)) with hj2 | hj2
      · replace h := ifT hj2 h
        refine areg [{n := least.length}, {b := true}, {b := true}, {b := true}, {b := true}] [.keep [0, 1, 2, 3, 4, 28] [], .useU []] (s' := ⟨[(0, I total), (1, .c (.im (.sl 1 (least.map enc_int)))), (2, .c (.im (.sl 1 (want.map enc_int)))), (3, .c (.im (.sl 1 (most.map enc_int)))), (4, Bo small), (28, Bo true)], [], []⟩) (by kernel_rfl) (ac (len_map (l := least) enc_int) (ac (hj2 : (decide ((least.length : Int) > 20)) = true) (ac (hj2 : (decide ((least.length : Int) > 20)) = true) (ac (rfl : true = true) (ac (rfl : true = true) an))))) ?_
        have e := Option.some.inj h
        clear h
        subst e
        exact post_cmds [.keep [0, 1, 2, 3, 4, 28] [], .useU [], .keep [0, 1, 2, 3, 4, 28] [], .useU []] (by kernel_rfl) an post_in
      · replace h := ifF hj2 h
        rcases boolc (decide ((want.length : Int) > 20)) with hj3 | hj3
        · replace h := ifT hj3 h
          refine areg [{n := least.length}, {b := false}, {n := want.length}, {b := false}, {b := true}, {b := true}] [.keep [0, 1, 2, 3, 4, 28] [], .useU []] (s' := ⟨[(0, I total), (1, .c (.im (.sl 1 (least.map enc_int)))), (2, .c (.im (.sl 1 (want.map enc_int)))), (3, .c (.im (.sl 1 (most.map enc_int)))), (4, Bo small), (28, Bo true)], [], []⟩) (by kernel_rfl) (ac (len_map (l := least) enc_int) (ac (hj2 : (decide ((least.length : Int) > 20)) = false) (ac (len_map (l := want) enc_int) (ac (hj2 : (decide ((least.length : Int) > 20)) = false) (ac (hj3 : (decide ((want.length : Int) > 20)) = true) (ac (hj3 : (decide ((want.length : Int) > 20)) = true) an)))))) ?_
          have e := Option.some.inj h
          clear h
          subst e
          exact post_cmds [.keep [0, 1, 2, 3, 4, 28] [], .useU [], .keep [0, 1, 2, 3, 4, 28] [], .useU []] (by kernel_rfl) an post_in
        · replace h := ifF hj3 h
          refine areg [{n := least.length}, {b := false}, {n := want.length}, {b := false}, {b := false}, {n := most.length}, {b := false}] [.keep [0, 1, 2, 3, 4, 28] [], .useU []] (s' := ⟨[(0, I total), (1, .c (.im (.sl 1 (least.map enc_int)))), (2, .c (.im (.sl 1 (want.map enc_int)))), (3, .c (.im (.sl 1 (most.map enc_int)))), (4, Bo small), (28, Bo (decide ((most.length : Int) > 20)))], [], []⟩) (by kernel_rfl) (ac (len_map (l := least) enc_int) (ac (hj2 : (decide ((least.length : Int) > 20)) = false) (ac (len_map (l := want) enc_int) (ac (hj2 : (decide ((least.length : Int) > 20)) = false) (ac (hj3 : (decide ((want.length : Int) > 20)) = false) (ac (len_map (l := most) enc_int) (ac (hj3 : (decide ((want.length : Int) > 20)) = false) an))))))) ?_
          have e := Option.some.inj h
          clear h
          subst e
          exact post_cmds [.keep [0, 1, 2, 3, 4, 28] [], .useU [], .keep [0, 1, 2, 3, 4, 28] [], .useU []] (by kernel_rfl) an post_in
    · skip
      refine post_then ?_
      refine awp_cond (b := v) rfl (fun hb => ?_) (fun hb => ?_)
      · replace h := ifT hb h
        refine awp_seq ?_
        refine areg [] [.keep [10] [], .useU []] (s' := ⟨[(10, Bo true)], [], []⟩) (by kernel_rfl) an ?_
        refine post_then ?_
        refine awp_ret ?_
        refine post_thenR ?_
        have e := Option.some.inj h
        clear h
        subst e
        exact post_ret tok hF rfl (by kernel_rfl) (by kernel_rfl)
      · replace h := ifF hb h
        refine awp_skip ?_
        refine post_then ?_
        refine awp_seq ?_
        replace h := bs h
        obtain ⟨⟨total1, least1, want1, most1⟩, hj4, h⟩ := h
        refine awp_cutN (⟨[(0, I total1), (1, .c (.im (.sl 1 (least1.map enc_int)))), (2, .c (.im (.sl 1 (want1.map enc_int)))), (3, .c (.im (.sl 1 (most1.map enc_int))))], [], []⟩) ?_ ?_
        · replace h := hj4
          clear hj4
          refine awp_seq ?_
          refine areg [] [.keep [0, 1, 2, 3, 29] [], .useU []] (s' := ⟨[(0, I total), (1, .c (.im (.sl 1 (least.map enc_int)))), (2, .c (.im (.sl 1 (want.map enc_int)))), (3, .c (.im (.sl 1 (most.map enc_int)))), (29, Bo small)], [], []⟩) (by kernel_rfl) an ?_
          refine post_then ?_
          refine awp_cond (b := small) rfl (fun hb => ?_) (fun hb => ?_)
          · replace h := ifT hb h
            refine awp_seq ?_
            replace h := bs h
            obtain ⟨r1, hr1_, h⟩ := h
            refine areg [{d := I r1}] [.keep [0, 1, 2, 3] [], .useU []] (s' := ⟨[(0, I r1), (1, .c (.im (.sl 1 (least.map enc_int)))), (2, .c (.im (.sl 1 (want.map enc_int)))), (3, .c (.im (.sl 1 (most.map enc_int))))], [], []⟩) (by kernel_rfl) (ac (con_dispatchlaw16_within hr1_) an) ?_
            refine post_then ?_
            replace h := bs h
            obtain ⟨r2, hr2_, h⟩ := h
            replace h := bs h
            obtain ⟨r3, hr3_, h⟩ := h
            replace h := bs h
            obtain ⟨r4, hr4_, h⟩ := h
            refine areg [{d := .c (.im (.sl 1 (r2.map enc_int)))}, {d := .c (.im (.sl 1 (r3.map enc_int)))}, {d := .c (.im (.sl 1 (r4.map enc_int)))}] [.keep [0, 1, 2, 3] [], .useU []] (s' := ⟨[(0, I r1), (1, .c (.im (.sl 1 (r2.map enc_int)))), (2, .c (.im (.sl 1 (r3.map enc_int)))), (3, .c (.im (.sl 1 (r4.map enc_int))))], [], []⟩) (by kernel_rfl) (ac (con_dispatchlaw16_few hr2_) (ac (con_dispatchlaw16_few hr3_) (ac (con_dispatchlaw16_few hr4_) an))) ?_
            have e := Option.some.inj h
            clear h
            obtain ⟨e1, e⟩ := Prod.mk.inj e
            obtain ⟨e2, e⟩ := Prod.mk.inj e
            obtain ⟨e3, e4⟩ := Prod.mk.inj e
            subst e1 e2 e3 e4
            exact post_cmds [.keep [0, 1, 2, 3] [], .useU [], .keep [0, 1, 2, 3] [], .useU []] (by kernel_rfl) an post_in
          · replace h := ifF hb h
            refine awp_skip ?_
            have e := Option.some.inj h
            clear h
            obtain ⟨e1, e⟩ := Prod.mk.inj e
            obtain ⟨e2, e⟩ := Prod.mk.inj e
            obtain ⟨e3, e4⟩ := Prod.mk.inj e
            subst e1 e2 e3 e4
            exact post_cmds [.keep [0, 1, 2, 3] [], .useU [], .keep [0, 1, 2, 3] [], .useU []] (by kernel_rfl) an post_in
        · skip
          refine post_then ?_
          refine awp_seq ?_
          replace h := bs h
          obtain ⟨r5, hr5_, h⟩ := h
          replace h := bs h
          obtain ⟨r6, hr6_, h⟩ := h
          refine areg [{d := .c (.im (.sl 1 (r5.map enc_int)))}, {d := .c (.im (.sl 1 (r6.map enc_int)))}] [.keep [11, 12] [], .useU []] (s' := ⟨[(11, .c (.im (.sl 1 (r5.map enc_int)))), (12, .c (.im (.sl 1 (r6.map enc_int))))], [], []⟩) (by kernel_rfl) (ac (con_ideal_Split hr5_) (ac (con_dispatchref16_Split hr6_) an)) ?_
          refine post_then ?_
          refine awp_seq ?_
          refine awp_seq ?_
          refine areg [{n := r5.length}, {n := r6.length}] [.keep [11, 12, 52] [], .useU []] (s' := ⟨[(11, .c (.im (.sl 1 (r5.map enc_int)))), (12, .c (.im (.sl 1 (r6.map enc_int)))), (52, Bo ((r5.length : Int) != (r6.length : Int)))], [], []⟩) (by kernel_rfl) (ac (len_map (l := r5) enc_int) (ac (len_map (l := r6) enc_int) an)) ?_
          refine post_then ?_
          refine awp_cond (b := ((r5.length : Int) != (r6.length : Int))) rfl (fun hb => ?_) (fun hb => ?_)
          · replace h := ifT hb h
            refine awp_seq ?_
            refine areg [] [.keep [10] [], .useU []] (s' := ⟨[(10, Bo false)], [], []⟩) (by kernel_rfl) an ?_
            refine post_then ?_
            refine awp_ret ?_
            refine post_thenR ?_
            have e := Option.some.inj h
            clear h
            subst e
            exact post_ret tok hF rfl (by kernel_rfl) (by kernel_rfl)
          · replace h := ifF hb h
            refine awp_skip ?_
            refine post_then ?_
            refine awp_seq ?_
            refine awp_seq ?_
            refine areg [] [.keep [11, 12, 13] [], .useU []] (s' := ⟨[(11, .c (.im (.sl 1 (r5.map enc_int)))), (12, .c (.im (.sl 1 (r6.map enc_int)))), (13, I 0)], [], []⟩) (by kernel_rfl) an ?_
            refine post_then ?_
            replace h := bs h
            obtain ⟨j6, hj6, h⟩ := h
            rcases j6 with _ | rhj6
            · refine awp_cutN (⟨[], [], []⟩) ?_ ?_
              · replace h := hj6
                clear hj6
                refine awp_cmds [.keep [11, 12, 13] [], .useU [], .keep [11, 12, 13] [], .useU []] (by kernel_rfl) an (awp_block (awp_loop (fun k s => ∃ (i : Int), D.dispatchlaw16_IdealSplits_l5 r5 r6 k i = some (Lp.nx ()) ∧ s = ⟨[(11, .c (.im (.sl 1 (r5.map enc_int)))), (12, .c (.im (.sl 1 (r6.map enc_int)))), (13, I i)], [], []⟩) ⟨_, h, rfl⟩ ?_))
                clear h
                rintro (_ | k) s ⟨i, h, rfl⟩
                · cases h
                · unfold D.dispatchlaw16_IdealSplits_l5 at h
                  refine awp_seq ?_
                  refine awp_seq ?_
                  refine areg [{n := r5.length}] [.keep [11, 12, 13, 56] [], .useU []] (s' := ⟨[(11, .c (.im (.sl 1 (r5.map enc_int)))), (12, .c (.im (.sl 1 (r6.map enc_int)))), (13, I i), (56, Bo (decide (i < (r5.length : Int))))], [], []⟩) (by kernel_rfl) (ac (len_map (l := r5) enc_int) an) ?_
                  refine post_then ?_
                  refine awp_cond (b := (decide (i < (r5.length : Int)))) rfl (fun hb => ?_) (fun hb => ?_)
                  · replace h := ifT hb h
                    refine awp_skip ?_
                    refine post_then ?_
                    refine awp_seq ?_
                    refine awp_block ?_
                    refine awp_seq ?_
                    replace h := bs h
                    obtain ⟨x, hx_, h⟩ := h
                    replace h := bs h
                    obtain ⟨x1, hx1_, h⟩ := h
                    refine areg [{cs := enc_int x}, {cs := enc_int x1}] [.keep [11, 12, 13, 67] [], .useU []] (s' := ⟨[(11, .c (.im (.sl 1 (r5.map enc_int)))), (12, .c (.im (.sl 1 (r6.map enc_int)))), (13, I i), (67, Bo (x != x1))], [], []⟩) (by kernel_rfl) (ac (idx_nn hx_) (ac (idx_map enc_int hx_) (ac (idx_nn hx1_) (ac (idx_map enc_int hx1_) an)))) ?_
                    refine post_then ?_
                    refine awp_cond (b := (x != x1)) rfl (fun hb => ?_) (fun hb => ?_)
                    · replace h := ifT hb h
                      refine awp_seq ?_
                      refine areg [] [.keep [10] [], .useU []] (s' := ⟨[(10, Bo false)], [], []⟩) (by kernel_rfl) an ?_
                      refine post_then ?_
                      refine awp_ret ?_
                      refine post_blkR ?_
                      refine post_thenR ?_
                      refine post_thenR ?_
                      refine post_blkR ?_
                      cases h
                    · replace h := ifF hb h
                      refine awp_skip ?_
                      refine post_blk ?_
                      refine post_then ?_
                      refine areg [] [.keep [11, 12, 13] [], .useU []] (s' := ⟨[(11, .c (.im (.sl 1 (r5.map enc_int)))), (12, .c (.im (.sl 1 (r6.map enc_int)))), (13, I (w64 (i + 1)))], [], []⟩) (by kernel_rfl) an ?_
                      exact post_cmds [.keep [11, 12, 13] [], .useU [], .keep [11, 12, 13] [], .useU []] (by kernel_rfl) an (post_back (Nat.lt_succ_self _) ⟨_, h, rfl⟩)
                  · replace h := ifF hb h
                    refine awp_exit ?_
                    refine post_thenE ?_
                    refine post_thenE ?_
                    refine post_blkE ?_
                    clear h
                    exact post_cmds [.keep [] [], .useU [], .keep [] [], .useU []] (by kernel_rfl) an post_in
              · skip
                refine post_then ?_
                refine awp_seq ?_
                refine areg [] [.keep [10] [], .useU []] (s' := ⟨[(10, Bo true)], [], []⟩) (by kernel_rfl) an ?_
                refine post_then ?_
                refine awp_ret ?_
                have e := Option.some.inj h
                clear h
                subst e
                exact post_ret tok hF rfl (by kernel_rfl) (by kernel_rfl)
            · skip
              have e := Option.some.inj h
              clear h
              subst e
              replace h := hj6
              clear hj6
              refine awp_cmds [.keep [11, 12, 13] [], .useU [], .keep [11, 12, 13] [], .useU []] (by kernel_rfl) an (awp_block (awp_loop (fun k s => ∃ (i : Int), D.dispatchlaw16_IdealSplits_l5 r5 r6 k i = some (Lp.xt rhj6) ∧ s = ⟨[(11, .c (.im (.sl 1 (r5.map enc_int)))), (12, .c (.im (.sl 1 (r6.map enc_int)))), (13, I i)], [], []⟩) ⟨_, h, rfl⟩ ?_))
              clear h
              rintro (_ | k) s ⟨i, h, rfl⟩
              · cases h
              · unfold D.dispatchlaw16_IdealSplits_l5 at h
                refine awp_seq ?_
                refine awp_seq ?_
                refine areg [{n := r5.length}] [.keep [11, 12, 13, 56] [], .useU []] (s' := ⟨[(11, .c (.im (.sl 1 (r5.map enc_int)))), (12, .c (.im (.sl 1 (r6.map enc_int)))), (13, I i), (56, Bo (decide (i < (r5.length : Int))))], [], []⟩) (by kernel_rfl) (ac (len_map (l := r5) enc_int) an) ?_
                refine post_then ?_
                refine awp_cond (b := (decide (i < (r5.length : Int)))) rfl (fun hb => ?_) (fun hb => ?_)
                · replace h := ifT hb h
                  refine awp_skip ?_
                  refine post_then ?_
                  refine awp_seq ?_
                  refine awp_block ?_
                  refine awp_seq ?_
                  replace h := bs h
                  obtain ⟨x, hx_, h⟩ := h
                  replace h := bs h
                  obtain ⟨x1, hx1_, h⟩ := h
                  refine areg [{cs := enc_int x}, {cs := enc_int x1}] [.keep [11, 12, 13, 67] [], .useU []] (s' := ⟨[(11, .c (.im (.sl 1 (r5.map enc_int)))), (12, .c (.im (.sl 1 (r6.map enc_int)))), (13, I i), (67, Bo (x != x1))], [], []⟩) (by kernel_rfl) (ac (idx_nn hx_) (ac (idx_map enc_int hx_) (ac (idx_nn hx1_) (ac (idx_map enc_int hx1_) an)))) ?_
                  refine post_then ?_
                  refine awp_cond (b := (x != x1)) rfl (fun hb => ?_) (fun hb => ?_)
                  · replace h := ifT hb h
                    refine awp_seq ?_
                    refine areg [] [.keep [10] [], .useU []] (s' := ⟨[(10, Bo false)], [], []⟩) (by kernel_rfl) an ?_
                    refine post_then ?_
                    refine awp_ret ?_
                    refine post_blkR ?_
                    refine post_thenR ?_
                    refine post_thenR ?_
                    refine post_blkR ?_
                    refine post_thenR ?_
                    have e := Lp.xt.inj (Option.some.inj h)
                    clear h
                    subst e
                    exact post_ret tok hF rfl (by kernel_rfl) (by kernel_rfl)
                  · replace h := ifF hb h
                    refine awp_skip ?_
                    refine post_blk ?_
                    refine post_then ?_
                    refine areg [] [.keep [11, 12, 13] [], .useU []] (s' := ⟨[(11, .c (.im (.sl 1 (r5.map enc_int)))), (12, .c (.im (.sl 1 (r6.map enc_int)))), (13, I (w64 (i + 1)))], [], []⟩) (by kernel_rfl) an ?_
                    exact post_cmds [.keep [11, 12, 13] [], .useU [], .keep [11, 12, 13] [], .useU []] (by kernel_rfl) an (post_back (Nat.lt_succ_self _) ⟨_, h, rfl⟩)
                · replace h := ifF hb h
                  refine awp_exit ?_
                  refine post_thenE ?_
                  refine post_thenE ?_
                  refine post_blkE ?_
                  cases h

theorem con_dispatchlaw16_IdealSums {total : Int} {least : (List Int)} {want : (List Int)} {most : (List Int)} {r : Bool} (h : D.dispatchlaw16_IdealSums total least want most = some r) : Con Try.prog 4 [I total, .c (.im (.sl 1 (least.map enc_int))), .c (.im (.sl 1 (want.map enc_int))), .c (.im (.sl 1 (most.map enc_int)))] (Bo r) := by
  refine con_intro Try.func4 rfl Try.ntmps4 (by kernel_rfl) rfl fun F hF => ?_
  unfold D.dispatchlaw16_IdealSums at h
  refine awp_seq ?_
  refine areg [] [.keep [0, 1, 2, 3] [], .useU []] (s' := ⟨[(0, I total), (1, .c (.im (.sl 1 (least.map enc_int)))), (2, .c (.im (.sl 1 (want.map enc_int)))), (3, .c (.im (.sl 1 (most.map enc_int))))], [], []⟩) (by kernel_rfl) an ?_
  refine post_then ?_
  refine awp_seq ?_
  refine awp_seq ?_
  replace h := bs h
  obtain ⟨r, hr_, h⟩ := h
  refine areg [{d := Bo r}] [.keep [0, 1, 2, 3, 16] [], .useU []] (s' := ⟨[(0, I total), (1, .c (.im (.sl 1 (least.map enc_int)))), (2, .c (.im (.sl 1 (want.map enc_int)))), (3, .c (.im (.sl 1 (most.map enc_int)))), (16, Bo (!r))], [], []⟩) (by kernel_rfl) (ac (con_dispatchlaw16_known hr_) an) ?_
  refine post_then ?_
  refine awp_cond (b := (!r)) rfl (fun hb => ?_) (fun hb => ?_)
  · replace h := ifT hb h
    refine awp_seq ?_
    refine areg [] [.keep [8] [], .useU []] (s' := ⟨[(8, Bo false)], [], []⟩) (by kernel_rfl) an ?_
    refine post_then ?_
    refine awp_ret ?_
    refine post_thenR ?_
    have e := Option.some.inj h
    clear h
    subst e
    exact post_ret tok hF rfl (by kernel_rfl) (by kernel_rfl)
  · replace h := ifF hb h
    refine awp_skip ?_
    refine post_then ?_
    refine awp_seq ?_
    refine areg [{n := least.length}, {n := want.length}, {n := most.length}] [.keep [0, 1, 2, 3, 9] [], .useU []] (s' := ⟨[(0, I total), (1, .c (.im (.sl 1 (least.map enc_int)))), (2, .c (.im (.sl 1 (want.map enc_int)))), (3, .c (.im (.sl 1 (most.map enc_int)))), (9, I (imin (imin (imin (least.length : Int) (want.length : Int)) (most.length : Int)) 20))], [], []⟩) (by kernel_rfl) (ac (len_map (l := least) enc_int) (ac (len_map (l := want) enc_int) (ac (len_map (l := most) enc_int) an))) ?_
    refine post_then ?_
    refine awp_seq ?_
    replace h := bs h
    obtain ⟨l, hl_, h⟩ := h
    replace h := bs h
    obtain ⟨r1, hr1_, h⟩ := h
    replace h := bs h
    obtain ⟨l1, hl1_, h⟩ := h
    replace h := bs h
    obtain ⟨r2, hr2_, h⟩ := h
    replace h := bs h
    obtain ⟨l2, hl2_, h⟩ := h
    replace h := bs h
    obtain ⟨r3, hr3_, h⟩ := h
    refine areg [{es := l.map enc_int}, {d := .c (.im (.sl 1 (r1.map enc_int)))}, {es := l1.map enc_int}, {d := .c (.im (.sl 1 (r2.map enc_int)))}, {es := l2.map enc_int}, {d := .c (.im (.sl 1 (r3.map enc_int)))}] [.keep [0, 1, 2, 3, 9] [], .useU []] (s' := ⟨[(0, I total), (1, .c (.im (.sl 1 (r1.map enc_int)))), (2, .c (.im (.sl 1 (r2.map enc_int)))), (3, .c (.im (.sl 1 (r3.map enc_int)))), (9, I (imin (imin (imin (least.length : Int) (want.length : Int)) (most.length : Int)) 20))], [], []⟩) (by kernel_rfl) (ac (slc_eq hl_).1 (ac (slc_eq hl_).2.1 (ac (slc_len enc_int hl_) (ac (slc_map enc_int hl_) (ac (con_dispatchlaw16_few hr1_) (ac (slc_eq hl1_).1 (ac (slc_eq hl1_).2.1 (ac (slc_len enc_int hl1_) (ac (slc_map enc_int hl1_) (ac (con_dispatchlaw16_few hr2_) (ac (slc_eq hl2_).1 (ac (slc_eq hl2_).2.1 (ac (slc_len enc_int hl2_) (ac (slc_map enc_int hl2_) (ac (con_dispatchlaw16_few hr3_) an))))))))))))))) ?_
    refine post_then ?_
    refine awp_seq ?_
    replace h := bs h
    obtain ⟨r4, hr4_, h⟩ := h
    refine areg [{d := I r4}] [.keep [0, 1, 2, 3, 9] [], .useU []] (s' := ⟨[(0, I r4), (1, .c (.im (.sl 1 (r1.map enc_int)))), (2, .c (.im (.sl 1 (r2.map enc_int)))), (3, .c (.im (.sl 1 (r3.map enc_int)))), (9, I (imin (imin (imin (least.length : Int) (want.length : Int)) (most.length : Int)) 20))], [], []⟩) (by kernel_rfl) (ac (con_dispatchlaw16_within hr4_) an) ?_
    refine post_then ?_
    refine awp_seq ?_
    replace h := bs h
    obtain ⟨r5, hr5_, h⟩ := h
    refine areg [{d := .c (.im (.sl 1 (r5.map enc_int)))}] [.keep [0, 1, 2, 3, 9, 10] [], .useU []] (s' := ⟨[(0, I r4), (1, .c (.im (.sl 1 (r1.map enc_int)))), (2, .c (.im (.sl 1 (r2.map enc_int)))), (3, .c (.im (.sl 1 (r3.map enc_int)))), (9, I (imin (imin (imin (least.length : Int) (want.length : Int)) (most.length : Int)) 20)), (10, .c (.im (.sl 1 (r5.map enc_int))))], [], []⟩) (by kernel_rfl) (ac (con_ideal_Split hr5_) an) ?_
    refine post_then ?_
    refine awp_seq ?_
    refine awp_seq ?_
    refine areg [{n := r5.length}] [.keep [0, 1, 2, 3, 9, 10, 46] [], .useU []] (s' := ⟨[(0, I r4), (1, .c (.im (.sl 1 (r1.map enc_int)))), (2, .c (.im (.sl 1 (r2.map enc_int)))), (3, .c (.im (.sl 1 (r3.map enc_int)))), (9, I (imin (imin (imin (least.length : Int) (want.length : Int)) (most.length : Int)) 20)), (10, .c (.im (.sl 1 (r5.map enc_int)))), (46, Bo ((r5.length : Int) != (imin (imin (imin (least.length : Int) (want.length : Int)) (most.length : Int)) 20)))], [], []⟩) (by kernel_rfl) (ac (len_map (l := r5) enc_int) an) ?_
    refine post_then ?_
    refine awp_cond (b := ((r5.length : Int) != (imin (imin (imin (least.length : Int) (want.length : Int)) (most.length : Int)) 20))) rfl (fun hb => ?_) (fun hb => ?_)
    · replace h := ifT hb h
      refine awp_seq ?_
      refine areg [] [.keep [8] [], .useU []] (s' := ⟨[(8, Bo false)], [], []⟩) (by kernel_rfl) an ?_
      refine post_then ?_
      refine awp_ret ?_
      refine post_thenR ?_
      have e := Option.some.inj h
      clear h
      subst e
      exact post_ret tok hF rfl (by kernel_rfl) (by kernel_rfl)
    · replace h := ifF hb h
      refine awp_skip ?_
      refine post_then ?_
      refine awp_seq ?_
      refine areg [] [.keep [0, 1, 2, 3, 9, 10, 11, 12] [], .useU []] (s' := ⟨[(0, I r4), (1, .c (.im (.sl 1 (r1.map enc_int)))), (2, .c (.im (.sl 1 (r2.map enc_int)))), (3, .c (.im (.sl 1 (r3.map enc_int)))), (9, I (imin (imin (imin (least.length : Int) (want.length : Int)) (most.length : Int)) 20)), (10, .c (.im (.sl 1 (r5.map enc_int)))), (11, I 0), (12, I 0)], [], []⟩) (by kernel_rfl) an ?_
      refine post_then ?_
      refine awp_seq ?_
      refine awp_seq ?_
      refine areg [] [.keep [0, 1, 2, 3, 9, 10, 11, 12, 13] [], .useU []] (s' := ⟨[(0, I r4), (1, .c (.im (.sl 1 (r1.map enc_int)))), (2, .c (.im (.sl 1 (r2.map enc_int)))), (3, .c (.im (.sl 1 (r3.map enc_int)))), (9, I (imin (imin (imin (least.length : Int) (want.length : Int)) (most.length : Int)) 20)), (10, .c (.im (.sl 1 (r5.map enc_int)))), (11, I 0), (12, I 0), (13, I 0)], [], []⟩) (by kernel_rfl) an ?_
      refine post_then ?_
      replace h := bs h
      obtain ⟨j12, hj2, h⟩ := h
      rcases j12 with ⟨sum1, all1⟩ | rhj2
      · refine awp_cutN (⟨[(0, I r4), (1, .c (.im (.sl 1 (r1.map enc_int)))), (2, .c (.im (.sl 1 (r2.map enc_int)))), (3, .c (.im (.sl 1 (r3.map enc_int)))), (9, I (imin (imin (imin (least.length : Int) (want.length : Int)) (most.length : Int)) 20)), (10, .c (.im (.sl 1 (r5.map enc_int)))), (11, I sum1), (12, I all1)], [], []⟩) ?_ ?_
        · replace h := hj2
          clear hj2
          refine awp_cmds [.keep [0, 1, 2, 3, 9, 10, 11, 12, 13] [], .useU [], .keep [0, 1, 2, 3, 9, 10, 11, 12, 13] [], .useU []] (by kernel_rfl) an (awp_block (awp_loop (fun k s => ∃ (sum : Int) (all : Int) (i : Int), D.dispatchlaw16_IdealSums_l1 least want most r1 r2 r3 r5 k sum all i = some (Lp.nx (sum1, all1)) ∧ s = ⟨[(0, I r4), (1, .c (.im (.sl 1 (r1.map enc_int)))), (2, .c (.im (.sl 1 (r2.map enc_int)))), (3, .c (.im (.sl 1 (r3.map enc_int)))), (9, I (imin (imin (imin (least.length : Int) (want.length : Int)) (most.length : Int)) 20)), (10, .c (.im (.sl 1 (r5.map enc_int)))), (11, I sum), (12, I all), (13, I i)], [], []⟩) ⟨_, _, _, h, rfl⟩ ?_))
          clear h
          rintro (_ | k) s ⟨sum, all, i, h, rfl⟩
          · cases h
          · unfold D.dispatchlaw16_IdealSums_l1 at h
            refine awp_seq ?_
            refine awp_seq ?_
            refine areg [] [.keep [0, 1, 2, 3, 9, 10, 11, 12, 13, 49] [], .useU []] (s' := ⟨[(0, I r4), (1, .c (.im (.sl 1 (r1.map enc_int)))), (2, .c (.im (.sl 1 (r2.map enc_int)))), (3, .c (.im (.sl 1 (r3.map enc_int)))), (9, I (imin (imin (imin (least.length : Int) (want.length : Int)) (most.length : Int)) 20)), (10, .c (.im (.sl 1 (r5.map enc_int)))), (11, I sum), (12, I all), (13, I i), (49, Bo (decide (i < (imin (imin (imin (least.length : Int) (want.length : Int)) (most.length : Int)) 20))))], [], []⟩) (by kernel_rfl) an ?_
            refine post_then ?_
            refine awp_cond (b := (decide (i < (imin (imin (imin (least.length : Int) (want.length : Int)) (most.length : Int)) 20)))) rfl (fun hb => ?_) (fun hb => ?_)
            · replace h := ifT hb h
              refine awp_skip ?_
              refine post_then ?_
              refine awp_seq ?_
              refine awp_block ?_
              refine awp_seq ?_
              refine awp_seq ?_
              replace h := bs h
              obtain ⟨v, hj3, h⟩ := h
              refine awp_cutN (⟨[(0, I r4), (1, .c (.im (.sl 1 (r1.map enc_int)))), (2, .c (.im (.sl 1 (r2.map enc_int)))), (3, .c (.im (.sl 1 (r3.map enc_int)))), (9, I (imin (imin (imin (least.length : Int) (want.length : Int)) (most.length : Int)) 20)), (10, .c (.im (.sl 1 (r5.map enc_int)))), (11, I sum), (12, I all), (13, I i), (78, Bo v)], [], []⟩) ?_ ?_
              · replace h := hj3
                clear hj3
                replace h := bs h
                obtain ⟨x, hx_, h⟩ := h
                rcases boolc (decide (x < 0)) with hj4 | hj4
                · replace h := ifT hj4 h
                  refine areg [{cs := enc_int x}, {b := true}, {b := true}, {b := true}, {b := true}] [.keep [0, 1, 2, 3, 9, 10, 11, 12, 13, 78] [], .useU []] (s' := ⟨[(0, I r4), (1, .c (.im (.sl 1 (r1.map enc_int)))), (2, .c (.im (.sl 1 (r2.map enc_int)))), (3, .c (.im (.sl 1 (r3.map enc_int)))), (9, I (imin (imin (imin (least.length : Int) (want.length : Int)) (most.length : Int)) 20)), (10, .c (.im (.sl 1 (r5.map enc_int)))), (11, I sum), (12, I all), (13, I i), (78, Bo true)], [], []⟩) (by kernel_rfl) (ac (idx_nn hx_) (ac (idx_map enc_int hx_) (ac (hj4 : (decide (x < 0)) = true) (ac (hj4 : (decide (x < 0)) = true) (ac (rfl : true = true) (ac (rfl : true = true) an)))))) ?_
                  have e := Option.some.inj h
                  clear h
                  subst e
                  exact post_cmds [.keep [0, 1, 2, 3, 9, 10, 11, 12, 13, 78] [], .useU [], .keep [0, 1, 2, 3, 9, 10, 11, 12, 13, 78] [], .useU []] (by kernel_rfl) an post_in
                · replace h := ifF hj4 h
                  replace h := bs h
                  obtain ⟨x1, hx1_, h⟩ := h
                  rcases boolc (decide (x > x1)) with hj5 | hj5
                  · replace h := ifT hj5 h
                    refine areg [{cs := enc_int x}, {b := false}, {cs := enc_int x}, {cs := enc_int x1}, {b := false}, {b := true}, {b := true}] [.keep [0, 1, 2, 3, 9, 10, 11, 12, 13, 78] [], .useU []] (s' := ⟨[(0, I r4), (1, .c (.im (.sl 1 (r1.map enc_int)))), (2, .c (.im (.sl 1 (r2.map enc_int)))), (3, .c (.im (.sl 1 (r3.map enc_int)))), (9, I (imin (imin (imin (least.length : Int) (want.length : Int)) (most.length : Int)) 20)), (10, .c (.im (.sl 1 (r5.map enc_int)))), (11, I sum), (12, I all), (13, I i), (78, Bo true)], [], []⟩) (by kernel_rfl) (ac (idx_nn hx_) (ac (idx_map enc_int hx_) (ac (hj4 : (decide (x < 0)) = false) (ac (idx_nn hx_) (ac (idx_map enc_int hx_) (ac (idx_nn hx1_) (ac (idx_map enc_int hx1_) (ac (hj4 : (decide (x < 0)) = false) (ac (hj5 : (decide (x > x1)) = true) (ac (hj5 : (decide (x > x1)) = true) an)))))))))) ?_
                    have e := Option.some.inj h
                    clear h
                    subst e
                    exact post_cmds [.keep [0, 1, 2, 3, 9, 10, 11, 12, 13, 78] [], .useU [], .keep [0, 1, 2, 3, 9, 10, 11, 12, 13, 78] [], .useU []] (by kernel_rfl) an post_in
                  · replace h := ifF hj5 h
                    replace h := bs h
                    obtain ⟨x2, hx2_, h⟩ := h
                    refine areg [{cs := enc_int x}, {b := false}, {cs := enc_int x}, {cs := enc_int x1}, {b := false}, {b := false}, {cs := enc_int x}, {cs := enc_int x2}, {b := false}] [.keep [0, 1, 2, 3, 9, 10, 11, 12, 13, 78] [], .useU []] (s' := ⟨[(0, I r4), (1, .c (.im (.sl 1 (r1.map enc_int)))), (2, .c (.im (.sl 1 (r2.map enc_int)))), (3, .c (.im (.sl 1 (r3.map enc_int)))), (9, I (imin (imin (imin (least.length : Int) (want.length : Int)) (most.length : Int)) 20)), (10, .c (.im (.sl 1 (r5.map enc_int)))), (11, I sum), (12, I all), (13, I i), (78, Bo (decide (x > x2)))], [], []⟩) (by kernel_rfl) (ac (idx_nn hx_) (ac (idx_map enc_int hx_) (ac (hj4 : (decide (x < 0)) = false) (ac (idx_nn hx_) (ac (idx_map enc_int hx_) (ac (idx_nn hx1_) (ac (idx_map enc_int hx1_) (ac (hj4 : (decide (x < 0)) = false) (ac (hj5 : (decide (x > x1)) = false) (ac (idx_nn hx_) (ac (idx_map enc_int hx_) (ac (idx_nn hx2_) (ac (idx_map enc_int hx2_) (ac (hj5 : (decide (x > x1)) = false) an)))))))))))))) ?_
                    have e := Option.some.inj h
                    clear h
                    subst e
                    exact post_cmds [.keep [0, 1, 2, 3, 9, 10, 11, 12, 13, 78] [], .useU [], .keep [0, 1, 2, 3, 9, 10, 11, 12, 13, 78] [], .useU []] (by kernel_rfl) an post_in
              · skip
                refine post_then ?_
                refine awp_cond (b := v) rfl (fun hb => ?_) (fun hb => ?_)
                · replace h := ifT hb h
                  refine awp_seq ?_
                  refine areg [] [.keep [8] [], .useU []] (s' := ⟨[(8, Bo false)], [], []⟩) (by kernel_rfl) an ?_
                  refine post_then ?_
                  refine awp_ret ?_
                  refine post_thenR ?_
                  refine post_blkR ?_
                  refine post_thenR ?_
                  refine post_thenR ?_
                  refine post_blkR ?_
                  cases h
                · replace h := ifF hb h
                  refine awp_skip ?_
                  refine post_then ?_
                  replace h := bs h
                  obtain ⟨x3, hx3_, h⟩ := h
                  replace h := bs h
                  obtain ⟨x4, hx4_, h⟩ := h
                  refine areg [{cs := enc_int x3}, {cs := enc_int x4}] [.keep [0, 1, 2, 3, 9, 10, 11, 12, 13] [], .useU []] (s' := ⟨[(0, I r4), (1, .c (.im (.sl 1 (r1.map enc_int)))), (2, .c (.im (.sl 1 (r2.map enc_int)))), (3, .c (.im (.sl 1 (r3.map enc_int)))), (9, I (imin (imin (imin (least.length : Int) (want.length : Int)) (most.length : Int)) 20)), (10, .c (.im (.sl 1 (r5.map enc_int)))), (11, I (w64 (sum + x3))), (12, I (w64 (all + x4))), (13, I i)], [], []⟩) (by kernel_rfl) (ac (idx_nn hx3_) (ac (idx_map enc_int hx3_) (ac (idx_nn hx4_) (ac (idx_map enc_int hx4_) an)))) ?_
                  refine post_blk ?_
                  refine post_then ?_
                  refine areg [] [.keep [0, 1, 2, 3, 9, 10, 11, 12, 13] [], .useU []] (s' := ⟨[(0, I r4), (1, .c (.im (.sl 1 (r1.map enc_int)))), (2, .c (.im (.sl 1 (r2.map enc_int)))), (3, .c (.im (.sl 1 (r3.map enc_int)))), (9, I (imin (imin (imin (least.length : Int) (want.length : Int)) (most.length : Int)) 20)), (10, .c (.im (.sl 1 (r5.map enc_int)))), (11, I (w64 (sum + x3))), (12, I (w64 (all + x4))), (13, I (w64 (i + 1)))], [], []⟩) (by kernel_rfl) an ?_
                  exact post_cmds [.keep [0, 1, 2, 3, 9, 10, 11, 12, 13] [], .useU [], .keep [0, 1, 2, 3, 9, 10, 11, 12, 13] [], .useU []] (by kernel_rfl) an (post_back (Nat.lt_succ_self _) ⟨_, _, _, h, rfl⟩)
            · replace h := ifF hb h
              refine awp_exit ?_
              refine post_thenE ?_
              refine post_thenE ?_
              refine post_blkE ?_
              have e := Lp.nx.inj (Option.some.inj h)
              clear h
              obtain ⟨e1, e2⟩ := Prod.mk.inj e
              subst e1 e2
              exact post_cmds [.keep [0, 1, 2, 3, 9, 10, 11, 12] [], .useU [], .keep [0, 1, 2, 3, 9, 10, 11, 12] [], .useU []] (by kernel_rfl) an post_in
        · skip
          refine post_then ?_
          refine awp_seq ?_
          refine awp_seq ?_
          refine areg [] [.keep [0, 1, 2, 3, 9, 10, 11, 12, 14] [], .useU []] (s' := ⟨[(0, I r4), (1, .c (.im (.sl 1 (r1.map enc_int)))), (2, .c (.im (.sl 1 (r2.map enc_int)))), (3, .c (.im (.sl 1 (r3.map enc_int)))), (9, I (imin (imin (imin (least.length : Int) (want.length : Int)) (most.length : Int)) 20)), (10, .c (.im (.sl 1 (r5.map enc_int)))), (11, I sum1), (12, I all1), (14, I 0)], [], []⟩) (by kernel_rfl) an ?_
          refine post_then ?_
          replace h := bs h
          obtain ⟨j12, hj7, h⟩ := h
          rcases j12 with _ | rhj7
          · refine awp_cutN (⟨[(0, I r4), (11, I sum1)], [], []⟩) ?_ ?_
            · replace h := hj7
              clear hj7
              refine awp_cmds [.keep [0, 1, 2, 3, 9, 10, 11, 12, 14] [], .useU [], .keep [0, 1, 2, 3, 9, 10, 11, 12, 14] [], .useU []] (by kernel_rfl) an (awp_block (awp_loop (fun k s => ∃ (i1 : Int), D.dispatchlaw16_IdealSums_l6 least want most r1 r2 r3 r4 r5 sum1 all1 k i1 = some (Lp.nx ()) ∧ s = ⟨[(0, I r4), (1, .c (.im (.sl 1 (r1.map enc_int)))), (2, .c (.im (.sl 1 (r2.map enc_int)))), (3, .c (.im (.sl 1 (r3.map enc_int)))), (9, I (imin (imin (imin (least.length : Int) (want.length : Int)) (most.length : Int)) 20)), (10, .c (.im (.sl 1 (r5.map enc_int)))), (11, I sum1), (12, I all1), (14, I i1)], [], []⟩) ⟨_, h, rfl⟩ ?_))
              clear h
              rintro (_ | k) s ⟨i1, h, rfl⟩
              · cases h
              · unfold D.dispatchlaw16_IdealSums_l6 at h
                refine awp_seq ?_
                refine awp_seq ?_
                refine areg [] [.keep [0, 1, 2, 3, 9, 10, 11, 12, 14, 93] [], .useU []] (s' := ⟨[(0, I r4), (1, .c (.im (.sl 1 (r1.map enc_int)))), (2, .c (.im (.sl 1 (r2.map enc_int)))), (3, .c (.im (.sl 1 (r3.map enc_int)))), (9, I (imin (imin (imin (least.length : Int) (want.length : Int)) (most.length : Int)) 20)), (10, .c (.im (.sl 1 (r5.map enc_int)))), (11, I sum1), (12, I all1), (14, I i1), (93, Bo (decide (i1 < (imin (imin (imin (least.length : Int) (want.length : Int)) (most.length : Int)) 20))))], [], []⟩) (by kernel_rfl) an ?_
                refine post_then ?_
                refine awp_cond (b := (decide (i1 < (imin (imin (imin (least.length : Int) (want.length : Int)) (most.length : Int)) 20)))) rfl (fun hb => ?_) (fun hb => ?_)
                · replace h := ifT hb h
                  refine awp_skip ?_
                  refine post_then ?_
                  refine awp_seq ?_
                  refine awp_block ?_
                  refine awp_seq ?_
                  replace h := bs h
                  obtain ⟨v1, hj8, h⟩ := h
                  refine awp_cutN (⟨[(0, I r4), (1, .c (.im (.sl 1 (r1.map enc_int)))), (2, .c (.im (.sl 1 (r2.map enc_int)))), (3, .c (.im (.sl 1 (r3.map enc_int)))), (9, I (imin (imin (imin (least.length : Int) (want.length : Int)) (most.length : Int)) 20)), (10, .c (.im (.sl 1 (r5.map enc_int)))), (11, I sum1), (12, I all1), (14, I i1), (139, Bo v1)], [], []⟩) ?_ ?_
                  · replace h := hj8
                    clear hj8
                    replace h := bs h
                    obtain ⟨x5, hx5_, h⟩ := h
                    replace h := bs h
                    obtain ⟨x6, hx6_, h⟩ := h
                    replace h := bs h
                    obtain ⟨x7, hx7_, h⟩ := h
                    rcases boolc (decide (x5 < (imin x6 x7))) with hj9 | hj9
                    · replace h := ifT hj9 h
                      rcases boolc (sum1 != r4) with hj10 | hj10
                      · replace h := ifT hj10 h
                        refine areg [{cs := enc_int x5}, {cs := enc_int x6}, {cs := enc_int x7}, {b := true}, {b := true}, {b := true}, {b := true}] [.keep [0, 1, 2, 3, 9, 10, 11, 12, 14, 139] [], .useU []] (s' := ⟨[(0, I r4), (1, .c (.im (.sl 1 (r1.map enc_int)))), (2, .c (.im (.sl 1 (r2.map enc_int)))), (3, .c (.im (.sl 1 (r3.map enc_int)))), (9, I (imin (imin (imin (least.length : Int) (want.length : Int)) (most.length : Int)) 20)), (10, .c (.im (.sl 1 (r5.map enc_int)))), (11, I sum1), (12, I all1), (14, I i1), (139, Bo true)], [], []⟩) (by kernel_rfl) (ac (idx_nn hx5_) (ac (idx_map enc_int hx5_) (ac (idx_nn hx6_) (ac (idx_map enc_int hx6_) (ac (idx_nn hx7_) (ac (idx_map enc_int hx7_) (ac (hj9 : (decide (x5 < (imin x6 x7))) = true) (ac (hj9 : (decide (x5 < (imin x6 x7))) = true) (ac (hj10 : (sum1 != r4) = true) (ac (hj10 : (sum1 != r4) = true) an)))))))))) ?_
                        have e := Option.some.inj h
                        clear h
                        subst e
                        exact post_cmds [.keep [0, 1, 2, 3, 9, 10, 11, 12, 14, 139] [], .useU [], .keep [0, 1, 2, 3, 9, 10, 11, 12, 14, 139] [], .useU []] (by kernel_rfl) an post_in
                      · replace h := ifF hj10 h
                        rcases boolc (decide (all1 ≤ r4)) with hj11 | hj11
                        · replace h := ifT hj11 h
                          replace h := bs h
                          obtain ⟨x8, hx8_, h⟩ := h
                          refine areg [{cs := enc_int x5}, {cs := enc_int x6}, {cs := enc_int x7}, {b := true}, {b := true}, {b := false}, {b := true}, {cs := enc_int x5}, {cs := enc_int x8}, {cs := enc_int x6}, {cs := enc_int x7}, {b := true}, {b := false}] [.keep [0, 1, 2, 3, 9, 10, 11, 12, 14, 139] [], .useU []] (s' := ⟨[(0, I r4), (1, .c (.im (.sl 1 (r1.map enc_int)))), (2, .c (.im (.sl 1 (r2.map enc_int)))), (3, .c (.im (.sl 1 (r3.map enc_int)))), (9, I (imin (imin (imin (least.length : Int) (want.length : Int)) (most.length : Int)) 20)), (10, .c (.im (.sl 1 (r5.map enc_int)))), (11, I sum1), (12, I all1), (14, I i1), (139, Bo (decide (x5 < (imin (imin x8 x6) x7))))], [], []⟩) (by kernel_rfl) (ac (idx_nn hx5_) (ac (idx_map enc_int hx5_) (ac (idx_nn hx6_) (ac (idx_map enc_int hx6_) (ac (idx_nn hx7_) (ac (idx_map enc_int hx7_) (ac (hj9 : (decide (x5 < (imin x6 x7))) = true) (ac (hj9 : (decide (x5 < (imin x6 x7))) = true) (ac (hj10 : (sum1 != r4) = false) (ac (hj11 : (decide (all1 ≤ r4)) = true) (ac (idx_nn hx5_) (ac (idx_map enc_int hx5_) (ac (idx_nn hx8_) (ac (idx_map enc_int hx8_) (ac (idx_nn hx6_) (ac (idx_map enc_int hx6_) (ac (idx_nn hx7_) (ac (idx_map enc_int hx7_) (ac (hj11 : (decide (all1 ≤ r4)) = true) (ac (hj10 : (sum1 != r4) = false) an)))))))))))))))))))) ?_
                          have e := Option.some.inj h
                          clear h
                          subst e
                          exact post_cmds [.keep [0, 1, 2, 3, 9, 10, 11, 12, 14, 139] [], .useU [], .keep [0, 1, 2, 3, 9, 10, 11, 12, 14, 139] [], .useU []] (by kernel_rfl) an post_in
                        · replace h := ifF hj11 h
                          refine areg [{cs := enc_int x5}, {cs := enc_int x6}, {cs := enc_int x7}, {b := true}, {b := true}, {b := false}, {b := false}, {b := false}, {b := false}] [.keep [0, 1, 2, 3, 9, 10, 11, 12, 14, 139] [], .useU []] (s' := ⟨[(0, I r4), (1, .c (.im (.sl 1 (r1.map enc_int)))), (2, .c (.im (.sl 1 (r2.map enc_int)))), (3, .c (.im (.sl 1 (r3.map enc_int)))), (9, I (imin (imin (imin (least.length : Int) (want.length : Int)) (most.length : Int)) 20)), (10, .c (.im (.sl 1 (r5.map enc_int)))), (11, I sum1), (12, I all1), (14, I i1), (139, Bo false)], [], []⟩) (by kernel_rfl) (ac (idx_nn hx5_) (ac (idx_map enc_int hx5_) (ac (idx_nn hx6_) (ac (idx_map enc_int hx6_) (ac (idx_nn hx7_) (ac (idx_map enc_int hx7_) (ac (hj9 : (decide (x5 < (imin x6 x7))) = true) (ac (hj9 : (decide (x5 < (imin x6 x7))) = true) (ac (hj10 : (sum1 != r4) = false) (ac (hj11 : (decide (all1 ≤ r4)) = false) (ac (hj11 : (decide (all1 ≤ r4)) = false) (ac (hj10 : (sum1 != r4) = false) an)))))))))))) ?_
                          have e := Option.some.inj h
                          clear h
                          subst e
                          exact post_cmds [.keep [0, 1, 2, 3, 9, 10, 11, 12, 14, 139] [], .useU [], .keep [0, 1, 2, 3, 9, 10, 11, 12, 14, 139] [], .useU []] (by kernel_rfl) an post_in
                    · replace h := ifF hj9 h
                      rcases boolc (decide (all1 ≤ r4)) with hj12 | hj12
                      · replace h := ifT hj12 h
                        replace h := bs h
                        obtain ⟨x9, hx9_, h⟩ := h
                        refine areg [{cs := enc_int x5}, {cs := enc_int x6}, {cs := enc_int x7}, {b := false}, {b := false}, {b := false}, {b := true}, {cs := enc_int x5}, {cs := enc_int x9}, {cs := enc_int x6}, {cs := enc_int x7}, {b := true}, {b := false}] [.keep [0, 1, 2, 3, 9, 10, 11, 12, 14, 139] [], .useU []] (s' := ⟨[(0, I r4), (1, .c (.im (.sl 1 (r1.map enc_int)))), (2, .c (.im (.sl 1 (r2.map enc_int)))), (3, .c (.im (.sl 1 (r3.map enc_int)))), (9, I (imin (imin (imin (least.length : Int) (want.length : Int)) (most.length : Int)) 20)), (10, .c (.im (.sl 1 (r5.map enc_int)))), (11, I sum1), (12, I all1), (14, I i1), (139, Bo (decide (x5 < (imin (imin x9 x6) x7))))], [], []⟩) (by kernel_rfl) (ac (idx_nn hx5_) (ac (idx_map enc_int hx5_) (ac (idx_nn hx6_) (ac (idx_map enc_int hx6_) (ac (idx_nn hx7_) (ac (idx_map enc_int hx7_) (ac (hj9 : (decide (x5 < (imin x6 x7))) = false) (ac (hj9 : (decide (x5 < (imin x6 x7))) = false) (ac (rfl : false = false) (ac (hj12 : (decide (all1 ≤ r4)) = true) (ac (idx_nn hx5_) (ac (idx_map enc_int hx5_) (ac (idx_nn hx9_) (ac (idx_map enc_int hx9_) (ac (idx_nn hx6_) (ac (idx_map enc_int hx6_) (ac (idx_nn hx7_) (ac (idx_map enc_int hx7_) (ac (hj12 : (decide (all1 ≤ r4)) = true) (ac (rfl : false = false) an)))))))))))))))))))) ?_
                        have e := Option.some.inj h
                        clear h
                        subst e
                        exact post_cmds [.keep [0, 1, 2, 3, 9, 10, 11, 12, 14, 139] [], .useU [], .keep [0, 1, 2, 3, 9, 10, 11, 12, 14, 139] [], .useU []] (by kernel_rfl) an post_in
                      · replace h := ifF hj12 h
                        refine areg [{cs := enc_int x5}, {cs := enc_int x6}, {cs := enc_int x7}, {b := false}, {b := false}, {b := false}, {b := false}, {b := false}, {b := false}] [.keep [0, 1, 2, 3, 9, 10, 11, 12, 14, 139] [], .useU []] (s' := ⟨[(0, I r4), (1, .c (.im (.sl 1 (r1.map enc_int)))), (2, .c (.im (.sl 1 (r2.map enc_int)))), (3, .c (.im (.sl 1 (r3.map enc_int)))), (9, I (imin (imin (imin (least.length : Int) (want.length : Int)) (most.length : Int)) 20)), (10, .c (.im (.sl 1 (r5.map enc_int)))), (11, I sum1), (12, I all1), (14, I i1), (139, Bo false)], [], []⟩) (by kernel_rfl) (ac (idx_nn hx5_) (ac (idx_map enc_int hx5_) (ac (idx_nn hx6_) (ac (idx_map enc_int hx6_) (ac (idx_nn hx7_) (ac (idx_map enc_int hx7_) (ac (hj9 : (decide (x5 < (imin x6 x7))) = false) (ac (hj9 : (decide (x5 < (imin x6 x7))) = false) (ac (rfl : false = false) (ac (hj12 : (decide (all1 ≤ r4)) = false) (ac (hj12 : (decide (all1 ≤ r4)) = false) (ac (rfl : false = false) an)))))))))))) ?_
                        have e := Option.some.inj h
                        clear h
                        subst e
                        exact post_cmds [.keep [0, 1, 2, 3, 9, 10, 11, 12, 14, 139] [], .useU [], .keep [0, 1, 2, 3, 9, 10, 11, 12, 14, 139] [], .useU []] (by kernel_rfl) an post_in
                  · skip
                    refine post_then ?_
                    refine awp_cond (b := v1) rfl (fun hb => ?_) (fun hb => ?_)
                    · replace h := ifT hb h
                      refine awp_seq ?_
                      refine areg [] [.keep [8] [], .useU []] (s' := ⟨[(8, Bo false)], [], []⟩) (by kernel_rfl) an ?_
                      refine post_then ?_
                      refine awp_ret ?_
                      refine post_blkR ?_
                      refine post_thenR ?_
                      refine post_thenR ?_
                      refine post_blkR ?_
                      cases h
                    · replace h := ifF hb h
                      refine awp_skip ?_
                      refine post_blk ?_
                      refine post_then ?_
                      refine areg [] [.keep [0, 1, 2, 3, 9, 10, 11, 12, 14] [], .useU []] (s' := ⟨[(0, I r4), (1, .c (.im (.sl 1 (r1.map enc_int)))), (2, .c (.im (.sl 1 (r2.map enc_int)))), (3, .c (.im (.sl 1 (r3.map enc_int)))), (9, I (imin (imin (imin (least.length : Int) (want.length : Int)) (most.length : Int)) 20)), (10, .c (.im (.sl 1 (r5.map enc_int)))), (11, I sum1), (12, I all1), (14, I (w64 (i1 + 1)))], [], []⟩) (by kernel_rfl) an ?_
                      exact post_cmds [.keep [0, 1, 2, 3, 9, 10, 11, 12, 14] [], .useU [], .keep [0, 1, 2, 3, 9, 10, 11, 12, 14] [], .useU []] (by kernel_rfl) an (post_back (Nat.lt_succ_self _) ⟨_, h, rfl⟩)
                · replace h := ifF hb h
                  refine awp_exit ?_
                  refine post_thenE ?_
                  refine post_thenE ?_
                  refine post_blkE ?_
                  clear h
                  exact post_cmds [.keep [0, 11] [], .useU [], .keep [0, 11] [], .useU []] (by kernel_rfl) an post_in
            · skip
              refine post_then ?_
              refine awp_seq ?_
              refine areg [] [.keep [8] [], .useU []] (s' := ⟨[(8, Bo (decide (sum1 ≤ r4)))], [], []⟩) (by kernel_rfl) an ?_
              refine post_then ?_
              refine awp_ret ?_
              have e := Option.some.inj h
              clear h
              subst e
              exact post_ret tok hF rfl (by kernel_rfl) (by kernel_rfl)
          · skip
            have e := Option.some.inj h
            clear h
            subst e
            replace h := hj7
            clear hj7
            refine awp_cmds [.keep [0, 1, 2, 3, 9, 10, 11, 12, 14] [], .useU [], .keep [0, 1, 2, 3, 9, 10, 11, 12, 14] [], .useU []] (by kernel_rfl) an (awp_block (awp_loop (fun k s => ∃ (i1 : Int), D.dispatchlaw16_IdealSums_l6 least want most r1 r2 r3 r4 r5 sum1 all1 k i1 = some (Lp.xt rhj7) ∧ s = ⟨[(0, I r4), (1, .c (.im (.sl 1 (r1.map enc_int)))), (2, .c (.im (.sl 1 (r2.map enc_int)))), (3, .c (.im (.sl 1 (r3.map enc_int)))), (9, I (imin (imin (imin (least.length : Int) (want.length : Int)) (most.length : Int)) 20)), (10, .c (.im (.sl 1 (r5.map enc_int)))), (11, I sum1), (12, I all1), (14, I i1)], [], []⟩) ⟨_, h, rfl⟩ ?_))
            clear h
            rintro (_ | k) s ⟨i1, h, rfl⟩
            · cases h
            · unfold D.dispatchlaw16_IdealSums_l6 at h
              refine awp_seq ?_
              refine awp_seq ?_
              refine areg [] [.keep [0, 1, 2, 3, 9, 10, 11, 12, 14, 93] [], .useU []] (s' := ⟨[(0, I r4), (1, .c (.im (.sl 1 (r1.map enc_int)))), (2, .c (.im (.sl 1 (r2.map enc_int)))), (3, .c (.im (.sl 1 (r3.map enc_int)))), (9, I (imin (imin (imin (least.length : Int) (want.length : Int)) (most.length : Int)) 20)), (10, .c (.im (.sl 1 (r5.map enc_int)))), (11, I sum1), (12, I all1), (14, I i1), (93, Bo (decide (i1 < (imin (imin (imin (least.length : Int) (want.length : Int)) (most.length : Int)) 20))))], [], []⟩) (by kernel_rfl) an ?_
              refine post_then ?_
              refine awp_cond (b := (decide (i1 < (imin (imin (imin (least.length : Int) (want.length : Int)) (most.length : Int)) 20)))) rfl (fun hb => ?_) (fun hb => ?_)
              · replace h := ifT hb h
                refine awp_skip ?_
                refine post_then ?_
                refine awp_seq ?_
                refine awp_block ?_
                refine awp_seq ?_
                replace h := bs h
                obtain ⟨v1, hj8, h⟩ := h
                refine awp_cutN (⟨[(0, I r4), (1, .c (.im (.sl 1 (r1.map enc_int)))), (2, .c (.im (.sl 1 (r2.map enc_int)))), (3, .c (.im (.sl 1 (r3.map enc_int)))), (9, I (imin (imin (imin (least.length : Int) (want.length : Int)) (most.length : Int)) 20)), (10, .c (.im (.sl 1 (r5.map enc_int)))), (11, I sum1), (12, I all1), (14, I i1), (139, Bo v1)], [], []⟩) ?_ ?_
                · replace h := hj8
                  clear hj8
                  replace h := bs h
                  obtain ⟨x5, hx5_, h⟩ := h
                  replace h := bs h
                  obtain ⟨x6, hx6_, h⟩ := h
                  replace h := bs h
                  obtain ⟨x7, hx7_, h⟩ := h
                  rcases boolc (decide (x5 < (imin x6 x7))) with hj9 | hj9
                  · replace h := ifT hj9 h
                    rcases boolc (sum1 != r4) with hj10 | hj10
                    · replace h := ifT hj10 h
                      refine areg [{cs := enc_int x5}, {cs := enc_int x6}, {cs := enc_int x7}, {b := true}, {b := true}, {b := true}, {b := true}] [.keep [0, 1, 2, 3, 9, 10, 11, 12, 14, 139] [], .useU []] (s' := ⟨[(0, I r4), (1, .c (.im (.sl 1 (r1.map enc_int)))), (2, .c (.im (.sl 1 (r2.map enc_int)))), (3, .c (.im (.sl 1 (r3.map enc_int)))), (9, I (imin (imin (imin (least.length : Int) (want.length : Int)) (most.length : Int)) 20)), (10, .c (.im (.sl 1 (r5.map enc_int)))), (11, I sum1), (12, I all1), (14, I i1), (139, Bo true)], [], []⟩) (by kernel_rfl) (ac (idx_nn hx5_) (ac (idx_map enc_int hx5_) (ac (idx_nn hx6_) (ac (idx_map enc_int hx6_) (ac (idx_nn hx7_) (ac (idx_map enc_int hx7_) (ac (hj9 : (decide (x5 < (imin x6 x7))) = true) (ac (hj9 : (decide (x5 < (imin x6 x7))) = true) (ac (hj10 : (sum1 != r4) = true) (ac (hj10 : (sum1 != r4) = true) an)))))))))) ?_
                      have e := Option.some.inj h
                      clear h
                      subst e
                      exact post_cmds [.keep [0, 1, 2, 3, 9, 10, 11, 12, 14, 139] [], .useU [], .keep [0, 1, 2, 3, 9, 10, 11, 12, 14, 139] [], .useU []] (by kernel_rfl) an post_in
                    · replace h := ifF hj10 h
                      rcases boolc (decide (all1 ≤ r4)) with hj11 | hj11
                      · replace h := ifT hj11 h
                        replace h := bs h
                        obtain ⟨x8, hx8_, h⟩ := h
                        refine areg [{cs := enc_int x5}, {cs := enc_int x6}, {cs := enc_int x7}, {b := true}, {b := true}, {b := false}, {b := true}, {cs := enc_int x5}, {cs := enc_int x8}, {cs := enc_int x6}, {cs := enc_int x7}, {b := true}, {b := false}] [.keep [0, 1, 2, 3, 9, 10, 11, 12, 14, 139] [], .useU []] (s' := ⟨[(0, I r4), (1, .c (.im (.sl 1 (r1.map enc_int)))), (2, .c (.im (.sl 1 (r2.map enc_int)))), (3, .c (.im (.sl 1 (r3.map enc_int)))), (9, I (imin (imin (imin (least.length : Int) (want.length : Int)) (most.length : Int)) 20)), (10, .c (.im (.sl 1 (r5.map enc_int)))), (11, I sum1), (12, I all1), (14, I i1), (139, Bo (decide (x5 < (imin (imin x8 x6) x7))))], [], []⟩) (by kernel_rfl) (ac (idx_nn hx5_) (ac (idx_map enc_int hx5_) (ac (idx_nn hx6_) (ac (idx_map enc_int hx6_) (ac (idx_nn hx7_) (ac (idx_map enc_int hx7_) (ac (hj9 : (decide (x5 < (imin x6 x7))) = true) (ac (hj9 : (decide (x5 < (imin x6 x7))) = true) (ac (hj10 : (sum1 != r4) = false) (ac (hj11 : (decide (all1 ≤ r4)) = true) (ac (idx_nn hx5_) (ac (idx_map enc_int hx5_) (ac (idx_nn hx8_) (ac (idx_map enc_int hx8_) (ac (idx_nn hx6_) (ac (idx_map enc_int hx6_) (ac (idx_nn hx7_) (ac (idx_map enc_int hx7_) (ac (hj11 : (decide (all1 ≤ r4)) = true) (ac (hj10 : (sum1 != r4) = false) an)))))))))))))))))))) ?_
                        have e := Option.some.inj h
                        clear h
                        subst e
                        exact post_cmds [.keep [0, 1, 2, 3, 9, 10, 11, 12, 14, 139] [], .useU [], .keep [0, 1, 2, 3, 9, 10, 11, 12, 14, 139] [], .useU []] (by kernel_rfl) an post_in
                      · replace h := ifF hj11 h
                        refine areg [{cs := enc_int x5}, {cs := enc_int x6}, {cs := enc_int x7}, {b := true}, {b := true}, {b := false}, {b := false}, {b := false}, {b := false}] [.keep [0, 1, 2, 3, 9, 10, 11, 12, 14, 139] [], .useU []] (s' := ⟨[(0, I r4), (1, .c (.im (.sl 1 (r1.map enc_int)))), (2, .c (.im (.sl 1 (r2.map enc_int)))), (3, .c (.im (.sl 1 (r3.map enc_int)))), (9, I (imin (imin (imin (least.length : Int) (want.length : Int)) (most.length : Int)) 20)), (10, .c (.im (.sl 1 (r5.map enc_int)))), (11, I sum1), (12, I all1), (14, I i1), (139, Bo false)], [], []⟩) (by kernel_rfl) (ac (idx_nn hx5_) (ac (idx_map enc_int hx5_) (ac (idx_nn hx6_) (ac (idx_map enc_int hx6_) (ac (idx_nn hx7_) (ac (idx_map enc_int hx7_) (ac (hj9 : (decide (x5 < (imin x6 x7))) = true) (ac (hj9 : (decide (x5 < (imin x6 x7))) = true) (ac (hj10 : (sum1 != r4) = false) (ac (hj11 : (decide (all1 ≤ r4)) = false) (ac (hj11 : (decide (all1 ≤ r4)) = false) (ac (hj10 : (sum1 != r4) = false) an)))))))))))) ?_
                        have e := Option.some.inj h
                        clear h
                        subst e
                        exact post_cmds [.keep [0, 1, 2, 3, 9, 10, 11, 12, 14, 139] [], .useU [], .keep [0, 1, 2, 3, 9, 10, 11, 12, 14, 139] [], .useU []] (by kernel_rfl) an post_in
                  · replace h := ifF hj9 h
                    rcases boolc (decide (all1 ≤ r4)) with hj12 | hj12
                    · replace h := ifT hj12 h
                      replace h := bs h
                      obtain ⟨x9, hx9_, h⟩ := h
                      refine areg [{cs := enc_int x5}, {cs := enc_int x6}, {cs := enc_int x7}, {b := false}, {b := false}, {b := false}, {b := true}, {cs := enc_int x5}, {cs := enc_int x9}, {cs := enc_int x6}, {cs := enc_int x7}, {b := true}, {b := false}] [.keep [0, 1, 2, 3, 9, 10, 11, 12, 14, 139] [], .useU []] (s' := ⟨[(0, I r4), (1, .c (.im (.sl 1 (r1.map enc_int)))), (2, .c (.im (.sl 1 (r2.map enc_int)))), (3, .c (.im (.sl 1 (r3.map enc_int)))), (9, I (imin (imin (imin (least.length : Int) (want.length : Int)) (most.length : Int)) 20)), (10, .c (.im (.sl 1 (r5.map enc_int)))), (11, I sum1), (12, I all1), (14, I i1), (139, Bo (decide (x5 < (imin (imin x9 x6) x7))))], [], []⟩) (by kernel_rfl) (ac (idx_nn hx5_) (ac (idx_map enc_int hx5_) (ac (idx_nn hx6_) (ac (idx_map enc_int hx6_) (ac (idx_nn hx7_) (ac (idx_map enc_int hx7_) (ac (hj9 : (decide (x5 < (imin x6 x7))) = false) (ac (hj9 : (decide (x5 < (imin x6 x7))) = false) (ac (rfl : false = false) (ac (hj12 : (decide (all1 ≤ r4)) = true) (ac (idx_nn hx5_) (ac (idx_map enc_int hx5_) (ac (idx_nn hx9_) (ac (idx_map enc_int hx9_) (ac (idx_nn hx6_) (ac (idx_map enc_int hx6_) (ac (idx_nn hx7_) (ac (idx_map enc_int hx7_) (ac (hj12 : (decide (all1 ≤ r4)) = true) (ac (rfl : false = false) an)))))))))))))))))))) ?_
                      have e := Option.some.inj h
                      clear h
                      subst e
                      exact post_cmds [.keep [0, 1, 2, 3, 9, 10, 11, 12, 14, 139] [], .useU [], .keep [0, 1, 2, 3, 9, 10, 11, 12, 14, 139] [], .useU []] (by kernel_rfl) an post_in
                    · replace h := ifF hj12 h
                      refine areg [{cs := enc_int x5}, {cs := enc_int x6}, {cs := enc_int x7}, {b := false}, {b := false}, {b := false}, {b := false}, {b := false}, {b := false}] [.keep [0, 1, 2, 3, 9, 10, 11, 12, 14, 139] [], .useU []] (s' := ⟨[(0, I r4), (1, .c (.im (.sl 1 (r1.map enc_int)))), (2, .c (.im (.sl 1 (r2.map enc_int)))), (3, .c (.im (.sl 1 (r3.map enc_int)))), (9, I (imin (imin (imin (least.length : Int) (want.length : Int)) (most.length : Int)) 20)), (10, .c (.im (.sl 1 (r5.map enc_int)))), (11, I sum1), (12, I all1), (14, I i1), (139, Bo false)], [], []⟩) (by kernel_rfl) (ac (idx_nn hx5_) (ac (idx_map enc_int hx5_) (ac (idx_nn hx6_) (ac (idx_map enc_int hx6_) (ac (idx_nn hx7_) (ac (idx_map enc_int hx7_) (ac (hj9 : (decide (x5 < (imin x6 x7))) = false) (ac (hj9 : (decide (x5 < (imin x6 x7))) = false) (ac (rfl : false = false) (ac (hj12 : (decide (all1 ≤ r4)) = false) (ac (hj12 : (decide (all1 ≤ r4)) = false) (ac (rfl : false = false) an)))))))))))) ?_
                      have e := Option.some.inj h
                      clear h
                      subst e
                      exact post_cmds [.keep [0, 1, 2, 3, 9, 10, 11, 12, 14, 139] [], .useU [], .keep [0, 1, 2, 3, 9, 10, 11, 12, 14, 139] [], .useU []] (by kernel_rfl) an post_in
                · skip
                  refine post_then ?_
                  refine awp_cond (b := v1) rfl (fun hb => ?_) (fun hb => ?_)
                  · replace h := ifT hb h
                    refine awp_seq ?_
                    refine areg [] [.keep [8] [], .useU []] (s' := ⟨[(8, Bo false)], [], []⟩) (by kernel_rfl) an ?_
                    refine post_then ?_
                    refine awp_ret ?_
                    refine post_blkR ?_
                    refine post_thenR ?_
                    refine post_thenR ?_
                    refine post_blkR ?_
                    refine post_thenR ?_
                    have e := Lp.xt.inj (Option.some.inj h)
                    clear h
                    subst e
                    exact post_ret tok hF rfl (by kernel_rfl) (by kernel_rfl)
                  · replace h := ifF hb h
                    refine awp_skip ?_
                    refine post_blk ?_
                    refine post_then ?_
                    refine areg [] [.keep [0, 1, 2, 3, 9, 10, 11, 12, 14] [], .useU []] (s' := ⟨[(0, I r4), (1, .c (.im (.sl 1 (r1.map enc_int)))), (2, .c (.im (.sl 1 (r2.map enc_int)))), (3, .c (.im (.sl 1 (r3.map enc_int)))), (9, I (imin (imin (imin (least.length : Int) (want.length : Int)) (most.length : Int)) 20)), (10, .c (.im (.sl 1 (r5.map enc_int)))), (11, I sum1), (12, I all1), (14, I (w64 (i1 + 1)))], [], []⟩) (by kernel_rfl) an ?_
                    exact post_cmds [.keep [0, 1, 2, 3, 9, 10, 11, 12, 14] [], .useU [], .keep [0, 1, 2, 3, 9, 10, 11, 12, 14] [], .useU []] (by kernel_rfl) an (post_back (Nat.lt_succ_self _) ⟨_, h, rfl⟩)
              · replace h := ifF hb h
                refine awp_exit ?_
                refine post_thenE ?_
                refine post_thenE ?_
                refine post_blkE ?_
                cases h
      · skip
        have e := Option.some.inj h
        clear h
        subst e
        replace h := hj2
        clear hj2
        refine awp_cmds [.keep [0, 1, 2, 3, 9, 10, 11, 12, 13] [], .useU [], .keep [0, 1, 2, 3, 9, 10, 11, 12, 13] [], .useU []] (by kernel_rfl) an (awp_block (awp_loop (fun k s => ∃ (sum : Int) (all : Int) (i : Int), D.dispatchlaw16_IdealSums_l1 least want most r1 r2 r3 r5 k sum all i = some (Lp.xt rhj2) ∧ s = ⟨[(0, I r4), (1, .c (.im (.sl 1 (r1.map enc_int)))), (2, .c (.im (.sl 1 (r2.map enc_int)))), (3, .c (.im (.sl 1 (r3.map enc_int)))), (9, I (imin (imin (imin (least.length : Int) (want.length : Int)) (most.length : Int)) 20)), (10, .c (.im (.sl 1 (r5.map enc_int)))), (11, I sum), (12, I all), (13, I i)], [], []⟩) ⟨_, _, _, h, rfl⟩ ?_))
        clear h
        rintro (_ | k) s ⟨sum, all, i, h, rfl⟩
        · cases h
        · unfold D.dispatchlaw16_IdealSums_l1 at h
          refine awp_seq ?_
          refine awp_seq ?_
          refine areg [] [.keep [0, 1, 2, 3, 9, 10, 11, 12, 13, 49] [], .useU []] (s' := ⟨[(0, I r4), (1, .c (.im (.sl 1 (r1.map enc_int)))), (2, .c (.im (.sl 1 (r2.map enc_int)))), (3, .c (.im (.sl 1 (r3.map enc_int)))), (9, I (imin (imin (imin (least.length : Int) (want.length : Int)) (most.length : Int)) 20)), (10, .c (.im (.sl 1 (r5.map enc_int)))), (11, I sum), (12, I all), (13, I i), (49, Bo (decide (i < (imin (imin (imin (least.length : Int) (want.length : Int)) (most.length : Int)) 20))))], [], []⟩) (by kernel_rfl) an ?_
          refine post_then ?_
          refine awp_cond (b := (decide (i < (imin (imin (imin (least.length : Int) (want.length : Int)) (most.length : Int)) 20)))) rfl (fun hb => ?_) (fun hb => ?_)
          · replace h := ifT hb h
            refine awp_skip ?_
            refine post_then ?_
            refine awp_seq ?_
            refine awp_block ?_
            refine awp_seq ?_
            refine awp_seq ?_
            replace h := bs h
            obtain ⟨v, hj3, h⟩ := h
            refine awp_cutN (⟨[(0, I r4), (1, .c (.im (.sl 1 (r1.map enc_int)))), (2, .c (.im (.sl 1 (r2.map enc_int)))), (3, .c (.im (.sl 1 (r3.map enc_int)))), (9, I (imin (imin (imin (least.length : Int) (want.length : Int)) (most.length : Int)) 20)), (10, .c (.im (.sl 1 (r5.map enc_int)))), (11, I sum), (12, I all), (13, I i), (78, Bo v)], [], []⟩) ?_ ?_
            · replace h := hj3
              clear hj3
              replace h := bs h
              obtain ⟨x, hx_, h⟩ := h
              rcases boolc (decide (x < 0)) with hj4 | hj4
              · replace h := ifT hj4 h
                refine areg [{cs := enc_int x}, {b := true}, {b := true}, {b := true}, {b := true}] [.keep [0, 1, 2, 3, 9, 10, 11, 12, 13, 78] [], .useU []] (s' := ⟨[(0, I r4), (1, .c (.im (.sl 1 (r1.map enc_int)))), (2, .c (.im (.sl 1 (r2.map enc_int)))), (3, .c (.im (.sl 1 (r3.map enc_int)))), (9, I (imin (imin (imin (least.length : Int) (want.length : Int)) (most.length : Int)) 20)), (10, .c (.im (.sl 1 (r5.map enc_int)))), (11, I sum), (12, I all), (13, I i), (78, Bo true)], [], []⟩) (by kernel_rfl) (ac (idx_nn hx_) (ac (idx_map enc_int hx_) (ac (hj4 : (decide (x < 0)) = true) (ac (hj4 : (decide (x < 0)) = true) (ac (rfl : true = true) (ac (rfl : true = true) an)))))) ?_
                have e := Option.some.inj h
                clear h
                subst e
                exact post_cmds [.keep [0, 1, 2, 3, 9, 10, 11, 12, 13, 78] [], .useU [], .keep [0, 1, 2, 3, 9, 10, 11, 12, 13, 78] [], .useU []] (by kernel_rfl) an post_in
              · replace h := ifF hj4 h
                replace h := bs h
                obtain ⟨x1, hx1_, h⟩ := h
                rcases boolc (decide (x > x1)) with hj5 | hj5
                · replace h := ifT hj5 h
                  refine areg [{cs := enc_int x}, {b := false}, {cs := enc_int x}, {cs := enc_int x1}, {b := false}, {b := true}, {b := true}] [.keep [0, 1, 2, 3, 9, 10, 11, 12, 13, 78] [], .useU []] (s' := ⟨[(0, I r4), (1, .c (.im (.sl 1 (r1.map enc_int)))), (2, .c (.im (.sl 1 (r2.map enc_int)))), (3, .c (.im (.sl 1 (r3.map enc_int)))), (9, I (imin (imin (imin (least.length : Int) (want.length : Int)) (most.length : Int)) 20)), (10, .c (.im (.sl 1 (r5.map enc_int)))), (11, I sum), (12, I all), (13, I i), (78, Bo true)], [], []⟩) (by kernel_rfl) (ac (idx_nn hx_) (ac (idx_map enc_int hx_) (ac (hj4 : (decide (x < 0)) = false) (ac (idx_nn hx_) (ac (idx_map enc_int hx_) (ac (idx_nn hx1_) (ac (idx_map enc_int hx1_) (ac (hj4 : (decide (x < 0)) = false) (ac (hj5 : (decide (x > x1)) = true) (ac (hj5 : (decide (x > x1)) = true) an)))))))))) ?_
                  have e := Option.some.inj h
                  clear h
                  subst e
                  exact post_cmds [.keep [0, 1, 2, 3, 9, 10, 11, 12, 13, 78] [], .useU [], .keep [0, 1, 2, 3, 9, 10, 11, 12, 13, 78] [], .useU []] (by kernel_rfl) an post_in
                · replace h := ifF hj5 h
                  replace h := bs h
                  obtain ⟨x2, hx2_, h⟩ := h
                  refine areg [{cs := enc_int x}, {b := false}, {cs := enc_int x}, {cs := enc_int x1}, {b := false}, {b := false}, {cs := enc_int x}, {cs := enc_int x2}, {b := false}] [.keep [0, 1, 2, 3, 9, 10, 11, 12, 13, 78] [], .useU []] (s' := ⟨[(0, I r4), (1, .c (.im (.sl 1 (r1.map enc_int)))), (2, .c (.im (.sl 1 (r2.map enc_int)))), (3, .c (.im (.sl 1 (r3.map enc_int)))), (9, I (imin (imin (imin (least.length : Int) (want.length : Int)) (most.length : Int)) 20)), (10, .c (.im (.sl 1 (r5.map enc_int)))), (11, I sum), (12, I all), (13, I i), (78, Bo (decide (x > x2)))], [], []⟩) (by kernel_rfl) (ac (idx_nn hx_) (ac (idx_map enc_int hx_) (ac (hj4 : (decide (x < 0)) = false) (ac (idx_nn hx_) (ac (idx_map enc_int hx_) (ac (idx_nn hx1_) (ac (idx_map enc_int hx1_) (ac (hj4 : (decide (x < 0)) = false) (ac (hj5 : (decide (x > x1)) = false) (ac (idx_nn hx_) (ac (idx_map enc_int hx_) (ac (idx_nn hx2_) (ac (idx_map enc_int hx2_) (ac (hj5 : (decide (x > x1)) = false) an)))))))))))))) ?_
                  have e := Option.some.inj h
                  clear h
                  subst e
                  exact post_cmds [.keep [0, 1, 2, 3, 9, 10, 11, 12, 13, 78] [], .useU [], .keep [0, 1, 2, 3, 9, 10, 11, 12, 13, 78] [], .useU []] (by kernel_rfl) an post_in
            · skip
              refine post_then ?_
              refine awp_cond (b := v) rfl (fun hb => ?_) (fun hb => ?_)
              · replace h := ifT hb h
                refine awp_seq ?_
                refine areg [] [.keep [8] [], .useU []] (s' := ⟨[(8, Bo false)], [], []⟩) (by kernel_rfl) an ?_
                refine post_then ?_
                refine awp_ret ?_
                refine post_thenR ?_
                refine post_blkR ?_
                refine post_thenR ?_
                refine post_thenR ?_
                refine post_blkR ?_
                refine post_thenR ?_
                have e := Lp.xt.inj (Option.some.inj h)
                clear h
                subst e
                exact post_ret tok hF rfl (by kernel_rfl) (by kernel_rfl)
              · replace h := ifF hb h
                refine awp_skip ?_
                refine post_then ?_
                replace h := bs h
                obtain ⟨x3, hx3_, h⟩ := h
                replace h := bs h
                obtain ⟨x4, hx4_, h⟩ := h
                refine areg [{cs := enc_int x3}, {cs := enc_int x4}] [.keep [0, 1, 2, 3, 9, 10, 11, 12, 13] [], .useU []] (s' := ⟨[(0, I r4), (1, .c (.im (.sl 1 (r1.map enc_int)))), (2, .c (.im (.sl 1 (r2.map enc_int)))), (3, .c (.im (.sl 1 (r3.map enc_int)))), (9, I (imin (imin (imin (least.length : Int) (want.length : Int)) (most.length : Int)) 20)), (10, .c (.im (.sl 1 (r5.map enc_int)))), (11, I (w64 (sum + x3))), (12, I (w64 (all + x4))), (13, I i)], [], []⟩) (by kernel_rfl) (ac (idx_nn hx3_) (ac (idx_map enc_int hx3_) (ac (idx_nn hx4_) (ac (idx_map enc_int hx4_) an)))) ?_
                refine post_blk ?_
                refine post_then ?_
                refine areg [] [.keep [0, 1, 2, 3, 9, 10, 11, 12, 13] [], .useU []] (s' := ⟨[(0, I r4), (1, .c (.im (.sl 1 (r1.map enc_int)))), (2, .c (.im (.sl 1 (r2.map enc_int)))), (3, .c (.im (.sl 1 (r3.map enc_int)))), (9, I (imin (imin (imin (least.length : Int) (want.length : Int)) (most.length : Int)) 20)), (10, .c (.im (.sl 1 (r5.map enc_int)))), (11, I (w64 (sum + x3))), (12, I (w64 (all + x4))), (13, I (w64 (i + 1)))], [], []⟩) (by kernel_rfl) an ?_
                exact post_cmds [.keep [0, 1, 2, 3, 9, 10, 11, 12, 13] [], .useU [], .keep [0, 1, 2, 3, 9, 10, 11, 12, 13] [], .useU []] (by kernel_rfl) an (post_back (Nat.lt_succ_self _) ⟨_, _, _, h, rfl⟩)
          · replace h := ifF hb h
            refine awp_exit ?_
            refine post_thenE ?_
            refine post_thenE ?_
            refine post_blkE ?_
            cases h

theorem con_dispatchlaw16_IdealMore {total : Int} {more : Int} {least : (List Int)} {want : (List Int)} {most : (List Int)} {r : Bool} (h : D.dispatchlaw16_IdealMore total more least want most = some r) : Con Try.prog 5 [I total, I more, .c (.im (.sl 1 (least.map enc_int))), .c (.im (.sl 1 (want.map enc_int))), .c (.im (.sl 1 (most.map enc_int)))] (Bo r) := by
  refine con_intro Try.func5 rfl Try.ntmps5 (by kernel_rfl) rfl fun F hF => ?_
  unfold D.dispatchlaw16_IdealMore at h
  refine awp_seq ?_
  refine areg [] [.keep [0, 1, 2, 3, 4] [], .useU []] (s' := ⟨[(0, I total), (1, I more), (2, .c (.im (.sl 1 (least.map enc_int)))), (3, .c (.im (.sl 1 (want.map enc_int)))), (4, .c (.im (.sl 1 (most.map enc_int))))], [], []⟩) (by kernel_rfl) an ?_
  refine post_then ?_
  refine awp_seq ?_
  refine awp_seq ?_
  replace h := bs h
  obtain ⟨r, hr_, h⟩ := h
  refine areg [{d := Bo r}] [.keep [0, 1, 2, 3, 4, 19] [], .useU []] (s' := ⟨[(0, I total), (1, I more), (2, .c (.im (.sl 1 (least.map enc_int)))), (3, .c (.im (.sl 1 (want.map enc_int)))), (4, .c (.im (.sl 1 (most.map enc_int)))), (19, Bo (!r))], [], []⟩) (by kernel_rfl) (ac (con_dispatchlaw16_known hr_) an) ?_
  refine post_then ?_
  refine awp_cond (b := (!r)) rfl (fun hb => ?_) (fun hb => ?_)
  · replace h := ifT hb h
    refine awp_seq ?_
    refine areg [] [.keep [10] [], .useU []] (s' := ⟨[(10, Bo false)], [], []⟩) (by kernel_rfl) an ?_
    refine post_then ?_
    refine awp_ret ?_
    refine post_thenR ?_
    have e := Option.some.inj h
    clear h
    subst e
    exact post_ret tok hF rfl (by kernel_rfl) (by kernel_rfl)
  · replace h := ifF hb h
    refine awp_skip ?_
    refine post_then ?_
    refine awp_seq ?_
    refine areg [{n := least.length}, {n := want.length}, {n := most.length}] [.keep [0, 1, 2, 3, 4, 11] [], .useU []] (s' := ⟨[(0, I total), (1, I more), (2, .c (.im (.sl 1 (least.map enc_int)))), (3, .c (.im (.sl 1 (want.map enc_int)))), (4, .c (.im (.sl 1 (most.map enc_int)))), (11, I (imin (imin (imin (least.length : Int) (want.length : Int)) (most.length : Int)) 20))], [], []⟩) (by kernel_rfl) (ac (len_map (l := least) enc_int) (ac (len_map (l := want) enc_int) (ac (len_map (l := most) enc_int) an))) ?_
    refine post_then ?_
    refine awp_seq ?_
    replace h := bs h
    obtain ⟨l, hl_, h⟩ := h
    replace h := bs h
    obtain ⟨r1, hr1_, h⟩ := h
    replace h := bs h
    obtain ⟨l1, hl1_, h⟩ := h
    replace h := bs h
    obtain ⟨r2, hr2_, h⟩ := h
    replace h := bs h
    obtain ⟨l2, hl2_, h⟩ := h
    replace h := bs h
    obtain ⟨r3, hr3_, h⟩ := h
    refine areg [{es := l.map enc_int}, {d := .c (.im (.sl 1 (r1.map enc_int)))}, {es := l1.map enc_int}, {d := .c (.im (.sl 1 (r2.map enc_int)))}, {es := l2.map enc_int}, {d := .c (.im (.sl 1 (r3.map enc_int)))}] [.keep [0, 1, 2, 3, 4, 11] [], .useU []] (s' := ⟨[(0, I total), (1, I more), (2, .c (.im (.sl 1 (r1.map enc_int)))), (3, .c (.im (.sl 1 (r2.map enc_int)))), (4, .c (.im (.sl 1 (r3.map enc_int)))), (11, I (imin (imin (imin (least.length : Int) (want.length : Int)) (most.length : Int)) 20))], [], []⟩) (by kernel_rfl) (ac (slc_eq hl_).1 (ac (slc_eq hl_).2.1 (ac (slc_len enc_int hl_) (ac (slc_map enc_int hl_) (ac (con_dispatchlaw16_few hr1_) (ac (slc_eq hl1_).1 (ac (slc_eq hl1_).2.1 (ac (slc_len enc_int hl1_) (ac (slc_map enc_int hl1_) (ac (con_dispatchlaw16_few hr2_) (ac (slc_eq hl2_).1 (ac (slc_eq hl2_).2.1 (ac (slc_len enc_int hl2_) (ac (slc_map enc_int hl2_) (ac (con_dispatchlaw16_few hr3_) an))))))))))))))) ?_
    refine post_then ?_
    refine awp_seq ?_
    replace h := bs h
    obtain ⟨r4, hr4_, h⟩ := h
    replace h := bs h
    obtain ⟨r5, hr5_, h⟩ := h
    refine areg [{d := I r4}, {d := I r5}] [.keep [0, 1, 2, 3, 4, 11] [], .useU []] (s' := ⟨[(0, I r4), (1, I r5), (2, .c (.im (.sl 1 (r1.map enc_int)))), (3, .c (.im (.sl 1 (r2.map enc_int)))), (4, .c (.im (.sl 1 (r3.map enc_int)))), (11, I (imin (imin (imin (least.length : Int) (want.length : Int)) (most.length : Int)) 20))], [], []⟩) (by kernel_rfl) (ac (con_dispatchlaw16_within hr4_) (ac (con_dispatchlaw16_within hr5_) an)) ?_
    refine post_then ?_
    refine awp_seq ?_
    replace h := bs h
    obtain ⟨r6, hr6_, h⟩ := h
    replace h := bs h
    obtain ⟨r7, hr7_, h⟩ := h
    refine areg [{d := .c (.im (.sl 1 (r6.map enc_int)))}, {d := .c (.im (.sl 1 (r7.map enc_int)))}] [.keep [0, 1, 2, 3, 11, 12, 13] [], .useU []] (s' := ⟨[(0, I r4), (1, I r5), (2, .c (.im (.sl 1 (r1.map enc_int)))), (3, .c (.im (.sl 1 (r2.map enc_int)))), (11, I (imin (imin (imin (least.length : Int) (want.length : Int)) (most.length : Int)) 20)), (12, .c (.im (.sl 1 (r6.map enc_int)))), (13, .c (.im (.sl 1 (r7.map enc_int))))], [], []⟩) (by kernel_rfl) (ac (con_ideal_Split hr6_) (ac (con_ideal_Split hr7_) an)) ?_
    refine post_then ?_
    refine awp_seq ?_
    refine areg [] [.keep [0, 1, 2, 3, 11, 12, 13, 14, 15] [], .useU []] (s' := ⟨[(0, I r4), (1, I r5), (2, .c (.im (.sl 1 (r1.map enc_int)))), (3, .c (.im (.sl 1 (r2.map enc_int)))), (11, I (imin (imin (imin (least.length : Int) (want.length : Int)) (most.length : Int)) 20)), (12, .c (.im (.sl 1 (r6.map enc_int)))), (13, .c (.im (.sl 1 (r7.map enc_int)))), (14, I 0), (15, I 0)], [], []⟩) (by kernel_rfl) an ?_
    refine post_then ?_
    refine awp_seq ?_
    refine awp_seq ?_
    refine areg [] [.keep [0, 1, 2, 3, 11, 12, 13, 14, 15, 16] [], .useU []] (s' := ⟨[(0, I r4), (1, I r5), (2, .c (.im (.sl 1 (r1.map enc_int)))), (3, .c (.im (.sl 1 (r2.map enc_int)))), (11, I (imin (imin (imin (least.length : Int) (want.length : Int)) (most.length : Int)) 20)), (12, .c (.im (.sl 1 (r6.map enc_int)))), (13, .c (.im (.sl 1 (r7.map enc_int)))), (14, I 0), (15, I 0), (16, I 0)], [], []⟩) (by kernel_rfl) an ?_
    refine post_then ?_
    replace h := bs h
    obtain ⟨j10, hj2, h⟩ := h
    rcases j10 with ⟨sum1, all1⟩ | rhj2
    · refine awp_cutN (⟨[(0, I r4), (1, I r5), (11, I (imin (imin (imin (least.length : Int) (want.length : Int)) (most.length : Int)) 20)), (12, .c (.im (.sl 1 (r6.map enc_int)))), (13, .c (.im (.sl 1 (r7.map enc_int)))), (14, I sum1), (15, I all1)], [], []⟩) ?_ ?_
      · replace h := hj2
        clear hj2
        refine awp_cmds [.keep [0, 1, 2, 3, 11, 12, 13, 14, 15, 16] [], .useU [], .keep [0, 1, 2, 3, 11, 12, 13, 14, 15, 16] [], .useU []] (by kernel_rfl) an (awp_block (awp_loop (fun k s => ∃ (sum : Int) (all : Int) (i : Int), D.dispatchlaw16_IdealMore_l1 least want most r1 r2 r6 r7 k sum all i = some (Lp.nx (sum1, all1)) ∧ s = ⟨[(0, I r4), (1, I r5), (2, .c (.im (.sl 1 (r1.map enc_int)))), (3, .c (.im (.sl 1 (r2.map enc_int)))), (11, I (imin (imin (imin (least.length : Int) (want.length : Int)) (most.length : Int)) 20)), (12, .c (.im (.sl 1 (r6.map enc_int)))), (13, .c (.im (.sl 1 (r7.map enc_int)))), (14, I sum), (15, I all), (16, I i)], [], []⟩) ⟨_, _, _, h, rfl⟩ ?_))
        clear h
        rintro (_ | k) s ⟨sum, all, i, h, rfl⟩
        · cases h
        · unfold D.dispatchlaw16_IdealMore_l1 at h
          refine awp_seq ?_
          refine awp_seq ?_
          refine areg [] [.keep [0, 1, 2, 3, 11, 12, 13, 14, 15, 16, 57] [], .useU []] (s' := ⟨[(0, I r4), (1, I r5), (2, .c (.im (.sl 1 (r1.map enc_int)))), (3, .c (.im (.sl 1 (r2.map enc_int)))), (11, I (imin (imin (imin (least.length : Int) (want.length : Int)) (most.length : Int)) 20)), (12, .c (.im (.sl 1 (r6.map enc_int)))), (13, .c (.im (.sl 1 (r7.map enc_int)))), (14, I sum), (15, I all), (16, I i), (57, Bo (decide (i < (imin (imin (imin (least.length : Int) (want.length : Int)) (most.length : Int)) 20))))], [], []⟩) (by kernel_rfl) an ?_
          refine post_then ?_
          refine awp_cond (b := (decide (i < (imin (imin (imin (least.length : Int) (want.length : Int)) (most.length : Int)) 20)))) rfl (fun hb => ?_) (fun hb => ?_)
          · replace h := ifT hb h
            refine awp_skip ?_
            refine post_then ?_
            refine awp_seq ?_
            refine awp_block ?_
            refine awp_seq ?_
            refine awp_seq ?_
            replace h := bs h
            obtain ⟨v, hj3, h⟩ := h
            refine awp_cutN (⟨[(0, I r4), (1, I r5), (2, .c (.im (.sl 1 (r1.map enc_int)))), (3, .c (.im (.sl 1 (r2.map enc_int)))), (11, I (imin (imin (imin (least.length : Int) (want.length : Int)) (most.length : Int)) 20)), (12, .c (.im (.sl 1 (r6.map enc_int)))), (13, .c (.im (.sl 1 (r7.map enc_int)))), (14, I sum), (15, I all), (16, I i), (71, Bo v)], [], []⟩) ?_ ?_
            · replace h := hj3
              clear hj3
              replace h := bs h
              obtain ⟨x, hx_, h⟩ := h
              rcases boolc (x == 0) with hj4 | hj4
              · replace h := ifT hj4 h
                replace h := bs h
                obtain ⟨x1, hx1_, h⟩ := h
                refine areg [{cs := enc_int x}, {b := true}, {cs := enc_int x1}, {b := true}] [.keep [0, 1, 2, 3, 11, 12, 13, 14, 15, 16, 71] [], .useU []] (s' := ⟨[(0, I r4), (1, I r5), (2, .c (.im (.sl 1 (r1.map enc_int)))), (3, .c (.im (.sl 1 (r2.map enc_int)))), (11, I (imin (imin (imin (least.length : Int) (want.length : Int)) (most.length : Int)) 20)), (12, .c (.im (.sl 1 (r6.map enc_int)))), (13, .c (.im (.sl 1 (r7.map enc_int)))), (14, I sum), (15, I all), (16, I i), (71, Bo (x1 != 0))], [], []⟩) (by kernel_rfl) (ac (idx_nn hx_) (ac (idx_map enc_int hx_) (ac (hj4 : (x == 0) = true) (ac (idx_nn hx1_) (ac (idx_map enc_int hx1_) (ac (hj4 : (x == 0) = true) an)))))) ?_
                have e := Option.some.inj h
                clear h
                subst e
                exact post_cmds [.keep [0, 1, 2, 3, 11, 12, 13, 14, 15, 16, 71] [], .useU [], .keep [0, 1, 2, 3, 11, 12, 13, 14, 15, 16, 71] [], .useU []] (by kernel_rfl) an post_in
              · replace h := ifF hj4 h
                refine areg [{cs := enc_int x}, {b := false}, {b := false}] [.keep [0, 1, 2, 3, 11, 12, 13, 14, 15, 16, 71] [], .useU []] (s' := ⟨[(0, I r4), (1, I r5), (2, .c (.im (.sl 1 (r1.map enc_int)))), (3, .c (.im (.sl 1 (r2.map enc_int)))), (11, I (imin (imin (imin (least.length : Int) (want.length : Int)) (most.length : Int)) 20)), (12, .c (.im (.sl 1 (r6.map enc_int)))), (13, .c (.im (.sl 1 (r7.map enc_int)))), (14, I sum), (15, I all), (16, I i), (71, Bo false)], [], []⟩) (by kernel_rfl) (ac (idx_nn hx_) (ac (idx_map enc_int hx_) (ac (hj4 : (x == 0) = false) (ac (hj4 : (x == 0) = false) an)))) ?_
                have e := Option.some.inj h
                clear h
                subst e
                exact post_cmds [.keep [0, 1, 2, 3, 11, 12, 13, 14, 15, 16, 71] [], .useU [], .keep [0, 1, 2, 3, 11, 12, 13, 14, 15, 16, 71] [], .useU []] (by kernel_rfl) an post_in
            · skip
              refine post_then ?_
              refine awp_cond (b := v) rfl (fun hb => ?_) (fun hb => ?_)
              · replace h := ifT hb h
                refine awp_seq ?_
                refine areg [] [.keep [10] [], .useU []] (s' := ⟨[(10, Bo false)], [], []⟩) (by kernel_rfl) an ?_
                refine post_then ?_
                refine awp_ret ?_
                refine post_thenR ?_
                refine post_blkR ?_
                refine post_thenR ?_
                refine post_thenR ?_
                refine post_blkR ?_
                cases h
              · replace h := ifF hb h
                refine awp_skip ?_
                refine post_then ?_
                replace h := bs h
                obtain ⟨x2, hx2_, h⟩ := h
                replace h := bs h
                obtain ⟨x3, hx3_, h⟩ := h
                replace h := bs h
                obtain ⟨x4, hx4_, h⟩ := h
                refine areg [{cs := enc_int x2}, {cs := enc_int x3}, {cs := enc_int x4}] [.keep [0, 1, 2, 3, 11, 12, 13, 14, 15, 16] [], .useU []] (s' := ⟨[(0, I r4), (1, I r5), (2, .c (.im (.sl 1 (r1.map enc_int)))), (3, .c (.im (.sl 1 (r2.map enc_int)))), (11, I (imin (imin (imin (least.length : Int) (want.length : Int)) (most.length : Int)) 20)), (12, .c (.im (.sl 1 (r6.map enc_int)))), (13, .c (.im (.sl 1 (r7.map enc_int)))), (14, I (w64 (sum + x2))), (15, I (w64 ((w64 (all + x3)) - x4))), (16, I i)], [], []⟩) (by kernel_rfl) (ac (idx_nn hx2_) (ac (idx_map enc_int hx2_) (ac (idx_nn hx3_) (ac (idx_map enc_int hx3_) (ac (idx_nn hx4_) (ac (idx_map enc_int hx4_) an)))))) ?_
                refine post_blk ?_
                refine post_then ?_
                refine areg [] [.keep [0, 1, 2, 3, 11, 12, 13, 14, 15, 16] [], .useU []] (s' := ⟨[(0, I r4), (1, I r5), (2, .c (.im (.sl 1 (r1.map enc_int)))), (3, .c (.im (.sl 1 (r2.map enc_int)))), (11, I (imin (imin (imin (least.length : Int) (want.length : Int)) (most.length : Int)) 20)), (12, .c (.im (.sl 1 (r6.map enc_int)))), (13, .c (.im (.sl 1 (r7.map enc_int)))), (14, I (w64 (sum + x2))), (15, I (w64 ((w64 (all + x3)) - x4))), (16, I (w64 (i + 1)))], [], []⟩) (by kernel_rfl) an ?_
                exact post_cmds [.keep [0, 1, 2, 3, 11, 12, 13, 14, 15, 16] [], .useU [], .keep [0, 1, 2, 3, 11, 12, 13, 14, 15, 16] [], .useU []] (by kernel_rfl) an (post_back (Nat.lt_succ_self _) ⟨_, _, _, h, rfl⟩)
          · replace h := ifF hb h
            refine awp_exit ?_
            refine post_thenE ?_
            refine post_thenE ?_
            refine post_blkE ?_
            have e := Lp.nx.inj (Option.some.inj h)
            clear h
            obtain ⟨e1, e2⟩ := Prod.mk.inj e
            subst e1 e2
            exact post_cmds [.keep [0, 1, 11, 12, 13, 14, 15] [], .useU [], .keep [0, 1, 11, 12, 13, 14, 15] [], .useU []] (by kernel_rfl) an post_in
      · skip
        refine post_then ?_
        refine awp_seq ?_
        refine awp_seq ?_
        refine areg [] [.keep [0, 1, 11, 12, 13, 14, 15, 17] [], .useU []] (s' := ⟨[(0, I r4), (1, I r5), (11, I (imin (imin (imin (least.length : Int) (want.length : Int)) (most.length : Int)) 20)), (12, .c (.im (.sl 1 (r6.map enc_int)))), (13, .c (.im (.sl 1 (r7.map enc_int)))), (14, I sum1), (15, I all1), (17, I 0)], [], []⟩) (by kernel_rfl) an ?_
        refine post_then ?_
        replace h := bs h
        obtain ⟨j10, hj6, h⟩ := h
        rcases j10 with _ | rhj6
        · refine awp_cutN (⟨[(1, I r5), (15, I all1)], [], []⟩) ?_ ?_
          · replace h := hj6
            clear hj6
            refine awp_cmds [.keep [0, 1, 11, 12, 13, 14, 15, 17] [], .useU [], .keep [0, 1, 11, 12, 13, 14, 15, 17] [], .useU []] (by kernel_rfl) an (awp_block (awp_loop (fun k s => ∃ (i1 : Int), D.dispatchlaw16_IdealMore_l5 least want most r4 r6 r7 sum1 k i1 = some (Lp.nx ()) ∧ s = ⟨[(0, I r4), (1, I r5), (11, I (imin (imin (imin (least.length : Int) (want.length : Int)) (most.length : Int)) 20)), (12, .c (.im (.sl 1 (r6.map enc_int)))), (13, .c (.im (.sl 1 (r7.map enc_int)))), (14, I sum1), (15, I all1), (17, I i1)], [], []⟩) ⟨_, h, rfl⟩ ?_))
            clear h
            rintro (_ | k) s ⟨i1, h, rfl⟩
            · cases h
            · unfold D.dispatchlaw16_IdealMore_l5 at h
              refine awp_seq ?_
              refine awp_seq ?_
              replace h := bs h
              obtain ⟨v1, hj7, h⟩ := h
              refine awp_cutN (⟨[(0, I r4), (1, I r5), (11, I (imin (imin (imin (least.length : Int) (want.length : Int)) (most.length : Int)) 20)), (12, .c (.im (.sl 1 (r6.map enc_int)))), (13, .c (.im (.sl 1 (r7.map enc_int)))), (14, I sum1), (15, I all1), (17, I i1), (96, Bo v1)], [], []⟩) ?_ ?_
              · replace h := hj7
                clear hj7
                rcases boolc (decide (i1 < (imin (imin (imin (least.length : Int) (want.length : Int)) (most.length : Int)) 20))) with hj8 | hj8
                · replace h := ifT hj8 h
                  refine areg [{b := true}, {b := true}] [.keep [0, 1, 11, 12, 13, 14, 15, 17, 96] [], .useU []] (s' := ⟨[(0, I r4), (1, I r5), (11, I (imin (imin (imin (least.length : Int) (want.length : Int)) (most.length : Int)) 20)), (12, .c (.im (.sl 1 (r6.map enc_int)))), (13, .c (.im (.sl 1 (r7.map enc_int)))), (14, I sum1), (15, I all1), (17, I i1), (96, Bo (decide (sum1 ≤ r4)))], [], []⟩) (by kernel_rfl) (ac (hj8 : (decide (i1 < (imin (imin (imin (least.length : Int) (want.length : Int)) (most.length : Int)) 20))) = true) (ac (hj8 : (decide (i1 < (imin (imin (imin (least.length : Int) (want.length : Int)) (most.length : Int)) 20))) = true) an)) ?_
                  have e := Option.some.inj h
                  clear h
                  subst e
                  exact post_cmds [.keep [0, 1, 11, 12, 13, 14, 15, 17, 96] [], .useU [], .keep [0, 1, 11, 12, 13, 14, 15, 17, 96] [], .useU []] (by kernel_rfl) an post_in
                · replace h := ifF hj8 h
                  refine areg [{b := false}, {b := false}] [.keep [0, 1, 11, 12, 13, 14, 15, 17, 96] [], .useU []] (s' := ⟨[(0, I r4), (1, I r5), (11, I (imin (imin (imin (least.length : Int) (want.length : Int)) (most.length : Int)) 20)), (12, .c (.im (.sl 1 (r6.map enc_int)))), (13, .c (.im (.sl 1 (r7.map enc_int)))), (14, I sum1), (15, I all1), (17, I i1), (96, Bo false)], [], []⟩) (by kernel_rfl) (ac (hj8 : (decide (i1 < (imin (imin (imin (least.length : Int) (want.length : Int)) (most.length : Int)) 20))) = false) (ac (hj8 : (decide (i1 < (imin (imin (imin (least.length : Int) (want.length : Int)) (most.length : Int)) 20))) = false) an)) ?_
                  have e := Option.some.inj h
                  clear h
                  subst e
                  exact post_cmds [.keep [0, 1, 11, 12, 13, 14, 15, 17, 96] [], .useU [], .keep [0, 1, 11, 12, 13, 14, 15, 17, 96] [], .useU []] (by kernel_rfl) an post_in
              · skip
                refine post_then ?_
                refine awp_cond (b := v1) rfl (fun hb => ?_) (fun hb => ?_)
                · replace h := ifT hb h
                  refine awp_skip ?_
                  refine post_then ?_
                  refine awp_seq ?_
                  refine awp_block ?_
                  refine awp_seq ?_
                  replace h := bs h
                  obtain ⟨x5, hx5_, h⟩ := h
                  replace h := bs h
                  obtain ⟨x6, hx6_, h⟩ := h
                  refine areg [{cs := enc_int x5}, {cs := enc_int x6}] [.keep [0, 1, 11, 12, 13, 14, 15, 17, 107] [], .useU []] (s' := ⟨[(0, I r4), (1, I r5), (11, I (imin (imin (imin (least.length : Int) (want.length : Int)) (most.length : Int)) 20)), (12, .c (.im (.sl 1 (r6.map enc_int)))), (13, .c (.im (.sl 1 (r7.map enc_int)))), (14, I sum1), (15, I all1), (17, I i1), (107, Bo (decide (x5 < x6)))], [], []⟩) (by kernel_rfl) (ac (idx_nn hx5_) (ac (idx_map enc_int hx5_) (ac (idx_nn hx6_) (ac (idx_map enc_int hx6_) an)))) ?_
                  refine post_then ?_
                  refine awp_cond (b := (decide (x5 < x6))) rfl (fun hb => ?_) (fun hb => ?_)
                  · replace h := ifT hb h
                    refine awp_seq ?_
                    refine areg [] [.keep [10] [], .useU []] (s' := ⟨[(10, Bo false)], [], []⟩) (by kernel_rfl) an ?_
                    refine post_then ?_
                    refine awp_ret ?_
                    refine post_blkR ?_
                    refine post_thenR ?_
                    refine post_thenR ?_
                    refine post_blkR ?_
                    cases h
                  · replace h := ifF hb h
                    refine awp_skip ?_
                    refine post_blk ?_
                    refine post_then ?_
                    refine areg [] [.keep [0, 1, 11, 12, 13, 14, 15, 17] [], .useU []] (s' := ⟨[(0, I r4), (1, I r5), (11, I (imin (imin (imin (least.length : Int) (want.length : Int)) (most.length : Int)) 20)), (12, .c (.im (.sl 1 (r6.map enc_int)))), (13, .c (.im (.sl 1 (r7.map enc_int)))), (14, I sum1), (15, I all1), (17, I (w64 (i1 + 1)))], [], []⟩) (by kernel_rfl) an ?_
                    exact post_cmds [.keep [0, 1, 11, 12, 13, 14, 15, 17] [], .useU [], .keep [0, 1, 11, 12, 13, 14, 15, 17] [], .useU []] (by kernel_rfl) an (post_back (Nat.lt_succ_self _) ⟨_, h, rfl⟩)
                · replace h := ifF hb h
                  refine awp_exit ?_
                  refine post_thenE ?_
                  refine post_thenE ?_
                  refine post_blkE ?_
                  clear h
                  exact post_cmds [.keep [1, 15] [], .useU [], .keep [1, 15] [], .useU []] (by kernel_rfl) an post_in
          · skip
            refine post_then ?_
            refine awp_seq ?_
            replace h := bs h
            obtain ⟨v2, hj9, h⟩ := h
            refine awp_cutN (⟨[(10, Bo v2)], [], []⟩) ?_ ?_
            · replace h := hj9
              clear hj9
              rcases boolc (decide (all1 ≥ 0)) with hj10 | hj10
              · replace h := ifT hj10 h
                refine areg [{b := true}, {b := true}] [.keep [10] [], .useU []] (s' := ⟨[(10, Bo (decide (all1 ≤ r5)))], [], []⟩) (by kernel_rfl) (ac (hj10 : (decide (all1 ≥ 0)) = true) (ac (hj10 : (decide (all1 ≥ 0)) = true) an)) ?_
                have e := Option.some.inj h
                clear h
                subst e
                exact post_cmds [.keep [10] [], .useU [], .keep [10] [], .useU []] (by kernel_rfl) an post_in
              · replace h := ifF hj10 h
                refine areg [{b := false}, {b := false}] [.keep [10] [], .useU []] (s' := ⟨[(10, Bo false)], [], []⟩) (by kernel_rfl) (ac (hj10 : (decide (all1 ≥ 0)) = false) (ac (hj10 : (decide (all1 ≥ 0)) = false) an)) ?_
                have e := Option.some.inj h
                clear h
                subst e
                exact post_cmds [.keep [10] [], .useU [], .keep [10] [], .useU []] (by kernel_rfl) an post_in
            · skip
              refine post_then ?_
              refine awp_ret ?_
              have e := Option.some.inj h
              clear h
              subst e
              exact post_ret tok hF rfl (by kernel_rfl) (by kernel_rfl)
        · skip
          have e := Option.some.inj h
          clear h
          subst e
          replace h := hj6
          clear hj6
          refine awp_cmds [.keep [0, 1, 11, 12, 13, 14, 15, 17] [], .useU [], .keep [0, 1, 11, 12, 13, 14, 15, 17] [], .useU []] (by kernel_rfl) an (awp_block (awp_loop (fun k s => ∃ (i1 : Int), D.dispatchlaw16_IdealMore_l5 least want most r4 r6 r7 sum1 k i1 = some (Lp.xt rhj6) ∧ s = ⟨[(0, I r4), (1, I r5), (11, I (imin (imin (imin (least.length : Int) (want.length : Int)) (most.length : Int)) 20)), (12, .c (.im (.sl 1 (r6.map enc_int)))), (13, .c (.im (.sl 1 (r7.map enc_int)))), (14, I sum1), (15, I all1), (17, I i1)], [], []⟩) ⟨_, h, rfl⟩ ?_))
          clear h
          rintro (_ | k) s ⟨i1, h, rfl⟩
          · cases h
          · unfold D.dispatchlaw16_IdealMore_l5 at h
            refine awp_seq ?_
            refine awp_seq ?_
            replace h := bs h
            obtain ⟨v1, hj7, h⟩ := h
            refine awp_cutN (⟨[(0, I r4), (1, I r5), (11, I (imin (imin (imin (least.length : Int) (want.length : Int)) (most.length : Int)) 20)), (12, .c (.im (.sl 1 (r6.map enc_int)))), (13, .c (.im (.sl 1 (r7.map enc_int)))), (14, I sum1), (15, I all1), (17, I i1), (96, Bo v1)], [], []⟩) ?_ ?_
            · replace h := hj7
              clear hj7
              rcases boolc (decide (i1 < (imin (imin (imin (least.length : Int) (want.length : Int)) (most.length : Int)) 20))) with hj8 | hj8
              · replace h := ifT hj8 h
                refine areg [{b := true}, {b := true}] [.keep [0, 1, 11, 12, 13, 14, 15, 17, 96] [], .useU []] (s' := ⟨[(0, I r4), (1, I r5), (11, I (imin (imin (imin (least.length : Int) (want.length : Int)) (most.length : Int)) 20)), (12, .c (.im (.sl 1 (r6.map enc_int)))), (13, .c (.im (.sl 1 (r7.map enc_int)))), (14, I sum1), (15, I all1), (17, I i1), (96, Bo (decide (sum1 ≤ r4)))], [], []⟩) (by kernel_rfl) (ac (hj8 : (decide (i1 < (imin (imin (imin (least.length : Int) (want.length : Int)) (most.length : Int)) 20))) = true) (ac (hj8 : (decide (i1 < (imin (imin (imin (least.length : Int) (want.length : Int)) (most.length : Int)) 20))) = true) an)) ?_
                have e := Option.some.inj h
                clear h
                subst e
                exact post_cmds [.keep [0, 1, 11, 12, 13, 14, 15, 17, 96] [], .useU [], .keep [0, 1, 11, 12, 13, 14, 15, 17, 96] [], .useU []] (by kernel_rfl) an post_in
              · replace h := ifF hj8 h
                refine areg [{b := false}, {b := false}] [.keep [0, 1, 11, 12, 13, 14, 15, 17, 96] [], .useU []] (s' := ⟨[(0, I r4), (1, I r5), (11, I (imin (imin (imin (least.length : Int) (want.length : Int)) (most.length : Int)) 20)), (12, .c (.im (.sl 1 (r6.map enc_int)))), (13, .c (.im (.sl 1 (r7.map enc_int)))), (14, I sum1), (15, I all1), (17, I i1), (96, Bo false)], [], []⟩) (by kernel_rfl) (ac (hj8 : (decide (i1 < (imin (imin (imin (least.length : Int) (want.length : Int)) (most.length : Int)) 20))) = false) (ac (hj8 : (decide (i1 < (imin (imin (imin (least.length : Int) (want.length : Int)) (most.length : Int)) 20))) = false) an)) ?_
                have e := Option.some.inj h
                clear h
                subst e
                exact post_cmds [.keep [0, 1, 11, 12, 13, 14, 15, 17, 96] [], .useU [], .keep [0, 1, 11, 12, 13, 14, 15, 17, 96] [], .useU []] (by kernel_rfl) an post_in
            · skip
              refine post_then ?_
              refine awp_cond (b := v1) rfl (fun hb => ?_) (fun hb => ?_)
              · replace h := ifT hb h
                refine awp_skip ?_
                refine post_then ?_
                refine awp_seq ?_
                refine awp_block ?_
                refine awp_seq ?_
                replace h := bs h
                obtain ⟨x5, hx5_, h⟩ := h
                replace h := bs h
                obtain ⟨x6, hx6_, h⟩ := h
                refine areg [{cs := enc_int x5}, {cs := enc_int x6}] [.keep [0, 1, 11, 12, 13, 14, 15, 17, 107] [], .useU []] (s' := ⟨[(0, I r4), (1, I r5), (11, I (imin (imin (imin (least.length : Int) (want.length : Int)) (most.length : Int)) 20)), (12, .c (.im (.sl 1 (r6.map enc_int)))), (13, .c (.im (.sl 1 (r7.map enc_int)))), (14, I sum1), (15, I all1), (17, I i1), (107, Bo (decide (x5 < x6)))], [], []⟩) (by kernel_rfl) (ac (idx_nn hx5_) (ac (idx_map enc_int hx5_) (ac (idx_nn hx6_) (ac (idx_map enc_int hx6_) an)))) ?_
                refine post_then ?_
                refine awp_cond (b := (decide (x5 < x6))) rfl (fun hb => ?_) (fun hb => ?_)
                · replace h := ifT hb h
                  refine awp_seq ?_
                  refine areg [] [.keep [10] [], .useU []] (s' := ⟨[(10, Bo false)], [], []⟩) (by kernel_rfl) an ?_
                  refine post_then ?_
                  refine awp_ret ?_
                  refine post_blkR ?_
                  refine post_thenR ?_
                  refine post_thenR ?_
                  refine post_blkR ?_
                  refine post_thenR ?_
                  have e := Lp.xt.inj (Option.some.inj h)
                  clear h
                  subst e
                  exact post_ret tok hF rfl (by kernel_rfl) (by kernel_rfl)
                · replace h := ifF hb h
                  refine awp_skip ?_
                  refine post_blk ?_
                  refine post_then ?_
                  refine areg [] [.keep [0, 1, 11, 12, 13, 14, 15, 17] [], .useU []] (s' := ⟨[(0, I r4), (1, I r5), (11, I (imin (imin (imin (least.length : Int) (want.length : Int)) (most.length : Int)) 20)), (12, .c (.im (.sl 1 (r6.map enc_int)))), (13, .c (.im (.sl 1 (r7.map enc_int)))), (14, I sum1), (15, I all1), (17, I (w64 (i1 + 1)))], [], []⟩) (by kernel_rfl) an ?_
                  exact post_cmds [.keep [0, 1, 11, 12, 13, 14, 15, 17] [], .useU [], .keep [0, 1, 11, 12, 13, 14, 15, 17] [], .useU []] (by kernel_rfl) an (post_back (Nat.lt_succ_self _) ⟨_, h, rfl⟩)
              · replace h := ifF hb h
                refine awp_exit ?_
                refine post_thenE ?_
                refine post_thenE ?_
                refine post_blkE ?_
                cases h
    · skip
      have e := Option.some.inj h
      clear h
      subst e
      replace h := hj2
      clear hj2
      refine awp_cmds [.keep [0, 1, 2, 3, 11, 12, 13, 14, 15, 16] [], .useU [], .keep [0, 1, 2, 3, 11, 12, 13, 14, 15, 16] [], .useU []] (by kernel_rfl) an (awp_block (awp_loop (fun k s => ∃ (sum : Int) (all : Int) (i : Int), D.dispatchlaw16_IdealMore_l1 least want most r1 r2 r6 r7 k sum all i = some (Lp.xt rhj2) ∧ s = ⟨[(0, I r4), (1, I r5), (2, .c (.im (.sl 1 (r1.map enc_int)))), (3, .c (.im (.sl 1 (r2.map enc_int)))), (11, I (imin (imin (imin (least.length : Int) (want.length : Int)) (most.length : Int)) 20)), (12, .c (.im (.sl 1 (r6.map enc_int)))), (13, .c (.im (.sl 1 (r7.map enc_int)))), (14, I sum), (15, I all), (16, I i)], [], []⟩) ⟨_, _, _, h, rfl⟩ ?_))
      clear h
      rintro (_ | k) s ⟨sum, all, i, h, rfl⟩
      · cases h
      · unfold D.dispatchlaw16_IdealMore_l1 at h
        refine awp_seq ?_
        refine awp_seq ?_
        refine areg [] [.keep [0, 1, 2, 3, 11, 12, 13, 14, 15, 16, 57] [], .useU []] (s' := ⟨[(0, I r4), (1, I r5), (2, .c (.im (.sl 1 (r1.map enc_int)))), (3, .c (.im (.sl 1 (r2.map enc_int)))), (11, I (imin (imin (imin (least.length : Int) (want.length : Int)) (most.length : Int)) 20)), (12, .c (.im (.sl 1 (r6.map enc_int)))), (13, .c (.im (.sl 1 (r7.map enc_int)))), (14, I sum), (15, I all), (16, I i), (57, Bo (decide (i < (imin (imin (imin (least.length : Int) (want.length : Int)) (most.length : Int)) 20))))], [], []⟩) (by kernel_rfl) an ?_
        refine post_then ?_
        refine awp_cond (b := (decide (i < (imin (imin (imin (least.length : Int) (want.length : Int)) (most.length : Int)) 20)))) rfl (fun hb => ?_) (fun hb => ?_)
        · replace h := ifT hb h
          refine awp_skip ?_
          refine post_then ?_
          refine awp_seq ?_
          refine awp_block ?_
          refine awp_seq ?_
          refine awp_seq ?_
          replace h := bs h
          obtain ⟨v, hj3, h⟩ := h
          refine awp_cutN (⟨[(0, I r4), (1, I r5), (2, .c (.im (.sl 1 (r1.map enc_int)))), (3, .c (.im (.sl 1 (r2.map enc_int)))), (11, I (imin (imin (imin (least.length : Int) (want.length : Int)) (most.length : Int)) 20)), (12, .c (.im (.sl 1 (r6.map enc_int)))), (13, .c (.im (.sl 1 (r7.map enc_int)))), (14, I sum), (15, I all), (16, I i), (71, Bo v)], [], []⟩) ?_ ?_
          · replace h := hj3
            clear hj3
            replace h := bs h
            obtain ⟨x, hx_, h⟩ := h
            rcases boolc (x == 0) with hj4 | hj4
            · replace h := ifT hj4 h
              replace h := bs h
              obtain ⟨x1, hx1_, h⟩ := h
              refine areg [{cs := enc_int x}, {b := true}, {cs := enc_int x1}, {b := true}] [.keep [0, 1, 2, 3, 11, 12, 13, 14, 15, 16, 71] [], .useU []] (s' := ⟨[(0, I r4), (1, I r5), (2, .c (.im (.sl 1 (r1.map enc_int)))), (3, .c (.im (.sl 1 (r2.map enc_int)))), (11, I (imin (imin (imin (least.length : Int) (want.length : Int)) (most.length : Int)) 20)), (12, .c (.im (.sl 1 (r6.map enc_int)))), (13, .c (.im (.sl 1 (r7.map enc_int)))), (14, I sum), (15, I all), (16, I i), (71, Bo (x1 != 0))], [], []⟩) (by kernel_rfl) (ac (idx_nn hx_) (ac (idx_map enc_int hx_) (ac (hj4 : (x == 0) = true) (ac (idx_nn hx1_) (ac (idx_map enc_int hx1_) (ac (hj4 : (x == 0) = true) an)))))) ?_
              have e := Option.some.inj h
              clear h
              subst e
              exact post_cmds [.keep [0, 1, 2, 3, 11, 12, 13, 14, 15, 16, 71] [], .useU [], .keep [0, 1, 2, 3, 11, 12, 13, 14, 15, 16, 71] [], .useU []] (by kernel_rfl) an post_in
            · replace h := ifF hj4 h
              refine areg [{cs := enc_int x}, {b := false}, {b := false}] [.keep [0, 1, 2, 3, 11, 12, 13, 14, 15, 16, 71] [], .useU []] (s' := ⟨[(0, I r4), (1, I r5), (2, .c (.im (.sl 1 (r1.map enc_int)))), (3, .c (.im (.sl 1 (r2.map enc_int)))), (11, I (imin (imin (imin (least.length : Int) (want.length : Int)) (most.length : Int)) 20)), (12, .c (.im (.sl 1 (r6.map enc_int)))), (13, .c (.im (.sl 1 (r7.map enc_int)))), (14, I sum), (15, I all), (16, I i), (71, Bo false)], [], []⟩) (by kernel_rfl) (ac (idx_nn hx_) (ac (idx_map enc_int hx_) (ac (hj4 : (x == 0) = false) (ac (hj4 : (x == 0) = false) an)))) ?_
              have e := Option.some.inj h
              clear h
              subst e
              exact post_cmds [.keep [0, 1, 2, 3, 11, 12, 13, 14, 15, 16, 71] [], .useU [], .keep [0, 1, 2, 3, 11, 12, 13, 14, 15, 16, 71] [], .useU []] (by kernel_rfl) an post_in
          · skip
            refine post_then ?_
            refine awp_cond (b := v) rfl (fun hb => ?_) (fun hb => ?_)
            · replace h := ifT hb h
              refine awp_seq ?_
              refine areg [] [.keep [10] [], .useU []] (s' := ⟨[(10, Bo false)], [], []⟩) (by kernel_rfl) an ?_
              refine post_then ?_
              refine awp_ret ?_
              refine post_thenR ?_
              refine post_blkR ?_
              refine post_thenR ?_
              refine post_thenR ?_
              refine post_blkR ?_
              refine post_thenR ?_
              have e := Lp.xt.inj (Option.some.inj h)
              clear h
              subst e
              exact post_ret tok hF rfl (by kernel_rfl) (by kernel_rfl)
            · replace h := ifF hb h
              refine awp_skip ?_
              refine post_then ?_
              replace h := bs h
              obtain ⟨x2, hx2_, h⟩ := h
              replace h := bs h
              obtain ⟨x3, hx3_, h⟩ := h
              replace h := bs h
              obtain ⟨x4, hx4_, h⟩ := h
              refine areg [{cs := enc_int x2}, {cs := enc_int x3}, {cs := enc_int x4}] [.keep [0, 1, 2, 3, 11, 12, 13, 14, 15, 16] [], .useU []] (s' := ⟨[(0, I r4), (1, I r5), (2, .c (.im (.sl 1 (r1.map enc_int)))), (3, .c (.im (.sl 1 (r2.map enc_int)))), (11, I (imin (imin (imin (least.length : Int) (want.length : Int)) (most.length : Int)) 20)), (12, .c (.im (.sl 1 (r6.map enc_int)))), (13, .c (.im (.sl 1 (r7.map enc_int)))), (14, I (w64 (sum + x2))), (15, I (w64 ((w64 (all + x3)) - x4))), (16, I i)], [], []⟩) (by kernel_rfl) (ac (idx_nn hx2_) (ac (idx_map enc_int hx2_) (ac (idx_nn hx3_) (ac (idx_map enc_int hx3_) (ac (idx_nn hx4_) (ac (idx_map enc_int hx4_) an)))))) ?_
              refine post_blk ?_
              refine post_then ?_
              refine areg [] [.keep [0, 1, 2, 3, 11, 12, 13, 14, 15, 16] [], .useU []] (s' := ⟨[(0, I r4), (1, I r5), (2, .c (.im (.sl 1 (r1.map enc_int)))), (3, .c (.im (.sl 1 (r2.map enc_int)))), (11, I (imin (imin (imin (least.length : Int) (want.length : Int)) (most.length : Int)) 20)), (12, .c (.im (.sl 1 (r6.map enc_int)))), (13, .c (.im (.sl 1 (r7.map enc_int)))), (14, I (w64 (sum + x2))), (15, I (w64 ((w64 (all + x3)) - x4))), (16, I (w64 (i + 1)))], [], []⟩) (by kernel_rfl) an ?_
              exact post_cmds [.keep [0, 1, 2, 3, 11, 12, 13, 14, 15, 16] [], .useU [], .keep [0, 1, 2, 3, 11, 12, 13, 14, 15, 16] [], .useU []] (by kernel_rfl) an (post_back (Nat.lt_succ_self _) ⟨_, _, _, h, rfl⟩)
        · replace h := ifF hb h
          refine awp_exit ?_
          refine post_thenE ?_
          refine post_thenE ?_
          refine post_blkE ?_
          cases h

theorem con_dispatchlaw16_IdealAll {want : (List Int)} {most : (List Int)} {least : (List Int)} {more : Int} {r : Bool} (h : D.dispatchlaw16_IdealAll want most least more = some r) : Con Try.prog 6 [.c (.im (.sl 1 (want.map enc_int))), .c (.im (.sl 1 (most.map enc_int))), .c (.im (.sl 1 (least.map enc_int))), I more] (Bo r) := by
  refine con_intro Try.func6 rfl Try.ntmps6 (by kernel_rfl) rfl fun F hF => ?_
  unfold D.dispatchlaw16_IdealAll at h
  refine awp_seq ?_
  refine areg [] [.keep [0, 1, 2, 3] [], .useU []] (s' := ⟨[(0, .c (.im (.sl 1 (want.map enc_int)))), (1, .c (.im (.sl 1 (most.map enc_int)))), (2, .c (.im (.sl 1 (least.map enc_int)))), (3, I more)], [], []⟩) (by kernel_rfl) an ?_
  refine post_then ?_
  refine awp_seq ?_
  refine awp_seq ?_
  replace h := bs h
  obtain ⟨r, hr_, h⟩ := h
  refine areg [{d := Bo r}] [.keep [0, 1, 2, 3, 15] [], .useU []] (s' := ⟨[(0, .c (.im (.sl 1 (want.map enc_int)))), (1, .c (.im (.sl 1 (most.map enc_int)))), (2, .c (.im (.sl 1 (least.map enc_int)))), (3, I more), (15, Bo (!r))], [], []⟩) (by kernel_rfl) (ac (con_dispatchlaw16_known hr_) an) ?_
  refine post_then ?_
  refine awp_cond (b := (!r)) rfl (fun hb => ?_) (fun hb => ?_)
  · replace h := ifT hb h
    refine awp_seq ?_
    refine areg [] [.keep [8] [], .useU []] (s' := ⟨[(8, Bo false)], [], []⟩) (by kernel_rfl) an ?_
    refine post_then ?_
    refine awp_ret ?_
    refine post_thenR ?_
    have e := Option.some.inj h
    clear h
    subst e
    exact post_ret tok hF rfl (by kernel_rfl) (by kernel_rfl)
  · replace h := ifF hb h
    refine awp_skip ?_
    refine post_then ?_
    refine awp_seq ?_
    refine areg [{n := least.length}, {n := want.length}, {n := most.length}] [.keep [0, 1, 2, 3, 9] [], .useU []] (s' := ⟨[(0, .c (.im (.sl 1 (want.map enc_int)))), (1, .c (.im (.sl 1 (most.map enc_int)))), (2, .c (.im (.sl 1 (least.map enc_int)))), (3, I more), (9, I (imin (imin (imin (least.length : Int) (want.length : Int)) (most.length : Int)) 20))], [], []⟩) (by kernel_rfl) (ac (len_map (l := least) enc_int) (ac (len_map (l := want) enc_int) (ac (len_map (l := most) enc_int) an))) ?_
    refine post_then ?_
    refine awp_seq ?_
    replace h := bs h
    obtain ⟨l, hl_, h⟩ := h
    replace h := bs h
    obtain ⟨r1, hr1_, h⟩ := h
    replace h := bs h
    obtain ⟨l1, hl1_, h⟩ := h
    replace h := bs h
    obtain ⟨r2, hr2_, h⟩ := h
    replace h := bs h
    obtain ⟨l2, hl2_, h⟩ := h
    replace h := bs h
    obtain ⟨r3, hr3_, h⟩ := h
    refine areg [{es := l.map enc_int}, {d := .c (.im (.sl 1 (r1.map enc_int)))}, {es := l1.map enc_int}, {d := .c (.im (.sl 1 (r2.map enc_int)))}, {es := l2.map enc_int}, {d := .c (.im (.sl 1 (r3.map enc_int)))}] [.keep [0, 1, 2, 3, 9] [], .useU []] (s' := ⟨[(0, .c (.im (.sl 1 (r2.map enc_int)))), (1, .c (.im (.sl 1 (r3.map enc_int)))), (2, .c (.im (.sl 1 (r1.map enc_int)))), (3, I more), (9, I (imin (imin (imin (least.length : Int) (want.length : Int)) (most.length : Int)) 20))], [], []⟩) (by kernel_rfl) (ac (slc_eq hl_).1 (ac (slc_eq hl_).2.1 (ac (slc_len enc_int hl_) (ac (slc_map enc_int hl_) (ac (con_dispatchlaw16_few hr1_) (ac (slc_eq hl1_).1 (ac (slc_eq hl1_).2.1 (ac (slc_len enc_int hl1_) (ac (slc_map enc_int hl1_) (ac (con_dispatchlaw16_few hr2_) (ac (slc_eq hl2_).1 (ac (slc_eq hl2_).2.1 (ac (slc_len enc_int hl2_) (ac (slc_map enc_int hl2_) (ac (con_dispatchlaw16_few hr3_) an))))))))))))))) ?_
    refine post_then ?_
    refine awp_seq ?_
    replace h := bs h
    obtain ⟨r4, hr4_, h⟩ := h
    refine areg [{d := I r4}] [.keep [0, 1, 2, 9, 10] [], .useU []] (s' := ⟨[(0, .c (.im (.sl 1 (r2.map enc_int)))), (1, .c (.im (.sl 1 (r3.map enc_int)))), (2, .c (.im (.sl 1 (r1.map enc_int)))), (9, I (imin (imin (imin (least.length : Int) (want.length : Int)) (most.length : Int)) 20)), (10, I r4)], [], []⟩) (by kernel_rfl) (ac (con_dispatchlaw16_within hr4_) an) ?_
    refine post_then ?_
    refine awp_seq ?_
    refine awp_seq ?_
    refine areg [] [.keep [0, 1, 2, 9, 10, 11] [], .useU []] (s' := ⟨[(0, .c (.im (.sl 1 (r2.map enc_int)))), (1, .c (.im (.sl 1 (r3.map enc_int)))), (2, .c (.im (.sl 1 (r1.map enc_int)))), (9, I (imin (imin (imin (least.length : Int) (want.length : Int)) (most.length : Int)) 20)), (10, I r4), (11, I 0)], [], []⟩) (by kernel_rfl) an ?_
    refine post_then ?_
    replace h := bs h
    obtain ⟨total1, hj2, h⟩ := h
    refine awp_cutN (⟨[(0, .c (.im (.sl 1 (r2.map enc_int)))), (1, .c (.im (.sl 1 (r3.map enc_int)))), (2, .c (.im (.sl 1 (r1.map enc_int)))), (9, I (imin (imin (imin (least.length : Int) (want.length : Int)) (most.length : Int)) 20)), (10, I total1)], [], []⟩) ?_ ?_
    · replace h := hj2
      clear hj2
      refine awp_cmds [.keep [0, 1, 2, 9, 10, 11] [], .useU [], .keep [0, 1, 2, 9, 10, 11] [], .useU []] (by kernel_rfl) an (awp_block (awp_loop (fun k s => ∃ (total : Int) (i : Int), D.dispatchlaw16_IdealAll_l1 want most least r2 r3 k total i = some total1 ∧ s = ⟨[(0, .c (.im (.sl 1 (r2.map enc_int)))), (1, .c (.im (.sl 1 (r3.map enc_int)))), (2, .c (.im (.sl 1 (r1.map enc_int)))), (9, I (imin (imin (imin (least.length : Int) (want.length : Int)) (most.length : Int)) 20)), (10, I total), (11, I i)], [], []⟩) ⟨_, _, h, rfl⟩ ?_))
      clear h
      rintro (_ | k) s ⟨total, i, h, rfl⟩
      · cases h
      · unfold D.dispatchlaw16_IdealAll_l1 at h
        refine awp_seq ?_
        refine awp_seq ?_
        refine areg [] [.keep [0, 1, 2, 9, 10, 11, 39] [], .useU []] (s' := ⟨[(0, .c (.im (.sl 1 (r2.map enc_int)))), (1, .c (.im (.sl 1 (r3.map enc_int)))), (2, .c (.im (.sl 1 (r1.map enc_int)))), (9, I (imin (imin (imin (least.length : Int) (want.length : Int)) (most.length : Int)) 20)), (10, I total), (11, I i), (39, Bo (decide (i < (imin (imin (imin (least.length : Int) (want.length : Int)) (most.length : Int)) 20))))], [], []⟩) (by kernel_rfl) an ?_
        refine post_then ?_
        refine awp_cond (b := (decide (i < (imin (imin (imin (least.length : Int) (want.length : Int)) (most.length : Int)) 20)))) rfl (fun hb => ?_) (fun hb => ?_)
        · replace h := ifT hb h
          refine awp_skip ?_
          refine post_then ?_
          refine awp_seq ?_
          refine awp_block ?_
          replace h := bs h
          obtain ⟨x, hx_, h⟩ := h
          replace h := bs h
          obtain ⟨x1, hx1_, h⟩ := h
          refine areg [{cs := enc_int x}, {cs := enc_int x1}] [.keep [0, 1, 2, 9, 10, 11] [], .useU []] (s' := ⟨[(0, .c (.im (.sl 1 (r2.map enc_int)))), (1, .c (.im (.sl 1 (r3.map enc_int)))), (2, .c (.im (.sl 1 (r1.map enc_int)))), (9, I (imin (imin (imin (least.length : Int) (want.length : Int)) (most.length : Int)) 20)), (10, I (w64 (total + (imin x x1)))), (11, I i)], [], []⟩) (by kernel_rfl) (ac (idx_nn hx_) (ac (idx_map enc_int hx_) (ac (idx_nn hx1_) (ac (idx_map enc_int hx1_) an)))) ?_
          refine post_blk ?_
          refine post_then ?_
          refine areg [] [.keep [0, 1, 2, 9, 10, 11] [], .useU []] (s' := ⟨[(0, .c (.im (.sl 1 (r2.map enc_int)))), (1, .c (.im (.sl 1 (r3.map enc_int)))), (2, .c (.im (.sl 1 (r1.map enc_int)))), (9, I (imin (imin (imin (least.length : Int) (want.length : Int)) (most.length : Int)) 20)), (10, I (w64 (total + (imin x x1)))), (11, I (w64 (i + 1)))], [], []⟩) (by kernel_rfl) an ?_
          exact post_cmds [.keep [0, 1, 2, 9, 10, 11] [], .useU [], .keep [0, 1, 2, 9, 10, 11] [], .useU []] (by kernel_rfl) an (post_back (Nat.lt_succ_self _) ⟨_, _, h, rfl⟩)
        · replace h := ifF hb h
          refine awp_exit ?_
          refine post_thenE ?_
          refine post_thenE ?_
          refine post_blkE ?_
          have e := Option.some.inj h
          clear h
          subst e
          exact post_cmds [.keep [0, 1, 2, 9, 10] [], .useU [], .keep [0, 1, 2, 9, 10] [], .useU []] (by kernel_rfl) an post_in
    · skip
      refine post_then ?_
      refine awp_seq ?_
      replace h := bs h
      obtain ⟨r5, hr5_, h⟩ := h
      refine areg [{d := .c (.im (.sl 1 (r5.map enc_int)))}] [.keep [0, 1, 9, 12] [], .useU []] (s' := ⟨[(0, .c (.im (.sl 1 (r2.map enc_int)))), (1, .c (.im (.sl 1 (r3.map enc_int)))), (9, I (imin (imin (imin (least.length : Int) (want.length : Int)) (most.length : Int)) 20)), (12, .c (.im (.sl 1 (r5.map enc_int))))], [], []⟩) (by kernel_rfl) (ac (con_ideal_Split hr5_) an) ?_
      refine post_then ?_
      refine awp_seq ?_
      refine awp_seq ?_
      refine areg [{n := r5.length}] [.keep [0, 1, 9, 12, 61] [], .useU []] (s' := ⟨[(0, .c (.im (.sl 1 (r2.map enc_int)))), (1, .c (.im (.sl 1 (r3.map enc_int)))), (9, I (imin (imin (imin (least.length : Int) (want.length : Int)) (most.length : Int)) 20)), (12, .c (.im (.sl 1 (r5.map enc_int)))), (61, Bo ((r5.length : Int) != (imin (imin (imin (least.length : Int) (want.length : Int)) (most.length : Int)) 20)))], [], []⟩) (by kernel_rfl) (ac (len_map (l := r5) enc_int) an) ?_
      refine post_then ?_
      refine awp_cond (b := ((r5.length : Int) != (imin (imin (imin (least.length : Int) (want.length : Int)) (most.length : Int)) 20))) rfl (fun hb => ?_) (fun hb => ?_)
      · replace h := ifT hb h
        refine awp_seq ?_
        refine areg [] [.keep [8] [], .useU []] (s' := ⟨[(8, Bo false)], [], []⟩) (by kernel_rfl) an ?_
        refine post_then ?_
        refine awp_ret ?_
        refine post_thenR ?_
        have e := Option.some.inj h
        clear h
        subst e
        exact post_ret tok hF rfl (by kernel_rfl) (by kernel_rfl)
      · replace h := ifF hb h
        refine awp_skip ?_
        refine post_then ?_
        refine awp_seq ?_
        refine awp_seq ?_
        refine areg [] [.keep [0, 1, 9, 12, 13] [], .useU []] (s' := ⟨[(0, .c (.im (.sl 1 (r2.map enc_int)))), (1, .c (.im (.sl 1 (r3.map enc_int)))), (9, I (imin (imin (imin (least.length : Int) (want.length : Int)) (most.length : Int)) 20)), (12, .c (.im (.sl 1 (r5.map enc_int)))), (13, I 0)], [], []⟩) (by kernel_rfl) an ?_
        refine post_then ?_
        replace h := bs h
        obtain ⟨j4, hj4, h⟩ := h
        rcases j4 with _ | rhj4
        · refine awp_cutN (⟨[], [], []⟩) ?_ ?_
          · replace h := hj4
            clear hj4
            refine awp_cmds [.keep [0, 1, 9, 12, 13] [], .useU [], .keep [0, 1, 9, 12, 13] [], .useU []] (by kernel_rfl) an (awp_block (awp_loop (fun k s => ∃ (i1 : Int), D.dispatchlaw16_IdealAll_l3 want most least r2 r3 r5 k i1 = some (Lp.nx ()) ∧ s = ⟨[(0, .c (.im (.sl 1 (r2.map enc_int)))), (1, .c (.im (.sl 1 (r3.map enc_int)))), (9, I (imin (imin (imin (least.length : Int) (want.length : Int)) (most.length : Int)) 20)), (12, .c (.im (.sl 1 (r5.map enc_int)))), (13, I i1)], [], []⟩) ⟨_, h, rfl⟩ ?_))
            clear h
            rintro (_ | k) s ⟨i1, h, rfl⟩
            · cases h
            · unfold D.dispatchlaw16_IdealAll_l3 at h
              refine awp_seq ?_
              refine awp_seq ?_
              refine areg [] [.keep [0, 1, 9, 12, 13, 64] [], .useU []] (s' := ⟨[(0, .c (.im (.sl 1 (r2.map enc_int)))), (1, .c (.im (.sl 1 (r3.map enc_int)))), (9, I (imin (imin (imin (least.length : Int) (want.length : Int)) (most.length : Int)) 20)), (12, .c (.im (.sl 1 (r5.map enc_int)))), (13, I i1), (64, Bo (decide (i1 < (imin (imin (imin (least.length : Int) (want.length : Int)) (most.length : Int)) 20))))], [], []⟩) (by kernel_rfl) an ?_
              refine post_then ?_
              refine awp_cond (b := (decide (i1 < (imin (imin (imin (least.length : Int) (want.length : Int)) (most.length : Int)) 20)))) rfl (fun hb => ?_) (fun hb => ?_)
              · replace h := ifT hb h
                refine awp_skip ?_
                refine post_then ?_
                refine awp_seq ?_
                refine awp_block ?_
                refine awp_seq ?_
                replace h := bs h
                obtain ⟨x2, hx2_, h⟩ := h
                replace h := bs h
                obtain ⟨x3, hx3_, h⟩ := h
                replace h := bs h
                obtain ⟨x4, hx4_, h⟩ := h
                refine areg [{cs := enc_int x2}, {cs := enc_int x3}, {cs := enc_int x4}] [.keep [0, 1, 9, 12, 13, 80] [], .useU []] (s' := ⟨[(0, .c (.im (.sl 1 (r2.map enc_int)))), (1, .c (.im (.sl 1 (r3.map enc_int)))), (9, I (imin (imin (imin (least.length : Int) (want.length : Int)) (most.length : Int)) 20)), (12, .c (.im (.sl 1 (r5.map enc_int)))), (13, I i1), (80, Bo (x2 != (imin x3 x4)))], [], []⟩) (by kernel_rfl) (ac (idx_nn hx2_) (ac (idx_map enc_int hx2_) (ac (idx_nn hx3_) (ac (idx_map enc_int hx3_) (ac (idx_nn hx4_) (ac (idx_map enc_int hx4_) an)))))) ?_
                refine post_then ?_
                refine awp_cond (b := (x2 != (imin x3 x4))) rfl (fun hb => ?_) (fun hb => ?_)
                · replace h := ifT hb h
                  refine awp_seq ?_
                  refine areg [] [.keep [8] [], .useU []] (s' := ⟨[(8, Bo false)], [], []⟩) (by kernel_rfl) an ?_
                  refine post_then ?_
                  refine awp_ret ?_
                  refine post_blkR ?_
                  refine post_thenR ?_
                  refine post_thenR ?_
                  refine post_blkR ?_
                  cases h
                · replace h := ifF hb h
                  refine awp_skip ?_
                  refine post_blk ?_
                  refine post_then ?_
                  refine areg [] [.keep [0, 1, 9, 12, 13] [], .useU []] (s' := ⟨[(0, .c (.im (.sl 1 (r2.map enc_int)))), (1, .c (.im (.sl 1 (r3.map enc_int)))), (9, I (imin (imin (imin (least.length : Int) (want.length : Int)) (most.length : Int)) 20)), (12, .c (.im (.sl 1 (r5.map enc_int)))), (13, I (w64 (i1 + 1)))], [], []⟩) (by kernel_rfl) an ?_
                  exact post_cmds [.keep [0, 1, 9, 12, 13] [], .useU [], .keep [0, 1, 9, 12, 13] [], .useU []] (by kernel_rfl) an (post_back (Nat.lt_succ_self _) ⟨_, h, rfl⟩)
              · replace h := ifF hb h
                refine awp_exit ?_
                refine post_thenE ?_
                refine post_thenE ?_
                refine post_blkE ?_
                clear h
                exact post_cmds [.keep [] [], .useU [], .keep [] [], .useU []] (by kernel_rfl) an post_in
          · skip
            refine post_then ?_
            refine awp_seq ?_
            refine areg [] [.keep [8] [], .useU []] (s' := ⟨[(8, Bo true)], [], []⟩) (by kernel_rfl) an ?_
            refine post_then ?_
            refine awp_ret ?_
            have e := Option.some.inj h
            clear h
            subst e
            exact post_ret tok hF rfl (by kernel_rfl) (by kernel_rfl)
        · skip
          have e := Option.some.inj h
          clear h
          subst e
          replace h := hj4
          clear hj4
          refine awp_cmds [.keep [0, 1, 9, 12, 13] [], .useU [], .keep [0, 1, 9, 12, 13] [], .useU []] (by kernel_rfl) an (awp_block (awp_loop (fun k s => ∃ (i1 : Int), D.dispatchlaw16_IdealAll_l3 want most least r2 r3 r5 k i1 = some (Lp.xt rhj4) ∧ s = ⟨[(0, .c (.im (.sl 1 (r2.map enc_int)))), (1, .c (.im (.sl 1 (r3.map enc_int)))), (9, I (imin (imin (imin (least.length : Int) (want.length : Int)) (most.length : Int)) 20)), (12, .c (.im (.sl 1 (r5.map enc_int)))), (13, I i1)], [], []⟩) ⟨_, h, rfl⟩ ?_))
          clear h
          rintro (_ | k) s ⟨i1, h, rfl⟩
          · cases h
          · unfold D.dispatchlaw16_IdealAll_l3 at h
            refine awp_seq ?_
            refine awp_seq ?_
            refine areg [] [.keep [0, 1, 9, 12, 13, 64] [], .useU []] (s' := ⟨[(0, .c (.im (.sl 1 (r2.map enc_int)))), (1, .c (.im (.sl 1 (r3.map enc_int)))), (9, I (imin (imin (imin (least.length : Int) (want.length : Int)) (most.length : Int)) 20)), (12, .c (.im (.sl 1 (r5.map enc_int)))), (13, I i1), (64, Bo (decide (i1 < (imin (imin (imin (least.length : Int) (want.length : Int)) (most.length : Int)) 20))))], [], []⟩) (by kernel_rfl) an ?_
            refine post_then ?_
            refine awp_cond (b := (decide (i1 < (imin (imin (imin (least.length : Int) (want.length : Int)) (most.length : Int)) 20)))) rfl (fun hb => ?_) (fun hb => ?_)
            · replace h := ifT hb h
              refine awp_skip ?_
              refine post_then ?_
              refine awp_seq ?_
              refine awp_block ?_
              refine awp_seq ?_
              replace h := bs h
              obtain ⟨x2, hx2_, h⟩ := h
              replace h := bs h
              obtain ⟨x3, hx3_, h⟩ := h
              replace h := bs h
              obtain ⟨x4, hx4_, h⟩ := h
              refine areg [{cs := enc_int x2}, {cs := enc_int x3}, {cs := enc_int x4}] [.keep [0, 1, 9, 12, 13, 80] [], .useU []] (s' := ⟨[(0, .c (.im (.sl 1 (r2.map enc_int)))), (1, .c (.im (.sl 1 (r3.map enc_int)))), (9, I (imin (imin (imin (least.length : Int) (want.length : Int)) (most.length : Int)) 20)), (12, .c (.im (.sl 1 (r5.map enc_int)))), (13, I i1), (80, Bo (x2 != (imin x3 x4)))], [], []⟩) (by kernel_rfl) (ac (idx_nn hx2_) (ac (idx_map enc_int hx2_) (ac (idx_nn hx3_) (ac (idx_map enc_int hx3_) (ac (idx_nn hx4_) (ac (idx_map enc_int hx4_) an)))))) ?_
              refine post_then ?_
              refine awp_cond (b := (x2 != (imin x3 x4))) rfl (fun hb => ?_) (fun hb => ?_)
              · replace h := ifT hb h
                refine awp_seq ?_
                refine areg [] [.keep [8] [], .useU []] (s' := ⟨[(8, Bo false)], [], []⟩) (by kernel_rfl) an ?_
                refine post_then ?_
                refine awp_ret ?_
                refine post_blkR ?_
                refine post_thenR ?_
                refine post_thenR ?_
                refine post_blkR ?_
                refine post_thenR ?_
                have e := Lp.xt.inj (Option.some.inj h)
                clear h
                subst e
                exact post_ret tok hF rfl (by kernel_rfl) (by kernel_rfl)
              · replace h := ifF hb h
                refine awp_skip ?_
                refine post_blk ?_
                refine post_then ?_
                refine areg [] [.keep [0, 1, 9, 12, 13] [], .useU []] (s' := ⟨[(0, .c (.im (.sl 1 (r2.map enc_int)))), (1, .c (.im (.sl 1 (r3.map enc_int)))), (9, I (imin (imin (imin (least.length : Int) (want.length : Int)) (most.length : Int)) 20)), (12, .c (.im (.sl 1 (r5.map enc_int)))), (13, I (w64 (i1 + 1)))], [], []⟩) (by kernel_rfl) an ?_
                exact post_cmds [.keep [0, 1, 9, 12, 13] [], .useU [], .keep [0, 1, 9, 12, 13] [], .useU []] (by kernel_rfl) an (post_back (Nat.lt_succ_self _) ⟨_, h, rfl⟩)
            · replace h := ifF hb h
              refine awp_exit ?_
              refine post_thenE ?_
              refine post_thenE ?_
              refine post_blkE ?_
              cases h

end Go.Fw
