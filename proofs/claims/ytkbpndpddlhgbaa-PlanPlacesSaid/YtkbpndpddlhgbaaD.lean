/-
  The functions of the program that these laws reach, as functions over plain data (printed by a program). Conditions: none.
-/
import Derived.Test.YtkbpndpddlhgbaaFxC
import Derived.Test.YtkbpndpddlhgbaaA
namespace Go.Fx.D
open Go Go.Fx Go.Proofs
set_option linter.unusedVariables false
noncomputable section

def plan_within (n : Int) (most : Int) : Option Bool :=
  bif decide (n ≥ 0) then
    some (decide (n ≤ most))
  else
    some false
def h23 : Hint := .z
noncomputable def sp23 : Spec fam := ⟨[.v (.int .i64) [], .v (.int .i64) []], [.v .bool []], fun a => plan_within a.1 a.2.1⟩

def slices_Sort___int_int_ (s : List Int) : Option (List Int) := sortI s
def h24 : Hint := .z
noncomputable def sp24 : Spec fam := ⟨[.row (.int .i64) false], [], fun a => slices_Sort___int_int_ a.1⟩

def slices_IndexFunc___int_int__l1 (s : List Int) (f : (TupT fam [.int .i64] → Option Bool)) (t : Int) : Option (Int ⊕ (Int ⊕ Unit)) :=
  bif decide (t < (s.length : Int)) then
    (idx s t).bind fun x =>
    (f (x, ())).bind fun r =>
    bif r then
      some (.inr (.inl t))
    else
      some (.inl (w64 (t + 1)))
  else
    some (.inr (.inr ()))

def slices_IndexFunc___int_int_ (s : List Int) (f : (TupT fam [.int .i64] → Option Bool)) : Option Int :=
  (loop (slices_IndexFunc___int_int__l1 s f) 0).bind fun q0 =>
  match q0 with
  | .inl q =>
    some q
  | .inr _ =>
    some (-1)
def h66 : Hint := (.s .z (.s (.s .z (.b (.l [(8, .v (.int .i64) [])] [4, 5, 8] [(1, [(4, .v (.int .i64) [])]), (2, [])] .z))) .z))
noncomputable def sp66 : Spec fam := ⟨[.v (.slice (.int .i64)) [], .fn [.int .i64] .bool], [.v (.int .i64) []], fun a => slices_IndexFunc___int_int_ a.1 a.2.1⟩

def slices_ContainsFunc___int_int_ (s : List Int) (f : (TupT fam [.int .i64] → Option Bool)) : Option Bool :=
  (slices_IndexFunc___int_int_ s f).bind fun x =>
  some (decide (x ≥ 0))
def h40 : Hint := .z
noncomputable def sp40 : Spec fam := ⟨[.v (.slice (.int .i64)) [], .fn [.int .i64] .bool], [.v .bool []], fun a => slices_ContainsFunc___int_int_ a.1 a.2.1⟩

def rvec_vec_good (v : Vec) : Option Bool :=
  bif decide (v.Mem ≥ 0) then
    bif decide (v.Mem ≤ 1125899906842624) then
      bif decide (v.Cores ≥ 0) then
        some (decide (v.Cores ≤ 1125899906842624))
      else
        some false
    else
      some false
  else
    some false
def h43 : Hint := .z
noncomputable def sp43 : Spec fam := ⟨[.v (.st 0) []], [.v .bool []], fun a => rvec_vec_good a.1⟩

def rvec_over (v : Vec) : Option (Vec × Int) :=
  (rvec_vec_good v).bind fun x =>
  bif ! x then
    some ((⟨0, 0⟩ : Vec), 11)
  else
    some (v, 0)
def h44 : Hint := .z
noncomputable def sp44 : Spec fam := ⟨[.v (.st 0) []], [.v (.st 0) [], .v (.int .i64) []], fun a => rvec_over a.1⟩

def rvec_Add (a : Vec) (b : Vec) : Option (Vec × Int) :=
  (
    (rvec_vec_good a).bind fun x =>
    bif ! x then
      some true
    else
      (rvec_vec_good b).bind fun x1 =>
      some (! x1)).bind fun q =>
  bif q then
    some ((⟨0, 0⟩ : Vec), 1)
  else
    (rvec_over (⟨w64 (a.Mem + b.Mem), w64 (a.Cores + b.Cores)⟩ : Vec)).bind fun x2 =>
    some (x2.1, x2.2)
def h28 : Hint := (.s .z (.s (.s (.j [] [(0, [(13, .v .bool [])])] .z) .z) .z))
noncomputable def sp28 : Spec fam := ⟨[.v (.st 0) [], .v (.st 0) []], [.v (.st 0) [], .v (.int .i64) []], fun a => rvec_Add a.1 a.2.1⟩

def plan_At_l1 (l : List Plan) (label : Int) (t : Int) (t1 : Vec × Int) : Option ((Vec × Int) ⊕ Vec) :=
  bif decide (t1.2 < (l.length : Int)) then
    (
      (idx l t1.2).bind fun x =>
      (
        bif x.Label == label then
          bif decide (x.From ≤ t) then
            some (decide (x.Until > t))
          else
            some false
        else
          some false).bind fun q =>
      bif q then
        (rvec_Add t1.1 x.Need).bind fun x1 =>
        some x1.1
      else
        some t1.1).bind fun out =>
    some (.inl (out, w64 (t1.2 + 1)))
  else
    some (.inr t1.1)

def plan_At (l : List Plan) (label : Int) (t : Int) : Option Vec :=
  (loop (plan_At_l1 l label t) ((⟨0, 0⟩ : Vec), 0)).bind fun out1 =>
  some out1
def h14 : Hint := (.s .z (.s .z (.s (.s .z (.b (.l [(7, .box (.st 0) []), (12, .v (.int .i64) [])] [7, 9, 12, 31] [(2, [(7, .box (.st 0) [])])] (.s .z (.s .z (.s (.j [7, 9, 31] [(0, [(7, .box (.st 0) [])])] (.b (.s .z (.s (.j [] [(0, [(31, .v .bool [])])] .z) .z)))) .z)))))) .z)))
noncomputable def sp14 : Spec fam := ⟨[.v (.slice (.st 1)) [], .v (.int .i64) [], .v (.int .i64) []], [.v (.st 0) []], fun a => plan_At a.1 a.2.1 a.2.2.1⟩

def rvec_Fits (a : Vec) (b : Vec) : Option Bool :=
  bif decide (a.Mem ≤ b.Mem) then
    some (decide (a.Cores ≤ b.Cores))
  else
    some false
def h42 : Hint := .z
noncomputable def sp42 : Spec fam := ⟨[.v (.st 0) [], .v (.st 0) []], [.v .bool []], fun a => rvec_Fits a.1 a.2.1⟩

def plan_free_1 (k : Int) (p : List Plan) (p1 : Plan) (p2 : Vec) : Option Bool :=
  (plan_At p p1.Label k).bind fun x =>
  (rvec_Add x p1.Need).bind fun x1 =>
  bif x1.2 != 0 then
    some true
  else
    (rvec_Fits x1.1 p2).bind fun x2 =>
    some (! x2)
def h41 : Hint := .z
noncomputable def sp41 : Spec fam := ⟨[.v (.int .i64) [], .rp (.slice (.st 1)), .rp (.st 1), .rp (.st 0)], [.v .bool []], fun a => plan_free_1 a.1 a.2.1 a.2.2.1 a.2.2.2.1⟩

def plan_free_l1 (l : List Plan) (t : Int) (long : Int) (t1 : List Int × Int) : Option ((List Int × Int) ⊕ List Int) :=
  bif decide (t1.2 < (l.length : Int)) then
    (
      (idx l t1.2).bind fun x =>
      (
        bif decide (x.From > t) then
          some (decide (x.From < (w64 (t + long))))
        else
          some false).bind fun q =>
      bif q then
        (app 8 t1.1 [x.From]).bind fun l1 =>
        some l1
      else
        some t1.1).bind fun times =>
    some (.inl (times, w64 (t1.2 + 1)))
  else
    some (.inr t1.1)

def plan_free (l : List Plan) (total : Vec) (p : Plan) (t : Int) (long : Int) : Option Bool :=
  (loop (plan_free_l1 l t long) ([t], 0)).bind fun times1 =>
  (slices_ContainsFunc___int_int_ times1 (fun a => plan_free_1 a.1 l p total)).bind fun x1 =>
  some (! x1)
def h25 : Hint := (.s .z (.s .z (.s (.s .z (.b (.l [(11, .v (.slice (.int .i64)) [0]), (18, .v (.int .i64) [])] [11, 13, 15, 18, 33] [(2, [(11, .v (.slice (.int .i64)) [0])])] (.s .z (.s .z (.s (.j [11, 13, 33] [(0, [(11, .v (.slice (.int .i64)) [0])])] (.b (.s .z (.s (.j [] [(0, [(33, .v .bool [])])] .z) .z)))) .z)))))) .z)))
noncomputable def sp25 : Spec fam := ⟨[.v (.slice (.st 1)) [], .v (.st 0) [], .v (.st 1) [], .v (.int .i64) [], .v (.int .i64) []], [.v .bool []], fun a => plan_free a.1 a.2.1 a.2.2.1 a.2.2.2.1 a.2.2.2.2.1⟩

def plan_Place_l2 (l : List Plan) (total : Vec) (p : Plan) (long : Int) (x6 : List Int) (t1 : Int) : Option (Int ⊕ ((Int × Int) ⊕ Unit)) :=
  bif decide (t1 < (x6.length : Int)) then
    (inb t1 x6.length).bind fun i1 =>
    (x6[i1]?).bind fun x7 =>
    (
      bif decide (x7 ≤ (w64 (p.Until - long))) then
        (plan_free l total p x7 long).bind fun x8 =>
        some x8
      else
        some false).bind fun q1 =>
    bif q1 then
      some (.inr (.inl (x7, 0)))
    else
      some (.inl (w64 (t1 + 1)))
  else
    some (.inr (.inr ()))

def plan_Place_l1 (l : List Plan) (p : Plan) (t : List Int × Int) : Option ((List Int × Int) ⊕ List Int) :=
  bif decide (t.2 < (l.length : Int)) then
    (
      (idx l t.2).bind fun x5 =>
      bif decide (x5.Until > p.From) then
        (app 8 t.1 [x5.Until]).bind fun l2 =>
        some l2
      else
        some t.1).bind fun times =>
    some (.inl (times, w64 (t.2 + 1)))
  else
    some (.inr t.1)

def plan_Place (l : List Plan) (total : Vec) (p : Plan) (long : Int) : Option (Int × Int) :=
  (
    bif decide (long < 1) then
      some true
    else
      bif decide (long > 1000) then
        some true
      else
        (plan_within p.From 1000000).bind fun x =>
        bif ! x then
          some true
        else
          (plan_within p.Until 1000000).bind fun x1 =>
          bif ! x1 then
            some true
          else
            (plan_within p.Need.Mem 1073741824).bind fun x2 =>
            bif ! x2 then
              some true
            else
              (plan_within p.Need.Cores 1073741824).bind fun x3 =>
              some (! x3)).bind fun q =>
  bif q then
    some (0, 1)
  else
    (mkl 8 1 (w64 ((l.length : Int) + 1)) 0).bind fun l1 =>
    (inb 0 l1.length).bind fun i =>
    (l1[i]?).bind fun x4 =>
    (loop (plan_Place_l1 l p) (List.set l1 i p.From, 0)).bind fun times1 =>
    (slices_Sort___int_int_ times1).bind fun x6 =>
    (loop (plan_Place_l2 l total p long x6) 0).bind fun q0 =>
    match q0 with
    | .inl q2 =>
      some (q2.1, q2.2)
    | .inr _ =>
      some (0, 16)
def h12 : Hint := (.s .z (.s (.s (.j [15, 16, 17, 18, 19, 20, 21, 22, 23, 24, 25, 26, 27, 28, 29, 30, 31, 32, 33, 34, 35, 36, 37, 38, 39, 40, 41, 42, 43, 44, 45, 46] [(0, [(46, .v .bool [])])] .z) .z) (.s .z (.s .z (.s (.s .z (.b (.l [(10, .v (.slice (.int .i64)) [0]), (57, .v (.int .i64) [])] [10, 12, 50, 51, 54, 57, 58, 59, 60, 61, 62, 63, 64, 65, 66, 67, 68, 69, 70, 71] [(2, [(10, .v (.slice (.int .i64)) [0])])] (.s .z (.s .z (.s (.j [10, 12, 59, 60, 61, 62, 63, 64, 65, 66, 67, 68, 69, 70] [(0, [(10, .v (.slice (.int .i64)) [0])])] .z) .z)))))) (.s .z (.s (.s .z (.b (.l [(76, .v (.int .i64) [])] [8, 9, 14, 76, 93] [(1, [(8, .v (.int .i64) []), (9, .v (.int .i64) [])]), (4, [])] (.s .z (.s .z (.s (.b (.s .z (.s (.j [] [(0, [(93, .v .bool [])])] .z) .z))) .z)))))) .z)))))))
noncomputable def sp12 : Spec fam := ⟨[.v (.slice (.st 1)) [], .v (.st 0) [], .v (.st 1) [], .v (.int .i64) []], [.v (.int .i64) [], .v (.int .i64) []], fun a => plan_Place a.1 a.2.1 a.2.2.1 a.2.2.2.1⟩

def dispatchlaw15_known : Option Bool :=
  (plan_Place [(⟨0, 0, 0, 7, ⟨4, 4⟩⟩ : Plan)] (⟨4, 4⟩ : Vec) (⟨0, 0, 0, 100, ⟨4, 4⟩⟩ : Plan) 5).bind fun x =>
  bif x.2 == 0 then
    some (x.1 == 7)
  else
    some false
def h9 : Hint := .z
noncomputable def sp9 : Spec fam := ⟨[], [.v .bool []], fun _ => dispatchlaw15_known⟩

def dispatchlaw15_within (at_ : Int) (n : Int) : Option Int :=
  (nz n).bind fun _ =>
  (
    bif decide ((Int.tmod at_ n) < 0) then
      let k := w64 ((Int.tmod at_ n) + n)
      some k
    else
      some (Int.tmod at_ n)).bind fun k1 =>
  some k1
def h11 : Hint := (.s .z (.s .z (.s (.j [5] [(0, [(5, .v (.int .i64) [])])] .z) .z)))
noncomputable def sp11 : Spec fam := ⟨[.v (.int .i64) [], .v (.int .i64) []], [.v (.int .i64) []], fun a => dispatchlaw15_within a.1 a.2.1⟩

def dispatchlaw15_good (p : Plan) : Option Plan :=
  (dispatchlaw15_within p.Id 20).bind fun x =>
  (dispatchlaw15_within p.Label 2).bind fun x1 =>
  (dispatchlaw15_within p.From 40).bind fun x2 =>
  (dispatchlaw15_within p.Until 60).bind fun x3 =>
  (dispatchlaw15_within p.Need.Mem 6).bind fun x4 =>
  (dispatchlaw15_within p.Need.Cores 6).bind fun x5 =>
  some (⟨x, x1, x2, x3, ⟨x4, x5⟩⟩ : Plan)
def h10 : Hint := .z
noncomputable def sp10 : Spec fam := ⟨[.v (.st 1) []], [.v (.st 1) []], fun a => dispatchlaw15_good a.1⟩

def dispatchref15_part (n : Int) : Option Bool :=
  bif decide (n ≥ 0) then
    some (decide (n ≤ 1073741824))
  else
    some false
def h26 : Hint := .z
noncomputable def sp26 : Spec fam := ⟨[.v (.int .i64) []], [.v .bool []], fun a => dispatchref15_part a.1⟩

def dispatchref1_Plus (a : Vec) (b : Vec) : Option Vec :=
  some (⟨w64 (a.Mem + b.Mem), w64 (a.Cores + b.Cores)⟩ : Vec)
def h17 : Hint := .z
noncomputable def sp17 : Spec fam := ⟨[.v (.st 0) [], .v (.st 0) []], [.v (.st 0) []], fun a => dispatchref1_Plus a.1 a.2.1⟩

def dispatchref15_At_l1 (l : List Plan) (label : Int) (t : Int) (t1 : Vec × Int) : Option ((Vec × Int) ⊕ Vec) :=
  bif decide (t1.2 < (l.length : Int)) then
    (
      (
        (idx l t1.2).bind fun x =>
        bif x.Label == label then
          (idx l t1.2).bind fun x1 =>
          bif decide (x1.From ≤ t) then
            (idx l t1.2).bind fun x2 =>
            some (decide (t < x2.Until))
          else
            some false
        else
          some false).bind fun q =>
      bif q then
        (idx l t1.2).bind fun x3 =>
        (dispatchref1_Plus t1.1 x3.Need).bind fun x4 =>
        some x4
      else
        some t1.1).bind fun v =>
    some (.inl (v, w64 (t1.2 + 1)))
  else
    some (.inr t1.1)

def dispatchref15_At (l : List Plan) (label : Int) (t : Int) : Option Vec :=
  (loop (dispatchref15_At_l1 l label t) ((⟨0, 0⟩ : Vec), 0)).bind fun v1 =>
  some v1
def h15 : Hint := (.s .z (.s .z (.s (.s .z (.b (.l [(7, .box (.st 0) []), (8, .v (.int .i64) [])] [7, 8, 40] [(2, [(7, .box (.st 0) [])])] (.s .z (.s (.j [7, 40] [(0, [(7, .box (.st 0) [])])] (.b (.s (.j [] [(0, [(40, .v .bool [])])] .z) .z))) .z))))) .z)))
noncomputable def sp15 : Spec fam := ⟨[.v (.slice (.st 1)) [], .v (.int .i64) [], .v (.int .i64) []], [.v (.st 0) []], fun a => dispatchref15_At a.1 a.2.1 a.2.2.1⟩

def dispatchref1_Fits (a : Vec) (b : Vec) : Option Bool :=
  bif decide (a.Mem ≤ b.Mem) then
    some (decide (a.Cores ≤ b.Cores))
  else
    some false
def h16 : Hint := .z
noncomputable def sp16 : Spec fam := ⟨[.v (.st 0) [], .v (.st 0) []], [.v .bool []], fun a => dispatchref1_Fits a.1 a.2.1⟩

def dispatchref15_fits_l1 (l : List Plan) (total : Vec) (p : Plan) (t : Int) (long : Int) (i : Int) : Option (Int ⊕ (Bool ⊕ Unit)) :=
  bif decide (i < (l.length : Int)) then
    (idx l i).bind fun x3 =>
    (
      bif decide (x3.From > t) then
        bif decide ((w64 (x3.From - t)) < long) then
          (dispatchref15_At l p.Label x3.From).bind fun x4 =>
          (dispatchref1_Plus x4 p.Need).bind fun x5 =>
          (dispatchref1_Fits x5 total).bind fun x6 =>
          some (! x6)
        else
          some false
      else
        some false).bind fun q =>
    bif q then
      some (.inr (.inl false))
    else
      some (.inl (w64 (i + 1)))
  else
    some (.inr (.inr ()))

def dispatchref15_fits (l : List Plan) (total : Vec) (p : Plan) (t : Int) (long : Int) : Option Bool :=
  (dispatchref15_At l p.Label t).bind fun x =>
  (dispatchref1_Plus x p.Need).bind fun x1 =>
  (dispatchref1_Fits x1 total).bind fun x2 =>
  bif ! x2 then
    some false
  else
    (loop (dispatchref15_fits_l1 l total p t long) 0).bind fun q0 =>
    match q0 with
    | .inl q1 =>
      some q1
    | .inr _ =>
      some true
def h27 : Hint := (.s .z (.s .z (.s (.s .z (.b (.l [(11, .v (.int .i64) [])] [10, 11, 57] [(1, [(10, .v .bool [])]), (2, [])] (.s .z (.s (.b (.s .z (.s (.j [] [(0, [(57, .v .bool [])])] .z) .z))) .z))))) .z)))
noncomputable def sp27 : Spec fam := ⟨[.v (.slice (.st 1)) [], .v (.st 0) [], .v (.st 1) [], .v (.int .i64) [], .v (.int .i64) []], [.v .bool []], fun a => dispatchref15_fits a.1 a.2.1 a.2.2.1 a.2.2.2.1 a.2.2.2.2.1⟩

def dispatchref15_Place_l1 (l : List Plan) (total : Vec) (p : Plan) (long : Int) (t : Int × Int) : Option ((Int × Int) ⊕ Int) :=
  bif decide (t.2 < (l.length : Int)) then
    (
      (
        bif decide (t.2 ≥ 0) then
          (idx l t.2).bind fun x2 =>
          some x2.Until
        else
          some p.From).bind fun t1 =>
      (
        bif decide (t1 ≥ p.From) then
          bif decide (t1 ≤ 1000000) then
            bif decide ((w64 (t1 + long)) ≤ p.Until) then
              bif decide (t.1 < 0) then
                (dispatchref15_fits l total p t1 long).bind fun x3 =>
                some x3
              else
                bif decide (t1 < t.1) then
                  (dispatchref15_fits l total p t1 long).bind fun x4 =>
                  some x4
                else
                  some false
            else
              some false
          else
            some false
        else
          some false).bind fun q1 =>
      bif q1 then
        some t1
      else
        some t.1).bind fun best =>
    some (.inl (best, w64 (t.2 + 1)))
  else
    some (.inr t.1)

def dispatchref15_Place (l : List Plan) (total : Vec) (p : Plan) (long : Int) : Option (Int × Int) :=
  (
    bif decide (long < 1) then
      some true
    else
      bif decide (long > 1000) then
        some true
      else
        bif decide (p.From < 0) then
          some true
        else
          bif decide (p.From > 1000000) then
            some true
          else
            bif decide (p.Until < 0) then
              some true
            else
              bif decide (p.Until > 1000000) then
                some true
              else
                (dispatchref15_part p.Need.Mem).bind fun x =>
                bif ! x then
                  some true
                else
                  (dispatchref15_part p.Need.Cores).bind fun x1 =>
                  some (! x1)).bind fun q =>
  bif q then
    some (0, 1)
  else
    (loop (dispatchref15_Place_l1 l total p long) ((-1), (-1))).bind fun best1 =>
    bif decide (best1 < 0) then
      some (0, 16)
    else
      some (best1, 0)
def h13 : Hint := (.s .z (.s (.s (.j [] [(0, [(52, .v .bool [])])] .z) .z) (.s .z (.s (.s .z (.b (.l [(10, .v (.int .i64) []), (11, .v (.int .i64) [])] [10, 11, 12, 100] [(2, [(10, .v (.int .i64) [])])] (.s .z (.s (.j [10, 12, 100] [(0, [(10, .v (.int .i64) [])])] (.b (.s .z (.s (.j [12] [(0, [(12, .v (.int .i64) [])])] .z) (.s (.j [] [(0, [(100, .v .bool [])])] .z) .z))))) .z))))) .z))))
noncomputable def sp13 : Spec fam := ⟨[.v (.slice (.st 1)) [], .v (.st 0) [], .v (.st 1) [], .v (.int .i64) []], [.v (.int .i64) [], .v (.int .i64) []], fun a => dispatchref15_Place a.1 a.2.1 a.2.2.1 a.2.2.2.1⟩

def dispatchlaw15_PlanPlaces_l1 (l : List Plan) (t1 : List Plan × Int) : Option ((List Plan × Int) ⊕ List Plan) :=
  bif decide (t1.2 < (l.length : Int)) then
    (idx l t1.2).bind fun x1 =>
    (dispatchlaw15_good x1).bind fun x2 =>
    (app 48 t1.1 [x2]).bind fun l1 =>
    some (.inl (l1, w64 (t1.2 + 1)))
  else
    some (.inr t1.1)

def dispatchlaw15_PlanPlaces (l : List Plan) (total : Vec) (p : Plan) (long : Int) (t : Int) : Option Bool :=
  (dispatchlaw15_known).bind fun x =>
  bif ! x then
    some false
  else
    bif decide ((l.length : Int) > 12) then
      some true
    else
      (loop (dispatchlaw15_PlanPlaces_l1 l) ([], 0)).bind fun x3 =>
      (dispatchlaw15_within total.Mem 12).bind fun x4 =>
      (dispatchlaw15_within total.Cores 12).bind fun x5 =>
      (plan_Place x3 (⟨x4, x5⟩ : Vec) p long).bind fun x6 =>
      (dispatchref15_Place x3 (⟨x4, x5⟩ : Vec) p long).bind fun x7 =>
      (
        bif x6.1 != x7.1 then
          some true
        else
          some (x6.2 != x7.2)).bind fun q =>
      bif q then
        some false
      else
        (dispatchlaw15_good p).bind fun x8 =>
        (dispatchlaw15_within long 20).bind fun x9 =>
        (plan_Place x3 (⟨x4, x5⟩ : Vec) (⟨x8.Id, x8.Label, x8.From, w64 (x8.Until + 40), ⟨x8.Need.Mem, x8.Need.Cores⟩⟩ : Plan) (w64 (1 + x9))).bind fun x10 =>
        (dispatchlaw15_within long 20).bind fun x11 =>
        (dispatchref15_Place x3 (⟨x4, x5⟩ : Vec) (⟨x8.Id, x8.Label, x8.From, w64 (x8.Until + 40), ⟨x8.Need.Mem, x8.Need.Cores⟩⟩ : Plan) (w64 (1 + x11))).bind fun x12 =>
        bif x10.1 == x12.1 then
          bif x10.2 == x12.2 then
            (plan_At x3 0 t).bind fun x13 =>
            (dispatchref15_At x3 0 t).bind fun x14 =>
            bif (x13.Mem == x14.Mem) && (x13.Cores == x14.Cores) then
              (dispatchlaw15_within t 60).bind fun x15 =>
              (plan_At x3 1 x15).bind fun x16 =>
              (dispatchlaw15_within t 60).bind fun x17 =>
              (dispatchref15_At x3 1 x17).bind fun x18 =>
              some ((x16.Mem == x18.Mem) && (x16.Cores == x18.Cores))
            else
              some false
          else
            some false
        else
          some false
def h3 : Hint := (.s .z (.s .z (.s .z (.s .z (.s (.s .z (.b (.l [(11, .v (.slice (.st 1)) [0]), (12, .v (.int .i64) [])] [11, 12] [(2, [(11, .v (.slice (.st 1)) [0])])] .z))) (.s .z (.s .z (.s .z (.s (.s (.j [] [(0, [(67, .v .bool [])])] .z) .z) .z)))))))))
noncomputable def sp3 : Spec fam := ⟨[.v (.slice (.st 1)) [], .v (.st 0) [], .v (.st 1) [], .v (.int .i64) [], .v (.int .i64) []], [.v .bool []], fun a => dispatchlaw15_PlanPlaces a.1 a.2.1 a.2.2.1 a.2.2.2.1 a.2.2.2.2.1⟩

def dispatchlaw15_PlanFits_l4 (x1 : Int) (x2 : Int) (x11 : List Plan) (t2 : Int) : Option (Int ⊕ (Bool ⊕ Unit)) :=
  bif decide (t2 < 110) then
    (plan_At x11 0 t2).bind fun x12 =>
    (dispatchref1_Fits x12 (⟨w64 (1 + x1), w64 (1 + x2)⟩ : Vec)).bind fun x13 =>
    bif ! x13 then
      some (.inr (.inl false))
    else
      some (.inl (w64 (t2 + 1)))
  else
    some (.inr (.inr ()))

def dispatchlaw15_PlanFits_l3 (x1 : Int) (x2 : Int) (t : List Plan × Int) (x4 : Plan) (x6 : Int) (u : Int) (t1 : Bool × Int) : Option ((Bool × Int) ⊕ Bool) :=
  (
    bif decide (t1.2 < (w64 (u + (w64 (1 + x6))))) then
      some t1.1
    else
      some false).bind fun q2 =>
  bif q2 then
    (plan_At t.1 0 t1.2).bind fun x8 =>
    (dispatchref1_Plus x8 x4.Need).bind fun x9 =>
    (dispatchref1_Fits x9 (⟨w64 (1 + x1), w64 (1 + x2)⟩ : Vec)).bind fun ok =>
    some (.inl (ok, w64 (t1.2 + 1)))
  else
    some (.inr t1.1)

def dispatchlaw15_PlanFits_l2 (x1 : Int) (x2 : Int) (t : List Plan × Int) (x4 : Plan) (x6 : Int) (x7 : Int × Int) (u : Int) : Option (Int ⊕ (Bool ⊕ Unit)) :=
  bif decide (u < x7.1) then
    (loop (dispatchlaw15_PlanFits_l3 x1 x2 t x4 x6 u) (true, u)).bind fun ok1 =>
    bif ok1 then
      some (.inr (.inl false))
    else
      some (.inl (w64 (u + 1)))
  else
    some (.inr (.inr ()))

def dispatchlaw15_PlanFits_l1 (l : List Plan) (longs : List Int) (x1 : Int) (x2 : Int) (t : List Plan × Int) : Option ((List Plan × Int) ⊕ (Bool ⊕ List Plan)) :=
  (
    bif decide (t.2 < (l.length : Int)) then
      bif decide (t.2 < (longs.length : Int)) then
        some (decide (t.2 < 10))
      else
        some false
    else
      some false).bind fun q =>
  bif q then
    (
      (idx l t.2).bind fun x3 =>
      (dispatchlaw15_good x3).bind fun x4 =>
      (idx longs t.2).bind fun x5 =>
      (dispatchlaw15_within x5 15).bind fun x6 =>
      (plan_Place t.1 (⟨w64 (1 + x1), w64 (1 + x2)⟩ : Vec) (⟨x4.Id, 0, x4.From, w64 (x4.Until + 20), ⟨x4.Need.Mem, x4.Need.Cores⟩⟩ : Plan) (w64 (1 + x6))).bind fun x7 =>
      bif x7.2 != 0 then
        bif x7.2 != 16 then
          some (.inr false)
        else
          some (.inl (t.1))
      else
        (
          bif decide (x7.1 < x4.From) then
            some true
          else
            some (decide ((w64 (x7.1 + (w64 (1 + x6)))) > (w64 (x4.Until + 20))))).bind fun q1 =>
        bif q1 then
          some (.inr false)
        else
          (loop (dispatchlaw15_PlanFits_l2 x1 x2 t x4 x6 x7) x4.From).bind fun q0 =>
          match q0 with
          | .inl q3 =>
            some (.inr q3)
          | .inr _ =>
            (app 48 t.1 [(⟨t.2, 0, x7.1, w64 (x7.1 + (w64 (1 + x6))), ⟨x4.Need.Mem, x4.Need.Cores⟩⟩ : Plan)]).bind fun l1 =>
            some (.inl l1) : Option (List Plan ⊕ Bool)).bind fun q0 =>
    match q0 with
    | .inl x10 =>
      some (.inl (x10, w64 (t.2 + 1)))
    | .inr q4 =>
      some (.inr (.inl q4))
  else
    some (.inr (.inr (t.1)))

def dispatchlaw15_PlanFits (l : List Plan) (longs : List Int) (total : Vec) : Option Bool :=
  (dispatchlaw15_known).bind fun x =>
  bif ! x then
    some false
  else
    (dispatchlaw15_within total.Mem 10).bind fun x1 =>
    (dispatchlaw15_within total.Cores 10).bind fun x2 =>
    (loop (dispatchlaw15_PlanFits_l1 l longs x1 x2) ([], 0)).bind fun q0 =>
    match q0 with
    | .inl q5 =>
      some q5
    | .inr x11 =>
      (loop (dispatchlaw15_PlanFits_l4 x1 x2 x11) 0).bind fun q0 =>
      match q0 with
      | .inl q6 =>
        some q6
      | .inr _ =>
        some true
def h4 : Hint := (.s .z (.s .z (.s .z (.s .z (.s (.s .z (.b (.l [(7, .v (.slice (.st 1)) [0]), (8, .v (.int .i64) [])] [6, 7, 8, 9, 10, 11, 12, 13, 14, 15, 41, 83, 99] [(1, [(6, .v .bool [])]), (2, [(7, .v (.slice (.st 1)) [0])])] (.s (.s (.j [] [(0, [(41, .v .bool [])])] .z) .z) (.s (.j [6, 7, 9, 10, 11, 12, 13, 14, 15, 83, 99] [(0, [(7, .v (.slice (.st 1)) [0])]), (1, [(6, .v .bool [])])] (.b (.s .z (.s .z (.s .z (.s .z (.s .z (.s (.s (.j [] [(0, [(83, .v .bool [])])] .z) .z) (.s (.s .z (.b (.l [(13, .v (.int .i64) [])] [6, 13, 14, 15, 99] [(1, [(6, .v .bool [])]), (4, [])] (.s .z (.s (.b (.s .z (.s (.s .z (.b (.l [(14, .v .bool []), (15, .v (.int .i64) [])] [14, 15, 99] [(6, [(14, .v .bool [])])] (.s (.s (.j [] [(0, [(99, .v .bool [])])] .z) .z) .z)))) .z))) .z))))) .z))))))))) .z))))) (.s (.s .z (.b (.l [(16, .v (.int .i64) [])] [6, 16] [(1, [(6, .v .bool [])]), (8, [])] .z))) .z))))))
noncomputable def sp4 : Spec fam := ⟨[.v (.slice (.st 1)) [], .v (.slice (.int .i64)) [], .v (.st 0) []], [.v .bool []], fun a => dispatchlaw15_PlanFits a.1 a.2.1 a.2.2.1⟩

def dispatchlaw15_PlanGaps_l1 (gaps : List Int) (x1 : Int) (t : List Plan × Int × Int × Int) : Option ((List Plan × Int × Int × Int) ⊕ ((List Plan × Int × Int))) :=
  (
    bif decide (t.2.2.2 < (gaps.length : Int)) then
      some (decide (t.2.2.2 < 8))
    else
      some false).bind fun q =>
  bif q then
    (idx gaps t.2.2.2).bind fun x2 =>
    (dispatchlaw15_within x2 12).bind fun g =>
    (
      (
        bif decide (g ≥ (w64 (1 + x1))) then
          some (decide (t.2.2.1 < 0))
        else
          some false).bind fun q1 =>
      bif q1 then
        some t.2.1
      else
        some t.2.2.1).bind fun want =>
    (app 48 t.1 [(⟨t.2.2.2, 0, w64 (t.2.1 + g), w64 ((w64 (t.2.1 + g)) + 3), ⟨3, 3⟩⟩ : Plan)]).bind fun l =>
    let t1 := w64 ((w64 (t.2.1 + g)) + 3)
    some (.inl (l, t1, want, w64 (t.2.2.2 + 1)))
  else
    some (.inr (t.1, t.2.1, t.2.2.1))

def dispatchlaw15_PlanGaps (gaps : List Int) (long : Int) : Option Bool :=
  (dispatchlaw15_known).bind fun x =>
  bif ! x then
    some false
  else
    (dispatchlaw15_within long 12).bind fun x1 =>
    (loop (dispatchlaw15_PlanGaps_l1 gaps x1) ([], 0, (-1), 0)).bind fun q2 =>
    (
      bif decide (q2.2.2 < 0) then
        some q2.2.1
      else
        some q2.2.2).bind fun want1 =>
    (plan_Place q2.1 (⟨3, 3⟩ : Vec) (⟨0, 0, 0, 200, ⟨1, 1⟩⟩ : Plan) (w64 (1 + x1))).bind fun x3 =>
    (plan_Place q2.1 (⟨3, 3⟩ : Vec) (⟨0, 0, 0, w64 ((w64 (want1 + (w64 (1 + x1)))) - 1), ⟨3, 3⟩⟩ : Plan) (w64 (1 + x1))).bind fun x4 =>
    (plan_Place q2.1 (⟨3, 3⟩ : Vec) (⟨0, 0, 0, w64 (want1 + (w64 (1 + x1))), ⟨3, 3⟩⟩ : Plan) (w64 (1 + x1))).bind fun x5 =>
    bif x3.2 == 0 then
      bif x3.1 == want1 then
        bif x4.2 == 16 then
          bif x5.2 == 0 then
            some (x5.1 == want1)
          else
            some false
        else
          some false
      else
        some false
    else
      some false
def h5 : Hint := (.s .z (.s .z (.s .z (.s .z (.s .z (.s .z (.s (.s .z (.b (.l [(6, .v (.slice (.st 1)) [0]), (7, .v (.int .i64) []), (8, .v (.int .i64) []), (9, .v (.int .i64) [])] [6, 7, 8, 9, 10, 30, 44] [(2, [(6, .v (.slice (.st 1)) [0]), (7, .v (.int .i64) []), (8, .v (.int .i64) [])])] (.s (.s (.j [] [(0, [(30, .v .bool [])])] .z) .z) (.s (.b (.s .z (.s (.j [8, 44] [(0, [(8, .v (.int .i64) [])])] (.s (.j [] [(0, [(44, .v .bool [])])] .z) .z)) .z))) .z))))) (.s (.j [8] [(0, [(8, .v (.int .i64) [])])] .z) .z))))))))
noncomputable def sp5 : Spec fam := ⟨[.v (.slice (.int .i64)) [], .v (.int .i64) []], [.v .bool []], fun a => dispatchlaw15_PlanGaps a.1 a.2.1⟩

end
end Go.Fx.D
