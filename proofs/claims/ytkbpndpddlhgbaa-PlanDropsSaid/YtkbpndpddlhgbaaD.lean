/-
  The functions of the program that these laws reach, as functions over plain data (printed by a program). Conditions: none.
-/
import Derived.Test.YtkbpndpddlhgbaaFxC
import Derived.Test.YtkbpndpddlhgbaaA
namespace Go.Fx.D
open Go Go.Fx Go.Proofs
set_option linter.unusedVariables false
noncomputable section

def plan_within (n : Int) (most : Int) : Option Bool :=
  bif decide (n ≥ 0) then
    some (decide (n ≤ most))
  else
    some false
def h23 : Hint := .z
noncomputable def sp23 : Spec fam := ⟨[.v (.int .i64) [], .v (.int .i64) []], [.v .bool []], fun a => plan_within a.1 a.2.1⟩

def slices_Sort___int_int_ (s : List Int) : Option (List Int) := sortI s
def h24 : Hint := .z
noncomputable def sp24 : Spec fam := ⟨[.row (.int .i64) false], [], fun a => slices_Sort___int_int_ a.1⟩

def slices_IndexFunc___int_int__l1 (s : List Int) (f : (TupT fam [.int .i64] → Option Bool)) (t : Int) : Option (Int ⊕ (Int ⊕ Unit)) :=
  bif decide (t < (s.length : Int)) then
    (idx s t).bind fun x =>
    (f (x, ())).bind fun r =>
    bif r then
      some (.inr (.inl t))
    else
      some (.inl (w64 (t + 1)))
  else
    some (.inr (.inr ()))

def slices_IndexFunc___int_int_ (s : List Int) (f : (TupT fam [.int .i64] → Option Bool)) : Option Int :=
  (loop (slices_IndexFunc___int_int__l1 s f) 0).bind fun q0 =>
  match q0 with
  | .inl q =>
    some q
  | .inr _ =>
    some (-1)
def h66 : Hint := (.s .z (.s (.s .z (.b (.l [(8, .v (.int .i64) [])] [4, 5, 8] [(1, [(4, .v (.int .i64) [])]), (2, [])] .z))) .z))
noncomputable def sp66 : Spec fam := ⟨[.v (.slice (.int .i64)) [], .fn [.int .i64] .bool], [.v (.int .i64) []], fun a => slices_IndexFunc___int_int_ a.1 a.2.1⟩

def slices_ContainsFunc___int_int_ (s : List Int) (f : (TupT fam [.int .i64] → Option Bool)) : Option Bool :=
  (slices_IndexFunc___int_int_ s f).bind fun x =>
  some (decide (x ≥ 0))
def h40 : Hint := .z
noncomputable def sp40 : Spec fam := ⟨[.v (.slice (.int .i64)) [], .fn [.int .i64] .bool], [.v .bool []], fun a => slices_ContainsFunc___int_int_ a.1 a.2.1⟩

def rvec_vec_good (v : Vec) : Option Bool :=
  bif decide (v.Mem ≥ 0) then
    bif decide (v.Mem ≤ 1125899906842624) then
      bif decide (v.Cores ≥ 0) then
        some (decide (v.Cores ≤ 1125899906842624))
      else
        some false
    else
      some false
  else
    some false
def h43 : Hint := .z
noncomputable def sp43 : Spec fam := ⟨[.v (.st 0) []], [.v .bool []], fun a => rvec_vec_good a.1⟩

def rvec_over (v : Vec) : Option (Vec × Int) :=
  (rvec_vec_good v).bind fun x =>
  bif ! x then
    some ((⟨0, 0⟩ : Vec), 11)
  else
    some (v, 0)
def h44 : Hint := .z
noncomputable def sp44 : Spec fam := ⟨[.v (.st 0) []], [.v (.st 0) [], .v (.int .i64) []], fun a => rvec_over a.1⟩

def rvec_Add (a : Vec) (b : Vec) : Option (Vec × Int) :=
  (
    (rvec_vec_good a).bind fun x =>
    bif ! x then
      some true
    else
      (rvec_vec_good b).bind fun x1 =>
      some (! x1)).bind fun q =>
  bif q then
    some ((⟨0, 0⟩ : Vec), 1)
  else
    (rvec_over (⟨w64 (a.Mem + b.Mem), w64 (a.Cores + b.Cores)⟩ : Vec)).bind fun x2 =>
    some (x2.1, x2.2)
def h28 : Hint := (.s .z (.s (.s (.j [] [(0, [(13, .v .bool [])])] .z) .z) .z))
noncomputable def sp28 : Spec fam := ⟨[.v (.st 0) [], .v (.st 0) []], [.v (.st 0) [], .v (.int .i64) []], fun a => rvec_Add a.1 a.2.1⟩

def plan_At_l1 (l : List Plan) (label : Int) (t : Int) (t1 : Vec × Int) : Option ((Vec × Int) ⊕ Vec) :=
  bif decide (t1.2 < (l.length : Int)) then
    (
      (idx l t1.2).bind fun x =>
      (
        bif x.Label == label then
          bif decide (x.From ≤ t) then
            some (decide (x.Until > t))
          else
            some false
        else
          some false).bind fun q =>
      bif q then
        (rvec_Add t1.1 x.Need).bind fun x1 =>
        some x1.1
      else
        some t1.1).bind fun out =>
    some (.inl (out, w64 (t1.2 + 1)))
  else
    some (.inr t1.1)

def plan_At (l : List Plan) (label : Int) (t : Int) : Option Vec :=
  (loop (plan_At_l1 l label t) ((⟨0, 0⟩ : Vec), 0)).bind fun out1 =>
  some out1
def h14 : Hint := (.s .z (.s .z (.s (.s .z (.b (.l [(7, .box (.st 0) []), (12, .v (.int .i64) [])] [7, 9, 12, 31] [(2, [(7, .box (.st 0) [])])] (.s .z (.s .z (.s (.j [7, 9, 31] [(0, [(7, .box (.st 0) [])])] (.b (.s .z (.s (.j [] [(0, [(31, .v .bool [])])] .z) .z)))) .z)))))) .z)))
noncomputable def sp14 : Spec fam := ⟨[.v (.slice (.st 1)) [], .v (.int .i64) [], .v (.int .i64) []], [.v (.st 0) []], fun a => plan_At a.1 a.2.1 a.2.2.1⟩

def rvec_Fits (a : Vec) (b : Vec) : Option Bool :=
  bif decide (a.Mem ≤ b.Mem) then
    some (decide (a.Cores ≤ b.Cores))
  else
    some false
def h42 : Hint := .z
noncomputable def sp42 : Spec fam := ⟨[.v (.st 0) [], .v (.st 0) []], [.v .bool []], fun a => rvec_Fits a.1 a.2.1⟩

def plan_free_1 (k : Int) (p : List Plan) (p1 : Plan) (p2 : Vec) : Option Bool :=
  (plan_At p p1.Label k).bind fun x =>
  (rvec_Add x p1.Need).bind fun x1 =>
  bif x1.2 != 0 then
    some true
  else
    (rvec_Fits x1.1 p2).bind fun x2 =>
    some (! x2)
def h41 : Hint := .z
noncomputable def sp41 : Spec fam := ⟨[.v (.int .i64) [], .rp (.slice (.st 1)), .rp (.st 1), .rp (.st 0)], [.v .bool []], fun a => plan_free_1 a.1 a.2.1 a.2.2.1 a.2.2.2.1⟩

def plan_free_l1 (l : List Plan) (t : Int) (long : Int) (t1 : List Int × Int) : Option ((List Int × Int) ⊕ List Int) :=
  bif decide (t1.2 < (l.length : Int)) then
    (
      (idx l t1.2).bind fun x =>
      (
        bif decide (x.From > t) then
          some (decide (x.From < (w64 (t + long))))
        else
          some false).bind fun q =>
      bif q then
        (app 8 t1.1 [x.From]).bind fun l1 =>
        some l1
      else
        some t1.1).bind fun times =>
    some (.inl (times, w64 (t1.2 + 1)))
  else
    some (.inr t1.1)

def plan_free (l : List Plan) (total : Vec) (p : Plan) (t : Int) (long : Int) : Option Bool :=
  (loop (plan_free_l1 l t long) ([t], 0)).bind fun times1 =>
  (slices_ContainsFunc___int_int_ times1 (fun a' => plan_free_1 a'.1 l p total)).bind fun x1 =>
  some (! x1)
def h25 : Hint := (.s .z (.s .z (.s (.s .z (.b (.l [(11, .v (.slice (.int .i64)) [0]), (18, .v (.int .i64) [])] [11, 13, 15, 18, 33] [(2, [(11, .v (.slice (.int .i64)) [0])])] (.s .z (.s .z (.s (.j [11, 13, 33] [(0, [(11, .v (.slice (.int .i64)) [0])])] (.b (.s .z (.s (.j [] [(0, [(33, .v .bool [])])] .z) .z)))) .z)))))) .z)))
noncomputable def sp25 : Spec fam := ⟨[.v (.slice (.st 1)) [], .v (.st 0) [], .v (.st 1) [], .v (.int .i64) [], .v (.int .i64) []], [.v .bool []], fun a => plan_free a.1 a.2.1 a.2.2.1 a.2.2.2.1 a.2.2.2.2.1⟩

def plan_Place_l2 (l : List Plan) (total : Vec) (p : Plan) (long : Int) (x6 : List Int) (t1 : Int) : Option (Int ⊕ ((Int × Int) ⊕ Unit)) :=
  bif decide (t1 < (x6.length : Int)) then
    (inb t1 x6.length).bind fun i1 =>
    (x6[i1]?).bind fun x7 =>
    (
      bif decide (x7 ≤ (w64 (p.Until - long))) then
        (plan_free l total p x7 long).bind fun x8 =>
        some x8
      else
        some false).bind fun q1 =>
    bif q1 then
      some (.inr (.inl (x7, 0)))
    else
      some (.inl (w64 (t1 + 1)))
  else
    some (.inr (.inr ()))

def plan_Place_l1 (l : List Plan) (p : Plan) (t : List Int × Int) : Option ((List Int × Int) ⊕ List Int) :=
  bif decide (t.2 < (l.length : Int)) then
    (
      (idx l t.2).bind fun x5 =>
      bif decide (x5.Until > p.From) then
        (app 8 t.1 [x5.Until]).bind fun l2 =>
        some l2
      else
        some t.1).bind fun times =>
    some (.inl (times, w64 (t.2 + 1)))
  else
    some (.inr t.1)

def plan_Place (l : List Plan) (total : Vec) (p : Plan) (long : Int) : Option (Int × Int) :=
  (
    bif decide (long < 1) then
      some true
    else
      bif decide (long > 1000) then
        some true
      else
        (plan_within p.From 1000000).bind fun x =>
        bif ! x then
          some true
        else
          (plan_within p.Until 1000000).bind fun x1 =>
          bif ! x1 then
            some true
          else
            (plan_within p.Need.Mem 1073741824).bind fun x2 =>
            bif ! x2 then
              some true
            else
              (plan_within p.Need.Cores 1073741824).bind fun x3 =>
              some (! x3)).bind fun q =>
  bif q then
    some (0, 1)
  else
    (mkl 8 1 (w64 ((l.length : Int) + 1)) 0).bind fun l1 =>
    (inb 0 l1.length).bind fun i =>
    (l1[i]?).bind fun x4 =>
    (loop (plan_Place_l1 l p) (List.set l1 i p.From, 0)).bind fun times1 =>
    (slices_Sort___int_int_ times1).bind fun x6 =>
    (loop (plan_Place_l2 l total p long x6) 0).bind fun q0 =>
    match q0 with
    | .inl q2 =>
      some (q2.1, q2.2)
    | .inr _ =>
      some (0, 16)
def h12 : Hint := (.s .z (.s (.s (.j [15, 16, 17, 18, 19, 20, 21, 22, 23, 24, 25, 26, 27, 28, 29, 30, 31, 32, 33, 34, 35, 36, 37, 38, 39, 40, 41, 42, 43, 44, 45, 46] [(0, [(46, .v .bool [])])] .z) .z) (.s .z (.s .z (.s (.s .z (.b (.l [(10, .v (.slice (.int .i64)) [0]), (57, .v (.int .i64) [])] [10, 12, 50, 51, 54, 57, 58, 59, 60, 61, 62, 63, 64, 65, 66, 67, 68, 69, 70, 71] [(2, [(10, .v (.slice (.int .i64)) [0])])] (.s .z (.s .z (.s (.j [10, 12, 59, 60, 61, 62, 63, 64, 65, 66, 67, 68, 69, 70] [(0, [(10, .v (.slice (.int .i64)) [0])])] .z) .z)))))) (.s .z (.s (.s .z (.b (.l [(76, .v (.int .i64) [])] [8, 9, 14, 76, 93] [(1, [(8, .v (.int .i64) []), (9, .v (.int .i64) [])]), (4, [])] (.s .z (.s .z (.s (.b (.s .z (.s (.j [] [(0, [(93, .v .bool [])])] .z) .z))) .z)))))) .z)))))))
noncomputable def sp12 : Spec fam := ⟨[.v (.slice (.st 1)) [], .v (.st 0) [], .v (.st 1) [], .v (.int .i64) []], [.v (.int .i64) [], .v (.int .i64) []], fun a => plan_Place a.1 a.2.1 a.2.2.1 a.2.2.2.1⟩

def dispatchlaw15_known : Option Bool :=
  (plan_Place [(⟨0, 0, 0, 7, ⟨4, 4⟩⟩ : Plan)] (⟨4, 4⟩ : Vec) (⟨0, 0, 0, 100, ⟨4, 4⟩⟩ : Plan) 5).bind fun x =>
  bif x.2 == 0 then
    some (x.1 == 7)
  else
    some false
def h9 : Hint := .z
noncomputable def sp9 : Spec fam := ⟨[], [.v .bool []], fun _ => dispatchlaw15_known⟩

def dispatchlaw15_within (at_ : Int) (n : Int) : Option Int :=
  (nz n).bind fun _ =>
  (
    bif decide ((Int.tmod at_ n) < 0) then
      let k := w64 ((Int.tmod at_ n) + n)
      some k
    else
      some (Int.tmod at_ n)).bind fun k1 =>
  some k1
def h11 : Hint := (.s .z (.s .z (.s (.j [5] [(0, [(5, .v (.int .i64) [])])] .z) .z)))
noncomputable def sp11 : Spec fam := ⟨[.v (.int .i64) [], .v (.int .i64) []], [.v (.int .i64) []], fun a => dispatchlaw15_within a.1 a.2.1⟩

def dispatchlaw15_good (p : Plan) : Option Plan :=
  (dispatchlaw15_within p.Id 20).bind fun x =>
  (dispatchlaw15_within p.Label 2).bind fun x1 =>
  (dispatchlaw15_within p.From 40).bind fun x2 =>
  (dispatchlaw15_within p.Until 60).bind fun x3 =>
  (dispatchlaw15_within p.Need.Mem 6).bind fun x4 =>
  (dispatchlaw15_within p.Need.Cores 6).bind fun x5 =>
  some (⟨x, x1, x2, x3, ⟨x4, x5⟩⟩ : Plan)
def h10 : Hint := .z
noncomputable def sp10 : Spec fam := ⟨[.v (.st 1) []], [.v (.st 1) []], fun a => dispatchlaw15_good a.1⟩

def dispatchref15_part (n : Int) : Option Bool :=
  bif decide (n ≥ 0) then
    some (decide (n ≤ 1073741824))
  else
    some false
def h26 : Hint := .z
noncomputable def sp26 : Spec fam := ⟨[.v (.int .i64) []], [.v .bool []], fun a => dispatchref15_part a.1⟩

def dispatchref1_Plus (a : Vec) (b : Vec) : Option Vec :=
  some (⟨w64 (a.Mem + b.Mem), w64 (a.Cores + b.Cores)⟩ : Vec)
def h17 : Hint := .z
noncomputable def sp17 : Spec fam := ⟨[.v (.st 0) [], .v (.st 0) []], [.v (.st 0) []], fun a => dispatchref1_Plus a.1 a.2.1⟩

def dispatchref15_At_l1 (l : List Plan) (label : Int) (t : Int) (t1 : Vec × Int) : Option ((Vec × Int) ⊕ Vec) :=
  bif decide (t1.2 < (l.length : Int)) then
    (
      (
        (idx l t1.2).bind fun x =>
        bif x.Label == label then
          (idx l t1.2).bind fun x1 =>
          bif decide (x1.From ≤ t) then
            (idx l t1.2).bind fun x2 =>
            some (decide (t < x2.Until))
          else
            some false
        else
          some false).bind fun q =>
      bif q then
        (idx l t1.2).bind fun x3 =>
        (dispatchref1_Plus t1.1 x3.Need).bind fun x4 =>
        some x4
      else
        some t1.1).bind fun v =>
    some (.inl (v, w64 (t1.2 + 1)))
  else
    some (.inr t1.1)

def dispatchref15_At (l : List Plan) (label : Int) (t : Int) : Option Vec :=
  (loop (dispatchref15_At_l1 l label t) ((⟨0, 0⟩ : Vec), 0)).bind fun v1 =>
  some v1
def h15 : Hint := (.s .z (.s .z (.s (.s .z (.b (.l [(7, .box (.st 0) []), (8, .v (.int .i64) [])] [7, 8, 40] [(2, [(7, .box (.st 0) [])])] (.s .z (.s (.j [7, 40] [(0, [(7, .box (.st 0) [])])] (.b (.s (.j [] [(0, [(40, .v .bool [])])] .z) .z))) .z))))) .z)))
noncomputable def sp15 : Spec fam := ⟨[.v (.slice (.st 1)) [], .v (.int .i64) [], .v (.int .i64) []], [.v (.st 0) []], fun a => dispatchref15_At a.1 a.2.1 a.2.2.1⟩

def dispatchref1_Fits (a : Vec) (b : Vec) : Option Bool :=
  bif decide (a.Mem ≤ b.Mem) then
    some (decide (a.Cores ≤ b.Cores))
  else
    some false
def h16 : Hint := .z
noncomputable def sp16 : Spec fam := ⟨[.v (.st 0) [], .v (.st 0) []], [.v .bool []], fun a => dispatchref1_Fits a.1 a.2.1⟩

def dispatchref15_fits_l1 (l : List Plan) (total : Vec) (p : Plan) (t : Int) (long : Int) (i : Int) : Option (Int ⊕ (Bool ⊕ Unit)) :=
  bif decide (i < (l.length : Int)) then
    (idx l i).bind fun x3 =>
    (
      bif decide (x3.From > t) then
        bif decide ((w64 (x3.From - t)) < long) then
          (dispatchref15_At l p.Label x3.From).bind fun x4 =>
          (dispatchref1_Plus x4 p.Need).bind fun x5 =>
          (dispatchref1_Fits x5 total).bind fun x6 =>
          some (! x6)
        else
          some false
      else
        some false).bind fun q =>
    bif q then
      some (.inr (.inl false))
    else
      some (.inl (w64 (i + 1)))
  else
    some (.inr (.inr ()))

def dispatchref15_fits (l : List Plan) (total : Vec) (p : Plan) (t : Int) (long : Int) : Option Bool :=
  (dispatchref15_At l p.Label t).bind fun x =>
  (dispatchref1_Plus x p.Need).bind fun x1 =>
  (dispatchref1_Fits x1 total).bind fun x2 =>
  bif ! x2 then
    some false
  else
    (loop (dispatchref15_fits_l1 l total p t long) 0).bind fun q0 =>
    match q0 with
    | .inl q1 =>
      some q1
    | .inr _ =>
      some true
def h27 : Hint := (.s .z (.s .z (.s (.s .z (.b (.l [(11, .v (.int .i64) [])] [10, 11, 57] [(1, [(10, .v .bool [])]), (2, [])] (.s .z (.s (.b (.s .z (.s (.j [] [(0, [(57, .v .bool [])])] .z) .z))) .z))))) .z)))
noncomputable def sp27 : Spec fam := ⟨[.v (.slice (.st 1)) [], .v (.st 0) [], .v (.st 1) [], .v (.int .i64) [], .v (.int .i64) []], [.v .bool []], fun a => dispatchref15_fits a.1 a.2.1 a.2.2.1 a.2.2.2.1 a.2.2.2.2.1⟩

def dispatchref15_Place_l1 (l : List Plan) (total : Vec) (p : Plan) (long : Int) (t : Int × Int) : Option ((Int × Int) ⊕ Int) :=
  bif decide (t.2 < (l.length : Int)) then
    (
      (
        bif decide (t.2 ≥ 0) then
          (idx l t.2).bind fun x2 =>
          some x2.Until
        else
          some p.From).bind fun t1 =>
      (
        bif decide (t1 ≥ p.From) then
          bif decide (t1 ≤ 1000000) then
            bif decide ((w64 (t1 + long)) ≤ p.Until) then
              bif decide (t.1 < 0) then
                (dispatchref15_fits l total p t1 long).bind fun x3 =>
                some x3
              else
                bif decide (t1 < t.1) then
                  (dispatchref15_fits l total p t1 long).bind fun x4 =>
                  some x4
                else
                  some false
            else
              some false
          else
            some false
        else
          some false).bind fun q1 =>
      bif q1 then
        some t1
      else
        some t.1).bind fun best =>
    some (.inl (best, w64 (t.2 + 1)))
  else
    some (.inr t.1)

def dispatchref15_Place (l : List Plan) (total : Vec) (p : Plan) (long : Int) : Option (Int × Int) :=
  (
    bif decide (long < 1) then
      some true
    else
      bif decide (long > 1000) then
        some true
      else
        bif decide (p.From < 0) then
          some true
        else
          bif decide (p.From > 1000000) then
            some true
          else
            bif decide (p.Until < 0) then
              some true
            else
              bif decide (p.Until > 1000000) then
                some true
              else
                (dispatchref15_part p.Need.Mem).bind fun x =>
                bif ! x then
                  some true
                else
                  (dispatchref15_part p.Need.Cores).bind fun x1 =>
                  some (! x1)).bind fun q =>
  bif q then
    some (0, 1)
  else
    (loop (dispatchref15_Place_l1 l total p long) ((-1), (-1))).bind fun best1 =>
    bif decide (best1 < 0) then
      some (0, 16)
    else
      some (best1, 0)
def h13 : Hint := (.s .z (.s (.s (.j [] [(0, [(52, .v .bool [])])] .z) .z) (.s .z (.s (.s .z (.b (.l [(10, .v (.int .i64) []), (11, .v (.int .i64) [])] [10, 11, 12, 100] [(2, [(10, .v (.int .i64) [])])] (.s .z (.s (.j [10, 12, 100] [(0, [(10, .v (.int .i64) [])])] (.b (.s .z (.s (.j [12] [(0, [(12, .v (.int .i64) [])])] .z) (.s (.j [] [(0, [(100, .v .bool [])])] .z) .z))))) .z))))) .z))))
noncomputable def sp13 : Spec fam := ⟨[.v (.slice (.st 1)) [], .v (.st 0) [], .v (.st 1) [], .v (.int .i64) []], [.v (.int .i64) [], .v (.int .i64) []], fun a => dispatchref15_Place a.1 a.2.1 a.2.2.1 a.2.2.2.1⟩

def dispatchlaw15_PlanPlaces_l1 (l : List Plan) (t1 : List Plan × Int) : Option ((List Plan × Int) ⊕ List Plan) :=
  bif decide (t1.2 < (l.length : Int)) then
    (idx l t1.2).bind fun x1 =>
    (dispatchlaw15_good x1).bind fun x2 =>
    (app 48 t1.1 [x2]).bind fun l1 =>
    some (.inl (l1, w64 (t1.2 + 1)))
  else
    some (.inr t1.1)

def dispatchlaw15_PlanPlaces (l : List Plan) (total : Vec) (p : Plan) (long : Int) (t : Int) : Option Bool :=
  (dispatchlaw15_known).bind fun x =>
  bif ! x then
    some false
  else
    bif decide ((l.length : Int) > 12) then
      some true
    else
      (loop (dispatchlaw15_PlanPlaces_l1 l) ([], 0)).bind fun x3 =>
      (dispatchlaw15_within total.Mem 12).bind fun x4 =>
      (dispatchlaw15_within total.Cores 12).bind fun x5 =>
      (plan_Place x3 (⟨x4, x5⟩ : Vec) p long).bind fun x6 =>
      (dispatchref15_Place x3 (⟨x4, x5⟩ : Vec) p long).bind fun x7 =>
      (
        bif x6.1 != x7.1 then
          some true
        else
          some (x6.2 != x7.2)).bind fun q =>
      bif q then
        some false
      else
        (dispatchlaw15_good p).bind fun x8 =>
        (dispatchlaw15_within long 20).bind fun x9 =>
        (plan_Place x3 (⟨x4, x5⟩ : Vec) (⟨x8.Id, x8.Label, x8.From, w64 (x8.Until + 40), ⟨x8.Need.Mem, x8.Need.Cores⟩⟩ : Plan) (w64 (1 + x9))).bind fun x10 =>
        (dispatchlaw15_within long 20).bind fun x11 =>
        (dispatchref15_Place x3 (⟨x4, x5⟩ : Vec) (⟨x8.Id, x8.Label, x8.From, w64 (x8.Until + 40), ⟨x8.Need.Mem, x8.Need.Cores⟩⟩ : Plan) (w64 (1 + x11))).bind fun x12 =>
        bif x10.1 == x12.1 then
          bif x10.2 == x12.2 then
            (plan_At x3 0 t).bind fun x13 =>
            (dispatchref15_At x3 0 t).bind fun x14 =>
            bif (x13.Mem == x14.Mem) && (x13.Cores == x14.Cores) then
              (dispatchlaw15_within t 60).bind fun x15 =>
              (plan_At x3 1 x15).bind fun x16 =>
              (dispatchlaw15_within t 60).bind fun x17 =>
              (dispatchref15_At x3 1 x17).bind fun x18 =>
              some ((x16.Mem == x18.Mem) && (x16.Cores == x18.Cores))
            else
              some false
          else
            some false
        else
          some false
def h3 : Hint := (.s .z (.s .z (.s .z (.s .z (.s (.s .z (.b (.l [(11, .v (.slice (.st 1)) [0]), (12, .v (.int .i64) [])] [11, 12] [(2, [(11, .v (.slice (.st 1)) [0])])] .z))) (.s .z (.s .z (.s .z (.s (.s (.j [] [(0, [(67, .v .bool [])])] .z) .z) .z)))))))))
noncomputable def sp3 : Spec fam := ⟨[.v (.slice (.st 1)) [], .v (.st 0) [], .v (.st 1) [], .v (.int .i64) [], .v (.int .i64) []], [.v .bool []], fun a => dispatchlaw15_PlanPlaces a.1 a.2.1 a.2.2.1 a.2.2.2.1 a.2.2.2.2.1⟩

def dispatchlaw15_PlanFits_l4 (x1 : Int) (x2 : Int) (x11 : List Plan) (t2 : Int) : Option (Int ⊕ (Bool ⊕ Unit)) :=
  bif decide (t2 < 110) then
    (plan_At x11 0 t2).bind fun x12 =>
    (dispatchref1_Fits x12 (⟨w64 (1 + x1), w64 (1 + x2)⟩ : Vec)).bind fun x13 =>
    bif ! x13 then
      some (.inr (.inl false))
    else
      some (.inl (w64 (t2 + 1)))
  else
    some (.inr (.inr ()))

def dispatchlaw15_PlanFits_l3 (x1 : Int) (x2 : Int) (t : List Plan × Int) (x4 : Plan) (x6 : Int) (u : Int) (t1 : Bool × Int) : Option ((Bool × Int) ⊕ Bool) :=
  (
    bif decide (t1.2 < (w64 (u + (w64 (1 + x6))))) then
      some t1.1
    else
      some false).bind fun q2 =>
  bif q2 then
    (plan_At t.1 0 t1.2).bind fun x8 =>
    (dispatchref1_Plus x8 x4.Need).bind fun x9 =>
    (dispatchref1_Fits x9 (⟨w64 (1 + x1), w64 (1 + x2)⟩ : Vec)).bind fun ok =>
    some (.inl (ok, w64 (t1.2 + 1)))
  else
    some (.inr t1.1)

def dispatchlaw15_PlanFits_l2 (x1 : Int) (x2 : Int) (t : List Plan × Int) (x4 : Plan) (x6 : Int) (x7 : Int × Int) (u : Int) : Option (Int ⊕ (Bool ⊕ Unit)) :=
  bif decide (u < x7.1) then
    (loop (dispatchlaw15_PlanFits_l3 x1 x2 t x4 x6 u) (true, u)).bind fun ok1 =>
    bif ok1 then
      some (.inr (.inl false))
    else
      some (.inl (w64 (u + 1)))
  else
    some (.inr (.inr ()))

def dispatchlaw15_PlanFits_l1 (l : List Plan) (longs : List Int) (x1 : Int) (x2 : Int) (t : List Plan × Int) : Option ((List Plan × Int) ⊕ (Bool ⊕ List Plan)) :=
  (
    bif decide (t.2 < (l.length : Int)) then
      bif decide (t.2 < (longs.length : Int)) then
        some (decide (t.2 < 10))
      else
        some false
    else
      some false).bind fun q =>
  bif q then
    (
      (idx l t.2).bind fun x3 =>
      (dispatchlaw15_good x3).bind fun x4 =>
      (idx longs t.2).bind fun x5 =>
      (dispatchlaw15_within x5 15).bind fun x6 =>
      (plan_Place t.1 (⟨w64 (1 + x1), w64 (1 + x2)⟩ : Vec) (⟨x4.Id, 0, x4.From, w64 (x4.Until + 20), ⟨x4.Need.Mem, x4.Need.Cores⟩⟩ : Plan) (w64 (1 + x6))).bind fun x7 =>
      bif x7.2 != 0 then
        bif x7.2 != 16 then
          some (.inr false)
        else
          some (.inl (t.1))
      else
        (
          bif decide (x7.1 < x4.From) then
            some true
          else
            some (decide ((w64 (x7.1 + (w64 (1 + x6)))) > (w64 (x4.Until + 20))))).bind fun q1 =>
        bif q1 then
          some (.inr false)
        else
          (loop (dispatchlaw15_PlanFits_l2 x1 x2 t x4 x6 x7) x4.From).bind fun q0 =>
          match q0 with
          | .inl q3 =>
            some (.inr q3)
          | .inr _ =>
            (app 48 t.1 [(⟨t.2, 0, x7.1, w64 (x7.1 + (w64 (1 + x6))), ⟨x4.Need.Mem, x4.Need.Cores⟩⟩ : Plan)]).bind fun l1 =>
            some (.inl l1) : Option (List Plan ⊕ Bool)).bind fun q0 =>
    match q0 with
    | .inl x10 =>
      some (.inl (x10, w64 (t.2 + 1)))
    | .inr q4 =>
      some (.inr (.inl q4))
  else
    some (.inr (.inr (t.1)))

def dispatchlaw15_PlanFits (l : List Plan) (longs : List Int) (total : Vec) : Option Bool :=
  (dispatchlaw15_known).bind fun x =>
  bif ! x then
    some false
  else
    (dispatchlaw15_within total.Mem 10).bind fun x1 =>
    (dispatchlaw15_within total.Cores 10).bind fun x2 =>
    (loop (dispatchlaw15_PlanFits_l1 l longs x1 x2) ([], 0)).bind fun q0 =>
    match q0 with
    | .inl q5 =>
      some q5
    | .inr x11 =>
      (loop (dispatchlaw15_PlanFits_l4 x1 x2 x11) 0).bind fun q0 =>
      match q0 with
      | .inl q6 =>
        some q6
      | .inr _ =>
        some true
def h4 : Hint := (.s .z (.s .z (.s .z (.s .z (.s (.s .z (.b (.l [(7, .v (.slice (.st 1)) [0]), (8, .v (.int .i64) [])] [6, 7, 8, 9, 10, 11, 12, 13, 14, 15, 41, 83, 99] [(1, [(6, .v .bool [])]), (2, [(7, .v (.slice (.st 1)) [0])])] (.s (.s (.j [] [(0, [(41, .v .bool [])])] .z) .z) (.s (.j [6, 7, 9, 10, 11, 12, 13, 14, 15, 83, 99] [(0, [(7, .v (.slice (.st 1)) [0])]), (1, [(6, .v .bool [])])] (.b (.s .z (.s .z (.s .z (.s .z (.s .z (.s (.s (.j [] [(0, [(83, .v .bool [])])] .z) .z) (.s (.s .z (.b (.l [(13, .v (.int .i64) [])] [6, 13, 14, 15, 99] [(1, [(6, .v .bool [])]), (4, [])] (.s .z (.s (.b (.s .z (.s (.s .z (.b (.l [(14, .v .bool []), (15, .v (.int .i64) [])] [14, 15, 99] [(6, [(14, .v .bool [])])] (.s (.s (.j [] [(0, [(99, .v .bool [])])] .z) .z) .z)))) .z))) .z))))) .z))))))))) .z))))) (.s (.s .z (.b (.l [(16, .v (.int .i64) [])] [6, 16] [(1, [(6, .v .bool [])]), (8, [])] .z))) .z))))))
noncomputable def sp4 : Spec fam := ⟨[.v (.slice (.st 1)) [], .v (.slice (.int .i64)) [], .v (.st 0) []], [.v .bool []], fun a => dispatchlaw15_PlanFits a.1 a.2.1 a.2.2.1⟩

def dispatchlaw15_PlanGaps_l1 (gaps : List Int) (x1 : Int) (t : List Plan × Int × Int × Int) : Option ((List Plan × Int × Int × Int) ⊕ ((List Plan × Int × Int))) :=
  (
    bif decide (t.2.2.2 < (gaps.length : Int)) then
      some (decide (t.2.2.2 < 8))
    else
      some false).bind fun q =>
  bif q then
    (idx gaps t.2.2.2).bind fun x2 =>
    (dispatchlaw15_within x2 12).bind fun g =>
    (
      (
        bif decide (g ≥ (w64 (1 + x1))) then
          some (decide (t.2.2.1 < 0))
        else
          some false).bind fun q1 =>
      bif q1 then
        some t.2.1
      else
        some t.2.2.1).bind fun want =>
    (app 48 t.1 [(⟨t.2.2.2, 0, w64 (t.2.1 + g), w64 ((w64 (t.2.1 + g)) + 3), ⟨3, 3⟩⟩ : Plan)]).bind fun l =>
    let t1 := w64 ((w64 (t.2.1 + g)) + 3)
    some (.inl (l, t1, want, w64 (t.2.2.2 + 1)))
  else
    some (.inr (t.1, t.2.1, t.2.2.1))

def dispatchlaw15_PlanGaps (gaps : List Int) (long : Int) : Option Bool :=
  (dispatchlaw15_known).bind fun x =>
  bif ! x then
    some false
  else
    (dispatchlaw15_within long 12).bind fun x1 =>
    (loop (dispatchlaw15_PlanGaps_l1 gaps x1) ([], 0, (-1), 0)).bind fun q2 =>
    (
      bif decide (q2.2.2 < 0) then
        some q2.2.1
      else
        some q2.2.2).bind fun want1 =>
    (plan_Place q2.1 (⟨3, 3⟩ : Vec) (⟨0, 0, 0, 200, ⟨1, 1⟩⟩ : Plan) (w64 (1 + x1))).bind fun x3 =>
    (plan_Place q2.1 (⟨3, 3⟩ : Vec) (⟨0, 0, 0, w64 ((w64 (want1 + (w64 (1 + x1)))) - 1), ⟨3, 3⟩⟩ : Plan) (w64 (1 + x1))).bind fun x4 =>
    (plan_Place q2.1 (⟨3, 3⟩ : Vec) (⟨0, 0, 0, w64 (want1 + (w64 (1 + x1))), ⟨3, 3⟩⟩ : Plan) (w64 (1 + x1))).bind fun x5 =>
    bif x3.2 == 0 then
      bif x3.1 == want1 then
        bif x4.2 == 16 then
          bif x5.2 == 0 then
            some (x5.1 == want1)
          else
            some false
        else
          some false
      else
        some false
    else
      some false
def h5 : Hint := (.s .z (.s .z (.s .z (.s .z (.s .z (.s .z (.s (.s .z (.b (.l [(6, .v (.slice (.st 1)) [0]), (7, .v (.int .i64) []), (8, .v (.int .i64) []), (9, .v (.int .i64) [])] [6, 7, 8, 9, 10, 30, 44] [(2, [(6, .v (.slice (.st 1)) [0]), (7, .v (.int .i64) []), (8, .v (.int .i64) [])])] (.s (.s (.j [] [(0, [(30, .v .bool [])])] .z) .z) (.s (.b (.s .z (.s (.j [8, 44] [(0, [(8, .v (.int .i64) [])])] (.s (.j [] [(0, [(44, .v .bool [])])] .z) .z)) .z))) .z))))) (.s (.j [8] [(0, [(8, .v (.int .i64) [])])] .z) .z))))))))
noncomputable def sp5 : Spec fam := ⟨[.v (.slice (.int .i64)) [], .v (.int .i64) []], [.v .bool []], fun a => dispatchlaw15_PlanGaps a.1 a.2.1⟩

def dispatchref19_New : Option State :=
  some (⟨⟨[([] : List UInt8)], [(⟨([114, 111, 111, 116] : List UInt8), [(⟨10000, 10000⟩ : Cap)], 10000⟩ : Queue)]⟩, [], [], [], [], [], 0, 0, 0⟩ : State)
def h18 : Hint := .z
noncomputable def sp18 : Spec fam := ⟨[], [.v (.st 10) [0, 1, 2, 3, 4, 5, 6]], fun _ => dispatchref19_New⟩

def slices_Clone___string_string__ne (s : List (List UInt8)) : Option (List (List UInt8)) :=
  bif s.isEmpty then
    none
  else
    (app 16 [] s).bind fun l =>
    some l

def slices_Clone___string_string_ (s : List (List UInt8)) : Option (List (List UInt8)) := app 16 [] s
def h67 : Hint := .z
noncomputable def sp67 : Spec fam := ⟨[.v (.slice (.str)) []], [.v (.slice (.str)) [0]], fun a => slices_Clone___string_string_ a.1⟩

noncomputable def sp67_ne : Spec fam := ⟨[.v (.slice (.str)) []], [.v (.slice (.str)) [0]], fun a => slices_Clone___string_string__ne a.1⟩

def api_Queue__ne (s : List Queue) : Option (List Queue) :=
  bif s.isEmpty then
    none
  else
    (app 48 [] s).bind fun l =>
    some l

def api_Queue_ (s : List Queue) : Option (List Queue) := app 48 [] s
def h68 : Hint := .z
noncomputable def sp68 : Spec fam := ⟨[.v (.slice (.st 3)) []], [.v (.slice (.st 3)) [0]], fun a => api_Queue_ a.1⟩

noncomputable def sp68_ne : Spec fam := ⟨[.v (.slice (.st 3)) []], [.v (.slice (.st 3)) [0]], fun a => api_Queue__ne a.1⟩

def api_Cap__ne (s : List Cap) : Option (List Cap) :=
  bif s.isEmpty then
    none
  else
    (app 16 [] s).bind fun l =>
    some l

def api_Cap_ (s : List Cap) : Option (List Cap) := app 16 [] s
def h69 : Hint := .z
noncomputable def sp69 : Spec fam := ⟨[.v (.slice (.st 2)) []], [.v (.slice (.st 2)) [0]], fun a => api_Cap_ a.1⟩

noncomputable def sp69_ne : Spec fam := ⟨[.v (.slice (.st 2)) []], [.v (.slice (.st 2)) [0]], fun a => api_Cap__ne a.1⟩

def api_Node__ne (s : List Node) : Option (List Node) :=
  bif s.isEmpty then
    none
  else
    (app 64 [] s).bind fun l =>
    some l

def api_Node_ (s : List Node) : Option (List Node) := app 64 [] s
def h70 : Hint := .z
noncomputable def sp70 : Spec fam := ⟨[.v (.slice (.st 5)) []], [.v (.slice (.st 5)) [0]], fun a => api_Node_ a.1⟩

noncomputable def sp70_ne : Spec fam := ⟨[.v (.slice (.st 5)) []], [.v (.slice (.st 5)) [0]], fun a => api_Node__ne a.1⟩

def api_Cont__ne (s : List Cont) : Option (List Cont) :=
  bif s.isEmpty then
    none
  else
    (app 72 [] s).bind fun l =>
    some l

def api_Cont_ (s : List Cont) : Option (List Cont) := app 72 [] s
def h71 : Hint := .z
noncomputable def sp71 : Spec fam := ⟨[.v (.slice (.st 8)) []], [.v (.slice (.st 8)) [0]], fun a => api_Cont_ a.1⟩

noncomputable def sp71_ne : Spec fam := ⟨[.v (.slice (.st 8)) []], [.v (.slice (.st 8)) [0]], fun a => api_Cont__ne a.1⟩

def api_Slot__ne (s : List Slot) : Option (List Slot) :=
  bif s.isEmpty then
    none
  else
    (app 24 [] s).bind fun l =>
    some l

def api_Slot_ (s : List Slot) : Option (List Slot) := app 24 [] s
def h72 : Hint := .z
noncomputable def sp72 : Spec fam := ⟨[.v (.slice (.st 9)) []], [.v (.slice (.st 9)) [0]], fun a => api_Slot_ a.1⟩

noncomputable def sp72_ne : Spec fam := ⟨[.v (.slice (.st 9)) []], [.v (.slice (.st 9)) [0]], fun a => api_Slot__ne a.1⟩

def api_Plan__ne (s : List Plan) : Option (List Plan) :=
  bif s.isEmpty then
    none
  else
    (app 48 [] s).bind fun l =>
    some l

def api_Plan_ (s : List Plan) : Option (List Plan) := app 48 [] s
def h73 : Hint := .z
noncomputable def sp73 : Spec fam := ⟨[.v (.slice (.st 1)) []], [.v (.slice (.st 1)) [0]], fun a => api_Plan_ a.1⟩

noncomputable def sp73_ne : Spec fam := ⟨[.v (.slice (.st 1)) []], [.v (.slice (.st 1)) [0]], fun a => api_Plan__ne a.1⟩

def api_App__ne (s : List App) : Option (List App) :=
  bif s.isEmpty then
    none
  else
    (app 200 [] s).bind fun l =>
    some l

def api_App_ (s : List App) : Option (List App) := app 200 [] s
def h74 : Hint := .z
noncomputable def sp74 : Spec fam := ⟨[.v (.slice (.st 7)) []], [.v (.slice (.st 7)) [0]], fun a => api_App_ a.1⟩

noncomputable def sp74_ne : Spec fam := ⟨[.v (.slice (.st 7)) []], [.v (.slice (.st 7)) [0]], fun a => api_App__ne a.1⟩

def api_Ask__ne (s : List Ask) : Option (List Ask) :=
  bif s.isEmpty then
    none
  else
    (app 64 [] s).bind fun l =>
    some l

def api_Ask_ (s : List Ask) : Option (List Ask) := app 64 [] s
def h86 : Hint := .z
noncomputable def sp86 : Spec fam := ⟨[.v (.slice (.st 6)) []], [.v (.slice (.st 6)) [0]], fun a => api_Ask_ a.1⟩

noncomputable def sp86_ne : Spec fam := ⟨[.v (.slice (.st 6)) []], [.v (.slice (.st 6)) [0]], fun a => api_Ask__ne a.1⟩

def apps_ints (l : List Int) : Option (List Int) :=
  (mkl 8 (l.length : Int) (l.length : Int) 0).bind fun l1 =>
  some (cpy l1 0 l1.length l)
def h87 : Hint := .z
noncomputable def sp87 : Spec fam := ⟨[.v (.slice (.int .i64)) []], [.v (.slice (.int .i64)) [0]], fun a => apps_ints a.1⟩

def apps_app (a : App) : Option App :=
  (api_Ask_ a.Asks).bind fun x =>
  (apps_ints a.Grants).bind fun x1 =>
  (apps_ints a.Kills).bind fun x2 =>
  (apps_ints a.Told).bind fun x3 =>
  (apps_ints a.Lost).bind fun x4 =>
  some (⟨a.Id, a.State, a.Queue, a.User, a.Prio, ⟨a.Master.Mem, a.Master.Cores⟩, x, a.Seen, a.Beat, x1, x2, x3, x4⟩ : App)
def h75 : Hint := .z
noncomputable def sp75 : Spec fam := ⟨[.v (.st 7) []], [.v (.st 7) [7, 10, 11, 12, 13]], fun a => apps_app a.1⟩

def apps_own_l2 (x9 : List App) (t1 : List App × Int) : Option ((List App × Int) ⊕ List App) :=
  bif decide (t1.2 < (x9.length : Int)) then
    (inb t1.2 t1.1.length).bind fun i2 =>
    (t1.1[i2]?).bind fun x10 =>
    (apps_app x10).bind fun x11 =>
    (inb t1.2 t1.1.length).bind fun i3 =>
    (t1.1[i3]?).bind fun x12 =>
    some (.inl (List.set t1.1 i3 x11, w64 (t1.2 + 1)))
  else
    some (.inr t1.1)

def apps_own_l1 (x1 : List Queue) (t : List Queue × Int) : Option ((List Queue × Int) ⊕ List Queue) :=
  bif decide (t.2 < (x1.length : Int)) then
    (inb t.2 t.1.length).bind fun i =>
    (t.1[i]?).bind fun x2 =>
    (api_Cap_ x2.Caps).bind fun x3 =>
    (inb t.2 t.1.length).bind fun i1 =>
    (t.1[i1]?).bind fun x4 =>
    some (.inl (List.set t.1 i1 (⟨x4.Path, x3, x4.User⟩ : Queue), w64 (t.2 + 1)))
  else
    some (.inr t.1)

def apps_own (s : State) : Option State :=
  (slices_Clone___string_string_ s.Conf.Labels).bind fun x =>
  (api_Queue_ s.Conf.Queues).bind fun x1 =>
  (loop (apps_own_l1 x1) (x1, 0)).bind fun q =>
  (api_Node_ s.Nodes).bind fun x5 =>
  (api_Cont_ s.Conts).bind fun x6 =>
  (api_Slot_ s.Slots).bind fun x7 =>
  (api_Plan_ s.Plans).bind fun x8 =>
  (api_App_ s.Apps).bind fun x9 =>
  (loop (apps_own_l2 x9) (x9, 0)).bind fun q1 =>
  some (⟨⟨x, q⟩, x5, q1, x6, x7, x8, s.Now, s.Epoch, s.Seq⟩ : State)
def h45 : Hint := (.s .z (.s .z (.s (.s .z (.b (.l [(14, .row (.st 3) false), (23, .v (.int .i64) [])] [3, 4, 14, 23, 24, 25, 26, 27, 28, 29, 30, 31, 32, 33, 34, 35, 36, 37] [(2, [(14, .row (.st 3) false)])] .z))) (.s .z (.s .z (.s (.s .z (.b (.l [(56, .row (.st 7) false), (61, .v (.int .i64) [])] [5, 6, 56, 61] [(4, [(56, .row (.st 7) false)])] .z))) .z))))))
noncomputable def sp45 : Spec fam := ⟨[.v (.st 10) []], [.v (.st 10) [0, 1, 2, 3, 4, 5, 6]], fun a => apps_own a.1⟩

def api_Cont__46_l1 (s : List Cont) (f : (TupT fam [.st 8] → Option Bool)) (t : Int) : Option (Int ⊕ (Int ⊕ Unit)) :=
  bif decide (t < (s.length : Int)) then
    (idx s t).bind fun x =>
    (f (x, ())).bind fun r =>
    bif r then
      some (.inr (.inl t))
    else
      some (.inl (w64 (t + 1)))
  else
    some (.inr (.inr ()))

def api_Cont__46 (s : List Cont) (f : (TupT fam [.st 8] → Option Bool)) : Option Int :=
  (loop (api_Cont__46_l1 s f) 0).bind fun q0 =>
  match q0 with
  | .inl q =>
    some q
  | .inr _ =>
    some (-1)
def h46 : Hint := (.s .z (.s (.s .z (.b (.l [(8, .v (.int .i64) [])] [4, 5, 8] [(1, [(4, .v (.int .i64) [])]), (2, [])] .z))) .z))
noncomputable def sp46 : Spec fam := ⟨[.v (.slice (.st 8)) [], .fn [.st 8] .bool], [.v (.int .i64) []], fun a => api_Cont__46 a.1 a.2.1⟩

def apps_Lose_1 (c : Cont) (p : Int) : Option Bool :=
  some (c.Id == p)
def h47 : Hint := .z
noncomputable def sp47 : Spec fam := ⟨[.v (.st 8) [], .rp (.int .i64)], [.v .bool []], fun a => apps_Lose_1 a.1 a.2.1⟩

def api_App__76_l1 (s : List App) (f : (TupT fam [.st 7] → Option Bool)) (t : Int) : Option (Int ⊕ (Int ⊕ Unit)) :=
  bif decide (t < (s.length : Int)) then
    (idx s t).bind fun x =>
    (f (x, ())).bind fun r =>
    bif r then
      some (.inr (.inl t))
    else
      some (.inl (w64 (t + 1)))
  else
    some (.inr (.inr ()))

def api_App__76 (s : List App) (f : (TupT fam [.st 7] → Option Bool)) : Option Int :=
  (loop (api_App__76_l1 s f) 0).bind fun q0 =>
  match q0 with
  | .inl q =>
    some q
  | .inr _ =>
    some (-1)
def h76 : Hint := (.s .z (.s (.s .z (.b (.l [(8, .v (.int .i64) [])] [4, 5, 8] [(1, [(4, .v (.int .i64) [])]), (2, [])] .z))) .z))
noncomputable def sp76 : Spec fam := ⟨[.v (.slice (.st 7)) [], .fn [.st 7] .bool], [.v (.int .i64) []], fun a => api_App__76 a.1 a.2.1⟩

def apps_at_1 (a : App) (p : Int) : Option Bool :=
  some (a.Id == p)
def h77 : Hint := .z
noncomputable def sp77 : Spec fam := ⟨[.v (.st 7) [], .rp (.int .i64)], [.v .bool []], fun a => apps_at_1 a.1 a.2.1⟩

def apps_at (s : State) (id_ : Int) : Option Int :=
  (api_App__76 s.Apps (fun a' => apps_at_1 a'.1 id_)).bind fun x =>
  some x
def h48 : Hint := .z
noncomputable def sp48 : Spec fam := ⟨[.v (.st 10) [], .v (.int .i64) []], [.v (.int .i64) []], fun a => apps_at a.1 a.2.1⟩

def api_Ask__99_l1 (s : List Ask) (f : (TupT fam [.st 6] → Option Bool)) (t : Int) : Option (Int ⊕ (Int ⊕ Unit)) :=
  bif decide (t < (s.length : Int)) then
    (idx s t).bind fun x =>
    (f (x, ())).bind fun r =>
    bif r then
      some (.inr (.inl t))
    else
      some (.inl (w64 (t + 1)))
  else
    some (.inr (.inr ()))

def api_Ask__99 (s : List Ask) (f : (TupT fam [.st 6] → Option Bool)) : Option Int :=
  (loop (api_Ask__99_l1 s f) 0).bind fun q0 =>
  match q0 with
  | .inl q =>
    some q
  | .inr _ =>
    some (-1)
def h99 : Hint := (.s .z (.s (.s .z (.b (.l [(8, .v (.int .i64) [])] [4, 5, 8] [(1, [(4, .v (.int .i64) [])]), (2, [])] .z))) .z))
noncomputable def sp99 : Spec fam := ⟨[.v (.slice (.st 6)) [], .fn [.st 6] .bool], [.v (.int .i64) []], fun a => api_Ask__99 a.1 a.2.1⟩

def api_Ask__94_l1 (del : (TupT fam [.st 6] → Option Bool)) (t : List Ask × Int × Int) : Option ((List Ask × Int × Int) ⊕ ((List Ask × Int))) :=
  bif decide (t.2.2 < (t.1.length : Int)) then
    (
      (inb t.2.2 t.1.length).bind fun i1 =>
      (t.1[i1]?).bind fun x =>
      (del (x, ())).bind fun r =>
      bif ! r then
        (inb t.2.1 t.1.length).bind fun i2 =>
        (t.1[i2]?).bind fun x1 =>
        some (List.set t.1 i2 x, w64 (t.2.1 + 1))
      else
        some (t.1, t.2.1)).bind fun q =>
    some (.inl (q.1, q.2, w64 (t.2.2 + 1)))
  else
    some (.inr (t.1, t.2.1))

def api_Ask__94 (s : List Ask) (del : (TupT fam [.st 6] → Option Bool)) : Option (List Ask) :=
  (api_Ask__99 s del).bind fun i =>
  bif i == (-1) then
    some s
  else
    (loop (api_Ask__94_l1 del) (s, i, w64 (i + 1))).bind fun q1 =>
    (inS q1.2 (q1.1.length : Int) q1.1.length).bind fun p =>
    none
def h94 : Hint := (.s .z (.s .z (.s .z (.s (.s .z (.b (.l [(0, .row (.st 6) false), (5, .v (.int .i64) []), (6, .v (.int .i64) [])] [0, 5, 6, 7] [(2, [(0, .row (.st 6) false), (5, .v (.int .i64) [])])] (.s .z (.s (.j [0, 5, 7] [(0, [(0, .row (.st 6) false), (5, .v (.int .i64) [])])] .z) .z))))) .z))))
noncomputable def sp94 : Spec fam := ⟨[.v (.slice (.st 6)) [0], .fn [.st 6] .bool], [.v (.slice (.st 6)) [0]], fun a => api_Ask__94 a.1 a.2.1⟩

def asks_own (l : List Ask) : Option (List Ask) :=
  (mkl 64 (l.length : Int) (l.length : Int) (⟨0, 0, ⟨0, 0⟩, 0, 0, 0, 0⟩ : Ask)).bind fun l1 =>
  some (cpy l1 0 l1.length l)
def h95 : Hint := .z
noncomputable def sp95 : Spec fam := ⟨[.v (.slice (.st 6)) []], [.v (.slice (.st 6)) [0]], fun a => asks_own a.1⟩

def asks_Set_1 (x : Ask) (p : Ask) : Option Bool :=
  some (x.Prio == p.Prio)
def h96 : Hint := .z
noncomputable def sp96 : Spec fam := ⟨[.v (.st 6) [], .rp (.st 6)], [.v .bool []], fun a => asks_Set_1 a.1 a.2.1⟩

def api_Ask__103_l1 (t : List Ask × Int × Int) : Option ((List Ask × Int × Int) ⊕ List Ask) :=
  bif decide (t.2.1 < t.2.2) then
    (inb t.2.2 t.1.length).bind fun i =>
    (t.1[i]?).bind fun x =>
    (inb t.2.1 t.1.length).bind fun i1 =>
    (t.1[i1]?).bind fun x1 =>
    (inb t.2.1 t.1.length).bind fun i2 =>
    (t.1[i2]?).bind fun x2 =>
    (inb t.2.2 (List.set t.1 i2 x).length).bind fun i3 =>
    ((List.set t.1 i2 x)[i3]?).bind fun x3 =>
    some (.inl (List.set (List.set t.1 i2 x) i3 x1, w64 (t.2.1 + 1), w64 (t.2.2 - 1)))
  else
    some (.inr t.1)

def api_Ask__103 (s : List Ask) : Option (List Ask) :=
  let j := w64 ((s.length : Int) - 1)
  (loop api_Ask__103_l1 (s, 0, j)).bind fun s1 =>
  some s1
def h103 : Hint := (.s .z (.b (.l [(0, .row (.st 6) false), (2, .v (.int .i64) []), (3, .v (.int .i64) [])] [0, 2, 3] [(2, [(0, .row (.st 6) false)])] .z)))
noncomputable def sp103 : Spec fam := ⟨[.row (.st 6) false], [], fun a => api_Ask__103 a.1⟩

def api_Ask__102 (s : List Ask) (r : Int) : Option Unit :=
  (slc s 0 r).bind fun l =>
  none
def h102 : Hint := .z
noncomputable def sp102 : Spec fam := ⟨[.v (.slice (.st 6)) [], .v (.int .i64) []], [], fun a => api_Ask__102 a.1 a.2.1⟩

def api_Ask__101 (s : List Ask) (r : Int) : Option Unit :=
  (api_Ask__102 s (w64 ((s.length : Int) - r))).bind fun _ =>
  some ()
def h101 : Hint := .z
noncomputable def sp101 : Spec fam := ⟨[.v (.slice (.st 6)) [], .v (.int .i64) []], [], fun a => api_Ask__101 a.1 a.2.1⟩

def api_Ask__97 (s : List Ask) (i : Int) (v : List Ask) : Option (List Ask) :=
  (inS i (s.length : Int) s.length).bind fun p =>
  bif (v.length : Int) == 0 then
    some s
  else
    bif i == (s.length : Int) then
      (app 64 s v).bind fun l =>
      some l
    else
      none
def h97 : Hint := .z
noncomputable def sp97 : Spec fam := ⟨[.v (.slice (.st 6)) [0], .v (.int .i64) [], .v (.slice (.st 6)) []], [.v (.slice (.st 6)) [0]], fun a => api_Ask__97 a.1 a.2.1 a.2.2.1⟩

def asks_Set_l1 (a : Ask) (out : List Ask) (k : Int) : Option (Int ⊕ Int) :=
  (
    bif decide (k < (out.length : Int)) then
      (inb k out.length).bind fun i =>
      (out[i]?).bind fun x1 =>
      some (decide (x1.Prio < a.Prio))
    else
      some false).bind fun q =>
  bif q then
    some (.inl (w64 (k + 1)))
  else
    some (.inr k)

def asks_Set (l : List Ask) (a : Ask) : Option (List Ask × Int) :=
  (asks_own l).bind fun x =>
  (api_Ask__94 x (fun a' => asks_Set_1 a'.1 a)).bind fun out =>
  bif a.Count == 0 then
    some (out, 0)
  else
    bif decide ((out.length : Int) ≥ 8) then
      some ([], 4)
    else
      (loop (asks_Set_l1 a out) 0).bind fun k1 =>
      (api_Ask__97 out k1 [(⟨a.Prio, a.Label, ⟨a.Size.Mem, a.Size.Cores⟩, a.Count, a.Node, a.Rack, 0⟩ : Ask)]).bind fun x2 =>
      some (x2, 0)
def h88 : Hint := (.s .z (.s .z (.s .z (.s .z (.s .z (.s .z (.s (.b (.l [(7, .v (.int .i64) [])] [7, 33] [(2, [(7, .v (.int .i64) [])])] (.s (.s (.j [] [(0, [(33, .v .bool [])])] .z) .z) .z))) .z)))))))
noncomputable def sp88 : Spec fam := ⟨[.v (.slice (.st 6)) [], .v (.st 6) []], [.v (.slice (.st 6)) [0], .v (.int .i64) []], fun a => asks_Set a.1 a.2.1⟩

def apps_first (a : App) : Option (List Ask) :=
  (asks_Set [] (⟨0, 0, ⟨a.Master.Mem, a.Master.Cores⟩, 1, (-1), (-1), 0⟩ : Ask)).bind fun x =>
  some x.1
def h78 : Hint := .z
noncomputable def sp78 : Spec fam := ⟨[.v (.st 7) []], [.v (.slice (.st 6)) [0]], fun a => apps_first a.1⟩

def api_Cont__89_l1 (del : (TupT fam [.st 8] → Option Bool)) (t : List Cont × Int × Int) : Option ((List Cont × Int × Int) ⊕ ((List Cont × Int))) :=
  bif decide (t.2.2 < (t.1.length : Int)) then
    (
      (inb t.2.2 t.1.length).bind fun i1 =>
      (t.1[i1]?).bind fun x =>
      (del (x, ())).bind fun r =>
      bif ! r then
        (inb t.2.1 t.1.length).bind fun i2 =>
        (t.1[i2]?).bind fun x1 =>
        some (List.set t.1 i2 x, w64 (t.2.1 + 1))
      else
        some (t.1, t.2.1)).bind fun q =>
    some (.inl (q.1, q.2, w64 (t.2.2 + 1)))
  else
    some (.inr (t.1, t.2.1))

def api_Cont__89 (s : List Cont) (del : (TupT fam [.st 8] → Option Bool)) : Option (List Cont) :=
  (api_Cont__46 s del).bind fun i =>
  bif i == (-1) then
    some s
  else
    (loop (api_Cont__89_l1 del) (s, i, w64 (i + 1))).bind fun q1 =>
    (inS q1.2 (q1.1.length : Int) q1.1.length).bind fun p =>
    none
def h89 : Hint := (.s .z (.s .z (.s .z (.s (.s .z (.b (.l [(0, .row (.st 8) false), (5, .v (.int .i64) []), (6, .v (.int .i64) [])] [0, 5, 6, 7] [(2, [(0, .row (.st 8) false), (5, .v (.int .i64) [])])] (.s .z (.s (.j [0, 5, 7] [(0, [(0, .row (.st 8) false), (5, .v (.int .i64) [])])] .z) .z))))) .z))))
noncomputable def sp89 : Spec fam := ⟨[.v (.slice (.st 8)) [0], .fn [.st 8] .bool], [.v (.slice (.st 8)) [0]], fun a => api_Cont__89 a.1 a.2.1⟩

def apps_strip_1 (c : Cont) (p : Int) (p1 : List Int) : Option (Bool × List Int) :=
  (
    bif c.App == p then
      (app 8 p1 [c.Id]).bind fun l =>
      some l
    else
      some p1).bind fun q =>
  some (c.App == p, q)
def h90 : Hint := (.s .z (.s (.j [2] [(0, [(2, .box (.slice (.int .i64)) [0])])] .z) .z))
noncomputable def sp90 : Spec fam := ⟨[.v (.st 8) [], .rp (.int .i64), .box (.slice (.int .i64)) [0]], [.v .bool []], fun a => apps_strip_1 a.1 a.2.1 a.2.2.1⟩

def api_Slot__98_l1 (s : List Slot) (f : (TupT fam [.st 9] → Option Bool)) (t : Int) : Option (Int ⊕ (Int ⊕ Unit)) :=
  bif decide (t < (s.length : Int)) then
    (idx s t).bind fun x =>
    (f (x, ())).bind fun r =>
    bif r then
      some (.inr (.inl t))
    else
      some (.inl (w64 (t + 1)))
  else
    some (.inr (.inr ()))

def api_Slot__98 (s : List Slot) (f : (TupT fam [.st 9] → Option Bool)) : Option Int :=
  (loop (api_Slot__98_l1 s f) 0).bind fun q0 =>
  match q0 with
  | .inl q =>
    some q
  | .inr _ =>
    some (-1)
def h98 : Hint := (.s .z (.s (.s .z (.b (.l [(8, .v (.int .i64) [])] [4, 5, 8] [(1, [(4, .v (.int .i64) [])]), (2, [])] .z))) .z))
noncomputable def sp98 : Spec fam := ⟨[.v (.slice (.st 9)) [], .fn [.st 9] .bool], [.v (.int .i64) []], fun a => api_Slot__98 a.1 a.2.1⟩

def api_Slot__91_l1 (del : (TupT fam [.st 9] → Option Bool)) (t : List Slot × Int × Int) : Option ((List Slot × Int × Int) ⊕ ((List Slot × Int))) :=
  bif decide (t.2.2 < (t.1.length : Int)) then
    (
      (inb t.2.2 t.1.length).bind fun i1 =>
      (t.1[i1]?).bind fun x =>
      (del (x, ())).bind fun r =>
      bif ! r then
        (inb t.2.1 t.1.length).bind fun i2 =>
        (t.1[i2]?).bind fun x1 =>
        some (List.set t.1 i2 x, w64 (t.2.1 + 1))
      else
        some (t.1, t.2.1)).bind fun q =>
    some (.inl (q.1, q.2, w64 (t.2.2 + 1)))
  else
    some (.inr (t.1, t.2.1))

def api_Slot__91 (s : List Slot) (del : (TupT fam [.st 9] → Option Bool)) : Option (List Slot) :=
  (api_Slot__98 s del).bind fun i =>
  bif i == (-1) then
    some s
  else
    (loop (api_Slot__91_l1 del) (s, i, w64 (i + 1))).bind fun q1 =>
    (inS q1.2 (q1.1.length : Int) q1.1.length).bind fun p =>
    none
def h91 : Hint := (.s .z (.s .z (.s .z (.s (.s .z (.b (.l [(0, .row (.st 9) false), (5, .v (.int .i64) []), (6, .v (.int .i64) [])] [0, 5, 6, 7] [(2, [(0, .row (.st 9) false), (5, .v (.int .i64) [])])] (.s .z (.s (.j [0, 5, 7] [(0, [(0, .row (.st 9) false), (5, .v (.int .i64) [])])] .z) .z))))) .z))))
noncomputable def sp91 : Spec fam := ⟨[.v (.slice (.st 9)) [0], .fn [.st 9] .bool], [.v (.slice (.st 9)) [0]], fun a => api_Slot__91 a.1 a.2.1⟩

def apps_strip_2 (x : Slot) (p : Int) : Option Bool :=
  some (x.App == p)
def h92 : Hint := .z
noncomputable def sp92 : Spec fam := ⟨[.v (.st 9) [], .rp (.int .i64)], [.v .bool []], fun a => apps_strip_2 a.1 a.2.1⟩

def apps_strip (s : State) (id_ : Int) : Option (State × List Int) :=
  none
def h79 : Hint := .z
noncomputable def sp79 : Spec fam := ⟨[.v (.st 10) [], .v (.int .i64) []], [.v (.st 10) [0, 1, 2, 3, 4, 5, 6], .v (.slice (.int .i64)) [0]], fun a => apps_strip a.1 a.2.1⟩

def apps_master (s : State) (i : Int) : Option State :=
  (inb i s.Apps.length).bind fun i1 =>
  (s.Apps[i1]?).bind fun x =>
  (apps_first x).bind fun x1 =>
  (inb i s.Apps.length).bind fun i2 =>
  (s.Apps[i2]?).bind fun x2 =>
  (apps_strip (⟨⟨s.Conf.Labels, s.Conf.Queues⟩, s.Nodes, List.set s.Apps i2 (⟨x.Id, 1, x.Queue, x.User, x.Prio, ⟨x.Master.Mem, x.Master.Cores⟩, x1, s.Now, 0, [], [], [], []⟩ : App), s.Conts, s.Slots, s.Plans, s.Now, s.Epoch, s.Seq⟩ : State) x.Id).bind fun x3 =>
  some x3.1
def h49 : Hint := .z
noncomputable def sp49 : Spec fam := ⟨[.v (.st 10) [0, 1, 2, 3, 4, 5, 6], .v (.int .i64) []], [.v (.st 10) [0, 1, 2, 3, 4, 5, 6]], fun a => apps_master a.1 a.2.1⟩

def api_Cont__50 (s : List Cont) (i : Int) (j : Int) : Option (List Cont) := del s i j
def h50 : Hint := .z
noncomputable def sp50 : Spec fam := ⟨[.v (.slice (.st 8)) [0], .v (.int .i64) [], .v (.int .i64) []], [.v (.slice (.st 8)) [0]], fun a => api_Cont__50 a.1 a.2.1 a.2.2.1⟩

def slices_Index___int_int__l1 (s : List Int) (v : Int) (t : Int) : Option (Int ⊕ (Int ⊕ Unit)) :=
  bif decide (t < (s.length : Int)) then
    (idx s t).bind fun x =>
    bif v == x then
      some (.inr (.inl t))
    else
      some (.inl (w64 (t + 1)))
  else
    some (.inr (.inr ()))

def slices_Index___int_int_ (s : List Int) (v : Int) : Option Int :=
  (loop (slices_Index___int_int__l1 s v) 0).bind fun q0 =>
  match q0 with
  | .inl q =>
    some q
  | .inr _ =>
    some (-1)
def h51 : Hint := (.s .z (.s (.s .z (.b (.l [(8, .v (.int .i64) [])] [4, 5, 8] [(1, [(4, .v (.int .i64) [])]), (2, [])] .z))) .z))
noncomputable def sp51 : Spec fam := ⟨[.v (.slice (.int .i64)) [], .v (.int .i64) []], [.v (.int .i64) []], fun a => slices_Index___int_int_ a.1 a.2.1⟩

def slices_Delete___int_int_ (s : List Int) (i : Int) (j : Int) : Option (List Int) :=
  none
def h52 : Hint := .z
noncomputable def sp52 : Spec fam := ⟨[.v (.slice (.int .i64)) [], .v (.int .i64) [], .v (.int .i64) []], [.v (.slice (.int .i64)) [0]], fun a => slices_Delete___int_int_ a.1 a.2.1 a.2.2.1⟩

def apps_Lose_l1 (ids : List Int) (t : State × Int) : Option ((State × Int) ⊕ State) :=
  bif decide (t.2 < (ids.length : Int)) then
    (
      (idx ids t.2).bind fun x1 =>
      (api_Cont__46 t.1.Conts (fun a' => apps_Lose_1 a'.1 x1)).bind fun k =>
      bif decide (k < 0) then
        some t.1
      else
        (inb k t.1.Conts.length).bind fun i =>
        (t.1.Conts[i]?).bind fun x2 =>
        (apps_at t.1 x2.App).bind fun i1 =>
        (
          bif decide (i1 ≥ 0) then
            some x2.Master
          else
            some false).bind fun q =>
        bif q then
          (apps_master t.1 i1).bind fun x3 =>
          some x3
        else
          (api_Cont__50 t.1.Conts k (w64 (k + 1))).bind fun x4 =>
          bif decide (i1 < 0) then
            some (⟨⟨t.1.Conf.Labels, t.1.Conf.Queues⟩, t.1.Nodes, t.1.Apps, x4, t.1.Slots, t.1.Plans, t.1.Now, t.1.Epoch, t.1.Seq⟩ : State)
          else
            (inb i1 t.1.Apps.length).bind fun i2 =>
            (t.1.Apps[i2]?).bind fun x5 =>
            (slices_Index___int_int_ x5.Grants x1).bind fun j =>
            bif decide (j ≥ 0) then
              (slices_Delete___int_int_ x5.Grants j (w64 (j + 1))).bind fun x6 =>
              (inb i1 t.1.Apps.length).bind fun i3 =>
              (t.1.Apps[i3]?).bind fun x7 =>
              some (⟨⟨t.1.Conf.Labels, t.1.Conf.Queues⟩, t.1.Nodes, List.set t.1.Apps i3 (⟨x5.Id, x5.State, x5.Queue, x5.User, x5.Prio, ⟨x5.Master.Mem, x5.Master.Cores⟩, x5.Asks, x5.Seen, x5.Beat, x6, x5.Kills, x5.Told, x5.Lost⟩ : App), x4, t.1.Slots, t.1.Plans, t.1.Now, t.1.Epoch, t.1.Seq⟩ : State)
            else
              none).bind fun s1 =>
    some (.inl (s1, w64 (t.2 + 1)))
  else
    some (.inr t.1)

def apps_Lose (s : State) (ids : List Int) : Option State :=
  (apps_own s).bind fun x =>
  (loop (apps_Lose_l1 ids) (x, 0)).bind fun s2 =>
  (apps_own s2).bind fun x8 =>
  some x8
def h29 : Hint := (.s .z (.s .z (.s (.s .z (.b (.l [(2, .box (.st 10) [0, 1, 2, 3, 4, 5, 6]), (16, .v (.int .i64) [])] [2, 6, 7, 8, 9, 10, 11, 13, 16, 40] [(2, [(2, .box (.st 10) [0, 1, 2, 3, 4, 5, 6])])] (.s .z (.s .z (.s (.j [2, 6, 7, 8, 9, 10, 11, 40] [(0, [(2, .box (.st 10) [0, 1, 2, 3, 4, 5, 6])])] (.b (.s .z (.s .z (.s .z (.s .z (.s .z (.s (.s (.j [] [(0, [(40, .v .bool [])])] .z) .z) .z)))))))) .z)))))) .z)))
noncomputable def sp29 : Spec fam := ⟨[.v (.st 10) [], .v (.slice (.int .i64)) []], [.v (.st 10) [0, 1, 2, 3, 4, 5, 6]], fun a => apps_Lose a.1 a.2.1⟩

def api_Plan__35_l1 (s : List Plan) (f : (TupT fam [.st 1] → Option Bool)) (t : Int) : Option (Int ⊕ (Int ⊕ Unit)) :=
  bif decide (t < (s.length : Int)) then
    (idx s t).bind fun x =>
    (f (x, ())).bind fun r =>
    bif r then
      some (.inr (.inl t))
    else
      some (.inl (w64 (t + 1)))
  else
    some (.inr (.inr ()))

def api_Plan__35 (s : List Plan) (f : (TupT fam [.st 1] → Option Bool)) : Option Int :=
  (loop (api_Plan__35_l1 s f) 0).bind fun q0 =>
  match q0 with
  | .inl q =>
    some q
  | .inr _ =>
    some (-1)
def h35 : Hint := (.s .z (.s (.s .z (.b (.l [(8, .v (.int .i64) [])] [4, 5, 8] [(1, [(4, .v (.int .i64) [])]), (2, [])] .z))) .z))
noncomputable def sp35 : Spec fam := ⟨[.v (.slice (.st 1)) [], .fn [.st 1] .bool], [.v (.int .i64) []], fun a => api_Plan__35 a.1 a.2.1⟩

def api_Plan__30 (s : List Plan) (f : (TupT fam [.st 1] → Option Bool)) : Option Bool :=
  (api_Plan__35 s f).bind fun x =>
  some (decide (x ≥ 0))
def h30 : Hint := .z
noncomputable def sp30 : Spec fam := ⟨[.v (.slice (.st 1)) [], .fn [.st 1] .bool], [.v .bool []], fun a => api_Plan__30 a.1 a.2.1⟩

def plan_Add_1 (x : Plan) (p : Plan) : Option Bool :=
  some (x.Id == p.Id)
def h31 : Hint := .z
noncomputable def sp31 : Spec fam := ⟨[.v (.st 1) [], .rp (.st 1)], [.v .bool []], fun a => plan_Add_1 a.1 a.2.1⟩

def share_sum_l1 (l : List Vec) (t : Vec × Int) : Option ((Vec × Int) ⊕ Vec) :=
  bif decide (t.2 < (l.length : Int)) then
    (idx l t.2).bind fun x =>
    (rvec_Add t.1 x).bind fun x1 =>
    some (.inl (x1.1, w64 (t.2 + 1)))
  else
    some (.inr t.1)

def share_sum (l : List Vec) : Option Vec :=
  (loop (share_sum_l1 l) ((⟨0, 0⟩ : Vec), 0)).bind fun out =>
  some out
def h53 : Hint := (.s .z (.s .z (.s (.s .z (.b (.l [(3, .box (.st 0) []), (8, .v (.int .i64) [])] [3, 5, 8] [(2, [(3, .box (.st 0) [])])] .z))) .z)))
noncomputable def sp53 : Spec fam := ⟨[.v (.slice (.st 0)) []], [.v (.st 0) []], fun a => share_sum a.1⟩

def share_Total_l1 (s : State) (label : Int) (t : List Vec × Int) : Option ((List Vec × Int) ⊕ List Vec) :=
  bif decide (t.2 < (s.Nodes.length : Int)) then
    (
      (idx s.Nodes t.2).bind fun x =>
      (
        bif x.Up then
          some (x.Label == label)
        else
          some false).bind fun q =>
      bif q then
        (app 16 t.1 [x.Cap]).bind fun l =>
        some l
      else
        some t.1).bind fun l1 =>
    some (.inl (l1, w64 (t.2 + 1)))
  else
    some (.inr t.1)

def share_Total (s : State) (label : Int) : Option Vec :=
  (loop (share_Total_l1 s label) ([], 0)).bind fun l2 =>
  (share_sum l2).bind fun x1 =>
  some x1
def h32 : Hint := (.s .z (.s .z (.s (.s .z (.b (.l [(5, .v (.slice (.st 0)) [0]), (11, .v (.int .i64) [])] [5, 7, 11, 22] [(2, [(5, .v (.slice (.st 0)) [0])])] (.s .z (.s .z (.s (.j [5, 7, 22] [(0, [(5, .v (.slice (.st 0)) [0])])] (.b (.s .z (.s (.j [] [(0, [(22, .v .bool [])])] .z) .z)))) .z)))))) .z)))
noncomputable def sp32 : Spec fam := ⟨[.v (.st 10) [], .v (.int .i64) []], [.v (.st 0) []], fun a => share_Total a.1 a.2.1⟩

def plan_Add_l1 (p : Plan) (x : State) (k : Int) : Option (Int ⊕ Int) :=
  (
    bif decide (k < (x.Plans.length : Int)) then
      (inb k x.Plans.length).bind fun i =>
      (x.Plans[i]?).bind fun x1 =>
      some (decide (x1.Id < p.Id))
    else
      some false).bind fun q =>
  bif q then
    some (.inl (w64 (k + 1)))
  else
    some (.inr k)

def plan_Add (s : State) (p : Plan) (long : Int) : Option (State × Int × Int) :=
  (apps_Lose s []).bind fun x =>
  (loop (plan_Add_l1 p x) 0).bind fun k1 =>
  (
    (plan_within p.Id 999).bind fun x2 =>
    bif ! x2 then
      some true
    else
      (plan_within p.Label (w64 ((x.Conf.Labels.length : Int) - 1))).bind fun x3 =>
      bif ! x3 then
        some true
      else
        some ((p.Need.Mem == 0) && (p.Need.Cores == 0))).bind fun q1 =>
  bif q1 then
    some (x, 0, 1)
  else
    (api_Plan__30 x.Plans (fun a' => plan_Add_1 a'.1 p)).bind fun x4 =>
    bif x4 then
      some (x, 0, 7)
    else
      bif decide ((x.Plans.length : Int) ≥ 12) then
        some (x, 0, 4)
      else
        bif decide (p.From < x.Now) then
          some (x, 0, 15)
        else
          (share_Total x p.Label).bind fun x5 =>
          (plan_Place x.Plans x5 p long).bind fun x6 =>
          bif x6.2 != 0 then
            some (x, 0, x6.2)
          else
            (mkl 48 (w64 ((x.Plans.length : Int) + 1)) (w64 ((x.Plans.length : Int) + 1)) (⟨0, 0, 0, 0, ⟨0, 0⟩⟩ : Plan)).bind fun l =>
            (inS 0 k1 x.Plans.length).bind fun p1 =>
            (inb k1 (cpy l 0 l.length (sub x.Plans p1.1 p1.2)).length).bind fun i1 =>
            ((cpy l 0 l.length (sub x.Plans p1.1 p1.2))[i1]?).bind fun x7 =>
            (inS (w64 (k1 + 1)) ((List.set (cpy l 0 l.length (sub x.Plans p1.1 p1.2)) i1 (⟨p.Id, p.Label, x6.1, w64 (x6.1 + long), ⟨p.Need.Mem, p.Need.Cores⟩⟩ : Plan)).length : Int) (List.set (cpy l 0 l.length (sub x.Plans p1.1 p1.2)) i1 (⟨p.Id, p.Label, x6.1, w64 (x6.1 + long), ⟨p.Need.Mem, p.Need.Cores⟩⟩ : Plan)).length).bind fun p2 =>
            (inS k1 (x.Plans.length : Int) x.Plans.length).bind fun p3 =>
            some ((⟨⟨x.Conf.Labels, x.Conf.Queues⟩, x.Nodes, x.Apps, x.Conts, x.Slots, cpy (List.set (cpy l 0 l.length (sub x.Plans p1.1 p1.2)) i1 (⟨p.Id, p.Label, x6.1, w64 (x6.1 + long), ⟨p.Need.Mem, p.Need.Cores⟩⟩ : Plan)) p2.1 p2.2 (sub x.Plans p3.1 p3.2), x.Now, x.Epoch, x.Seq⟩ : State), x6.1, 0)
def h19 : Hint := (.s .z (.s .z (.s .z (.s (.b (.l [(9, .v (.int .i64) [])] [9, 30] [(2, [(9, .v (.int .i64) [])])] (.s (.s (.j [] [(0, [(30, .v .bool [])])] .z) .z) .z))) (.s (.b (.s (.j [] [(0, [(33, .v .bool [])])] .z) .z)) .z)))))
noncomputable def sp19 : Spec fam := ⟨[.v (.st 10) [], .v (.st 1) [], .v (.int .i64) []], [.v (.st 10) [0, 1, 2, 3, 4, 5, 6], .v (.int .i64) [], .v (.int .i64) []], fun a => plan_Add a.1 a.2.1 a.2.2.1⟩

def dispatchref5_Same_l3 (x2 : Queue) (x3 : Queue) (k : Int) : Option (Int ⊕ (Bool ⊕ Unit)) :=
  bif decide (k < (x2.Caps.length : Int)) then
    (idx x2.Caps k).bind fun x4 =>
    (idx x3.Caps k).bind fun x5 =>
    bif ! ((x4.Least == x5.Least) && (x4.Most == x5.Most)) then
      some (.inr (.inl false))
    else
      some (.inl (w64 (k + 1)))
  else
    some (.inr (.inr ()))

def dispatchref5_Same_l2 (a : Conf) (b : Conf) (i1 : Int) : Option (Int ⊕ (Bool ⊕ Unit)) :=
  bif decide (i1 < (a.Queues.length : Int)) then
    (idx a.Queues i1).bind fun x2 =>
    (idx b.Queues i1).bind fun x3 =>
    (
      bif ! (x2.Path == x3.Path) then
        some true
      else
        bif x2.User != x3.User then
          some true
        else
          some ((x2.Caps.length : Int) != (x3.Caps.length : Int))).bind fun q2 =>
    bif q2 then
      some (.inr (.inl false))
    else
      (loop (dispatchref5_Same_l3 x2 x3) 0).bind fun q0 =>
      match q0 with
      | .inl q3 =>
        some (.inr (.inl q3))
      | .inr _ =>
        some (.inl (w64 (i1 + 1)))
  else
    some (.inr (.inr ()))

def dispatchref5_Same_l1 (a : Conf) (b : Conf) (i : Int) : Option (Int ⊕ (Bool ⊕ Unit)) :=
  bif decide (i < (a.Labels.length : Int)) then
    (idx a.Labels i).bind fun x =>
    (idx b.Labels i).bind fun x1 =>
    bif ! (x == x1) then
      some (.inr (.inl false))
    else
      some (.inl (w64 (i + 1)))
  else
    some (.inr (.inr ()))

def dispatchref5_Same (a : Conf) (b : Conf) : Option Bool :=
  (
    bif (a.Labels.length : Int) != (b.Labels.length : Int) then
      some true
    else
      some ((a.Queues.length : Int) != (b.Queues.length : Int))).bind fun q =>
  bif q then
    some false
  else
    (loop (dispatchref5_Same_l1 a b) 0).bind fun q0 =>
    match q0 with
    | .inl q1 =>
      some q1
    | .inr _ =>
      (loop (dispatchref5_Same_l2 a b) 0).bind fun q0 =>
      match q0 with
      | .inl q4 =>
        some q4
      | .inr _ =>
        some true
def h33 : Hint := (.s .z (.s (.s (.j [] [(0, [(25, .v .bool [])])] .z) .z) (.s (.s .z (.b (.l [(5, .v (.int .i64) [])] [4, 5] [(1, [(4, .v .bool [])]), (2, [])] .z))) (.s (.s .z (.b (.l [(6, .v (.int .i64) [])] [4, 6, 7, 8, 9, 81] [(1, [(4, .v .bool [])]), (4, [])] (.s .z (.s (.b (.s .z (.s (.s (.j [] [(0, [(81, .v .bool [])])] .z) .z) (.s .z (.b (.l [(9, .v (.int .i64) [])] [4, 9] [(1, [(4, .v .bool [])]), (6, [])] .z)))))) .z))))) .z))))
noncomputable def sp33 : Spec fam := ⟨[.v (.st 4) [], .v (.st 4) []], [.v .bool []], fun a => dispatchref5_Same a.1 a.2.1⟩

def dispatchref19_ints_l1 (a : List Int) (b : List Int) (i : Int) : Option (Int ⊕ (Bool ⊕ Unit)) :=
  bif decide (i < (a.length : Int)) then
    (idx a i).bind fun x =>
    (idx b i).bind fun x1 =>
    bif x != x1 then
      some (.inr (.inl false))
    else
      some (.inl (w64 (i + 1)))
  else
    some (.inr (.inr ()))

def dispatchref19_ints (a : List Int) (b : List Int) : Option Bool :=
  bif (a.length : Int) != (b.length : Int) then
    some false
  else
    (loop (dispatchref19_ints_l1 a b) 0).bind fun q0 =>
    match q0 with
    | .inl q =>
      some q
    | .inr _ =>
      some true
def h54 : Hint := (.s .z (.s .z (.s (.s .z (.b (.l [(5, .v (.int .i64) [])] [4, 5] [(1, [(4, .v .bool [])]), (2, [])] .z))) .z)))
noncomputable def sp54 : Spec fam := ⟨[.v (.slice (.int .i64)) [], .v (.slice (.int .i64)) []], [.v .bool []], fun a => dispatchref19_ints a.1 a.2.1⟩

def dispatchref19_app_l1 (a : App) (b : App) (i : Int) : Option (Int ⊕ (Bool ⊕ Unit)) :=
  bif decide (i < (a.Asks.length : Int)) then
    (idx a.Asks i).bind fun x =>
    (idx b.Asks i).bind fun x1 =>
    bif ! ((x.Prio == x1.Prio) && ((x.Label == x1.Label) && (((x.Size.Mem == x1.Size.Mem) && (x.Size.Cores == x1.Size.Cores)) && ((x.Count == x1.Count) && ((x.Node == x1.Node) && ((x.Rack == x1.Rack) && (x.Missed == x1.Missed))))))) then
      some (.inr (.inl false))
    else
      some (.inl (w64 (i + 1)))
  else
    some (.inr (.inr ()))

def dispatchref19_app (a : App) (b : App) : Option Bool :=
  (
    bif a.Id != b.Id then
      some true
    else
      bif a.State != b.State then
        some true
      else
        bif ! (a.Queue == b.Queue) then
          some true
        else
          bif a.User != b.User then
            some true
          else
            bif a.Prio != b.Prio then
              some true
            else
              bif ! ((a.Master.Mem == b.Master.Mem) && (a.Master.Cores == b.Master.Cores)) then
                some true
              else
                bif a.Seen != b.Seen then
                  some true
                else
                  bif a.Beat != b.Beat then
                    some true
                  else
                    some ((a.Asks.length : Int) != (b.Asks.length : Int))).bind fun q =>
  bif q then
    some false
  else
    (loop (dispatchref19_app_l1 a b) 0).bind fun q0 =>
    match q0 with
    | .inl q1 =>
      some q1
    | .inr _ =>
      (dispatchref19_ints a.Grants b.Grants).bind fun x2 =>
      bif x2 then
        (dispatchref19_ints a.Kills b.Kills).bind fun x3 =>
        bif x3 then
          (dispatchref19_ints a.Told b.Told).bind fun x4 =>
          bif x4 then
            (dispatchref19_ints a.Lost b.Lost).bind fun x5 =>
            some x5
          else
            some false
        else
          some false
      else
        some false
def h34 : Hint := (.s .z (.s (.s (.j [] [(0, [(68, .v .bool [])])] .z) .z) (.s (.s .z (.b (.l [(5, .v (.int .i64) [])] [4, 5] [(1, [(4, .v .bool [])]), (2, [])] .z))) .z)))
noncomputable def sp34 : Spec fam := ⟨[.v (.st 7) [], .v (.st 7) []], [.v .bool []], fun a => dispatchref19_app a.1 a.2.1⟩

def dispatchref19_Same_l5 (a : State) (b : State) (t4 : Bool × Int) : Option ((Bool × Int) ⊕ Bool) :=
  bif decide (t4.2 < (a.Plans.length : Int)) then
    (
      bif t4.1 then
        (idx a.Plans t4.2).bind fun x10 =>
        (idx b.Plans t4.2).bind fun x11 =>
        let ok11 := (x10.Id == x11.Id) && ((x10.Label == x11.Label) && ((x10.From == x11.From) && ((x10.Until == x11.Until) && ((x10.Need.Mem == x11.Need.Mem) && (x10.Need.Cores == x11.Need.Cores)))))
        some ok11
      else
        some false).bind fun ok12 =>
    some (.inl (ok12, w64 (t4.2 + 1)))
  else
    some (.inr t4.1)

def dispatchref19_Same_l4 (a : State) (b : State) (t3 : Bool × Int) : Option ((Bool × Int) ⊕ Bool) :=
  bif decide (t3.2 < (a.Slots.length : Int)) then
    (
      bif t3.1 then
        (idx a.Slots t3.2).bind fun x8 =>
        (idx b.Slots t3.2).bind fun x9 =>
        let ok8 := (x8.Node == x9.Node) && ((x8.App == x9.App) && (x8.Prio == x9.Prio))
        some ok8
      else
        some false).bind fun ok9 =>
    some (.inl (ok9, w64 (t3.2 + 1)))
  else
    some (.inr t3.1)

def dispatchref19_Same_l3 (a : State) (b : State) (t2 : Bool × Int) : Option ((Bool × Int) ⊕ Bool) :=
  bif decide (t2.2 < (a.Conts.length : Int)) then
    (
      bif t2.1 then
        (idx a.Conts t2.2).bind fun x6 =>
        (idx b.Conts t2.2).bind fun x7 =>
        let ok5 := (x6.Id == x7.Id) && ((x6.App == x7.App) && ((x6.Node == x7.Node) && (((x6.Size.Mem == x7.Size.Mem) && (x6.Size.Cores == x7.Size.Cores)) && ((x6.Prio == x7.Prio) && ((x6.Label == x7.Label) && ((x6.Master == x7.Master) && (x6.Notice == x7.Notice)))))))
        some ok5
      else
        some false).bind fun ok6 =>
    some (.inl (ok6, w64 (t2.2 + 1)))
  else
    some (.inr t2.1)

def dispatchref19_Same_l2 (a : State) (b : State) (t1 : Bool × Int) : Option ((Bool × Int) ⊕ Bool) :=
  bif decide (t1.2 < (a.Apps.length : Int)) then
    (
      bif t1.1 then
        (idx a.Apps t1.2).bind fun x3 =>
        (idx b.Apps t1.2).bind fun x4 =>
        (dispatchref19_app x3 x4).bind fun x5 =>
        some x5
      else
        some false).bind fun ok3 =>
    some (.inl (ok3, w64 (t1.2 + 1)))
  else
    some (.inr t1.1)

def dispatchref19_Same_l1 (a : State) (b : State) (t : Bool × Int) : Option ((Bool × Int) ⊕ Bool) :=
  bif decide (t.2 < (a.Nodes.length : Int)) then
    (
      bif t.1 then
        (idx a.Nodes t.2).bind fun x1 =>
        (idx b.Nodes t.2).bind fun x2 =>
        let ok := (x1.Id == x2.Id) && ((x1.Label == x2.Label) && ((x1.Rack == x2.Rack) && (((x1.Cap.Mem == x2.Cap.Mem) && (x1.Cap.Cores == x2.Cap.Cores)) && ((x1.Seen == x2.Seen) && ((x1.Beat == x2.Beat) && (x1.Up == x2.Up))))))
        some ok
      else
        some false).bind fun ok1 =>
    some (.inl (ok1, w64 (t.2 + 1)))
  else
    some (.inr t.1)

def dispatchref19_Same (a : State) (b : State) : Option Bool :=
  (
    (dispatchref5_Same a.Conf b.Conf).bind fun x =>
    bif ! x then
      some true
    else
      bif a.Now != b.Now then
        some true
      else
        bif a.Epoch != b.Epoch then
          some true
        else
          bif a.Seq != b.Seq then
            some true
          else
            bif (a.Nodes.length : Int) != (b.Nodes.length : Int) then
              some true
            else
              bif (a.Apps.length : Int) != (b.Apps.length : Int) then
                some true
              else
                bif (a.Conts.length : Int) != (b.Conts.length : Int) then
                  some true
                else
                  bif (a.Slots.length : Int) != (b.Slots.length : Int) then
                    some true
                  else
                    some ((a.Plans.length : Int) != (b.Plans.length : Int))).bind fun q =>
  bif q then
    some false
  else
    (loop (dispatchref19_Same_l1 a b) (true, 0)).bind fun ok2 =>
    (loop (dispatchref19_Same_l2 a b) (ok2, 0)).bind fun ok4 =>
    (loop (dispatchref19_Same_l3 a b) (ok4, 0)).bind fun ok7 =>
    (loop (dispatchref19_Same_l4 a b) (ok7, 0)).bind fun ok10 =>
    (loop (dispatchref19_Same_l5 a b) (ok10, 0)).bind fun ok13 =>
    some ok13
def h20 : Hint := (.s .z (.s (.s (.j [] [(0, [(82, .v .bool [])])] .z) .z) (.s .z (.s (.s .z (.b (.l [(5, .v .bool []), (6, .v (.int .i64) [])] [5, 6] [(2, [(5, .v .bool [])])] (.s .z (.s (.j [5] [(0, [(5, .v .bool [])])] .z) .z))))) (.s (.s .z (.b (.l [(5, .v .bool []), (7, .v (.int .i64) [])] [5, 7] [(4, [(5, .v .bool [])])] (.s .z (.s (.j [5] [(0, [(5, .v .bool [])])] .z) .z))))) (.s (.s .z (.b (.l [(5, .v .bool []), (8, .v (.int .i64) [])] [5, 8] [(6, [(5, .v .bool [])])] (.s .z (.s (.j [5] [(0, [(5, .v .bool [])])] .z) .z))))) (.s (.s .z (.b (.l [(5, .v .bool []), (9, .v (.int .i64) [])] [5, 9] [(8, [(5, .v .bool [])])] (.s .z (.s (.j [5] [(0, [(5, .v .bool [])])] .z) .z))))) (.s (.s .z (.b (.l [(5, .v .bool []), (10, .v (.int .i64) [])] [5, 10] [(10, [(5, .v .bool [])])] (.s .z (.s (.j [5] [(0, [(5, .v .bool [])])] .z) .z))))) .z))))))))
noncomputable def sp20 : Spec fam := ⟨[.v (.st 10) [], .v (.st 10) []], [.v .bool []], fun a => dispatchref19_Same a.1 a.2.1⟩

def dispatchref7_Kept_l1 (s : State) (label : Int) (t : Vec × Int) : Option ((Vec × Int) ⊕ Vec) :=
  bif decide (t.2 < (s.Plans.length : Int)) then
    (
      (idx s.Plans t.2).bind fun x =>
      (
        bif x.Label == label then
          bif decide (x.From ≤ s.Now) then
            some (decide (s.Now < x.Until))
          else
            some false
        else
          some false).bind fun q =>
      bif q then
        (dispatchref1_Plus t.1 x.Need).bind fun x1 =>
        some x1
      else
        some t.1).bind fun v =>
    some (.inl (v, w64 (t.2 + 1)))
  else
    some (.inr t.1)

def dispatchref7_Kept (s : State) (label : Int) : Option Vec :=
  (loop (dispatchref7_Kept_l1 s label) ((⟨0, 0⟩ : Vec), 0)).bind fun v1 =>
  some v1
def h21 : Hint := (.s .z (.s .z (.s (.s .z (.b (.l [(5, .box (.st 0) []), (6, .v (.int .i64) [])] [5, 6, 7, 38] [(2, [(5, .box (.st 0) [])])] (.s .z (.s (.j [5, 7, 38] [(0, [(5, .box (.st 0) [])])] (.b (.s .z (.s (.j [] [(0, [(38, .v .bool [])])] .z) .z)))) .z))))) .z)))
noncomputable def sp21 : Spec fam := ⟨[.v (.st 10) [], .v (.int .i64) []], [.v (.st 0) []], fun a => dispatchref7_Kept a.1 a.2.1⟩

def dispatchlaw15_PlanKeeps (p : Plan) (long : Int) (at_ : Int) : Option Bool :=
  (dispatchlaw15_known).bind fun x =>
  bif ! x then
    some false
  else
    (dispatchref19_New).bind fun x1 =>
    (dispatchlaw15_good p).bind fun x2 =>
    (dispatchlaw15_within long 20).bind fun x3 =>
    (plan_Add (⟨⟨x1.Conf.Labels, x1.Conf.Queues⟩, [(⟨1, 0, 0, ⟨6, 6⟩, 0, 0, true⟩ : Node)], x1.Apps, x1.Conts, x1.Slots, x1.Plans, x1.Now, x1.Epoch, x1.Seq⟩ : State) (⟨x2.Id, 0, x2.From, w64 (x2.From + 30), ⟨x2.Need.Mem, x2.Need.Cores⟩⟩ : Plan) (w64 (1 + x3))).bind fun x4 =>
    bif (x2.Need.Mem == 0) && (x2.Need.Cores == 0) then
      bif x4.2.2 == 1 then
        (dispatchref19_Same (⟨⟨x1.Conf.Labels, x1.Conf.Queues⟩, [(⟨1, 0, 0, ⟨6, 6⟩, 0, 0, true⟩ : Node)], x1.Apps, x1.Conts, x1.Slots, x1.Plans, x1.Now, x1.Epoch, x1.Seq⟩ : State) x4.1).bind fun x5 =>
        some x5
      else
        some false
    else
      (dispatchlaw15_within at_ 70).bind fun x6 =>
      (dispatchref7_Kept (⟨⟨x4.1.Conf.Labels, x4.1.Conf.Queues⟩, x4.1.Nodes, x4.1.Apps, x4.1.Conts, x4.1.Slots, x4.1.Plans, x6, x4.1.Epoch, x4.1.Seq⟩ : State) 0).bind fun x7 =>
      bif x4.2.2 == 0 then
        bif x4.2.1 == x2.From then
          bif (x4.1.Plans.length : Int) == 1 then
            (inb 0 x4.1.Plans.length).bind fun i =>
            (x4.1.Plans[i]?).bind fun x8 =>
            bif x8.Until == (w64 (x4.2.1 + (w64 (1 + x3)))) then
              bif decide (x6 ≥ x4.2.1) then
                bif ((x7.Mem == x2.Need.Mem) && (x7.Cores == x2.Need.Cores)) == (decide (x6 < (w64 (x4.2.1 + (w64 (1 + x3)))))) then
                  bif (x7.Mem == x2.Need.Mem) && (x7.Cores == x2.Need.Cores) then
                    some true
                  else
                    some ((x7.Mem == 0) && (x7.Cores == 0))
                else
                  some false
              else
                bif ((x7.Mem == x2.Need.Mem) && (x7.Cores == x2.Need.Cores)) == false then
                  bif (x7.Mem == x2.Need.Mem) && (x7.Cores == x2.Need.Cores) then
                    some true
                  else
                    some ((x7.Mem == 0) && (x7.Cores == 0))
                else
                  some false
            else
              some false
          else
            some false
        else
          some false
      else
        some false
def h6 : Hint := .z
noncomputable def sp6 : Spec fam := ⟨[.v (.st 1) [], .v (.int .i64) [], .v (.int .i64) []], [.v .bool []], fun a => dispatchlaw15_PlanKeeps a.1 a.2.1 a.2.2.1⟩

def dispatchlaw15_PlanMany_l3 (s : State) (k : Int) : Option (Int ⊕ (Bool ⊕ Unit)) :=
  bif decide (k < (s.Plans.length : Int)) then
    (inb (w64 (k - 1)) s.Plans.length).bind fun i1 =>
    (s.Plans[i1]?).bind fun x5 =>
    (inb k s.Plans.length).bind fun i2 =>
    (s.Plans[i2]?).bind fun x6 =>
    bif decide (x5.Id ≥ x6.Id) then
      some (.inr (.inl false))
    else
      some (.inl (w64 (k + 1)))
  else
    some (.inr (.inr ()))

def dispatchlaw15_PlanMany_l2 (t : State × Int) (id_ : Int) (t1 : Bool × Int) : Option ((Bool × Int) ⊕ Bool) :=
  bif decide (t1.2 < (t.1.Plans.length : Int)) then
    (
      bif t1.1 then
        some true
      else
        (inb t1.2 t.1.Plans.length).bind fun i =>
        (t.1.Plans[i]?).bind fun x3 =>
        some (x3.Id == id_)).bind fun is =>
    some (.inl (is, w64 (t1.2 + 1)))
  else
    some (.inr t1.1)

def dispatchlaw15_PlanMany_l1 (ids : List Int) (t : State × Int) : Option ((State × Int) ⊕ (Bool ⊕ State)) :=
  (
    bif decide (t.2 < (ids.length : Int)) then
      some (decide (t.2 < 30))
    else
      some false).bind fun q =>
  bif q then
    (idx ids t.2).bind fun x2 =>
    (dispatchlaw15_within x2 25).bind fun id_ =>
    (loop (dispatchlaw15_PlanMany_l2 t id_) (false, 0)).bind fun is1 =>
    (plan_Add t.1 (⟨id_, 0, 0, 50, ⟨1, 0⟩⟩ : Plan) 5).bind fun x4 =>
    (
      bif is1 then
        some 7
      else
        bif decide ((t.1.Plans.length : Int) ≥ 12) then
          some 4
        else
          some 0).bind fun want =>
    bif x4.2.2 != want then
      some (.inr (.inl false))
    else
      some (.inl (x4.1, w64 (t.2 + 1)))
  else
    some (.inr (.inr (t.1)))

def dispatchlaw15_PlanMany (ids : List Int) : Option Bool :=
  (dispatchlaw15_known).bind fun x =>
  bif ! x then
    some false
  else
    (dispatchref19_New).bind fun x1 =>
    (loop (dispatchlaw15_PlanMany_l1 ids) ((⟨⟨x1.Conf.Labels, x1.Conf.Queues⟩, [(⟨1, 0, 0, ⟨50, 50⟩, 0, 0, true⟩ : Node)], x1.Apps, x1.Conts, x1.Slots, x1.Plans, x1.Now, x1.Epoch, x1.Seq⟩ : State), 0)).bind fun q0 =>
    match q0 with
    | .inl q1 =>
      some q1
    | .inr s =>
      (loop (dispatchlaw15_PlanMany_l3 s) 1).bind fun q0 =>
      match q0 with
      | .inl q2 =>
        some q2
      | .inr _ =>
        some (decide ((s.Plans.length : Int) ≤ 12))
def h7 : Hint := (.s .z (.s .z (.s .z (.s .z (.s (.s .z (.b (.l [(3, .box (.st 10) [0, 1, 2, 3, 4, 5, 6]), (4, .v (.int .i64) [])] [2, 3, 4, 5, 6, 7, 8, 9, 10, 11, 27] [(1, [(2, .v .bool [])]), (2, [(3, .box (.st 10) [0, 1, 2, 3, 4, 5, 6])])] (.s (.s (.j [] [(0, [(27, .v .bool [])])] .z) .z) (.s (.b (.s .z (.s .z (.s (.s .z (.b (.l [(6, .v .bool []), (7, .v (.int .i64) [])] [6, 7] [(4, [(6, .v .bool [])])] (.s .z (.s (.j [6] [(0, [(6, .v .bool [])])] .z) .z))))) (.s .z (.s .z (.s (.j [11] [(0, [(11, .v (.int .i64) [])])] .z) .z))))))) .z))))) (.s (.s .z (.b (.l [(12, .v (.int .i64) [])] [2, 12] [(1, [(2, .v .bool [])]), (6, [])] .z))) .z))))))
noncomputable def sp7 : Spec fam := ⟨[.v (.slice (.int .i64)) []], [.v .bool []], fun a => dispatchlaw15_PlanMany a.1⟩

def plan_Drop_1 (x : Plan) (p : Int) : Option Bool :=
  some (x.Id == p)
def h36 : Hint := .z
noncomputable def sp36 : Spec fam := ⟨[.v (.st 1) [], .rp (.int .i64)], [.v .bool []], fun a => plan_Drop_1 a.1 a.2.1⟩

def api_Plan__37 (s : List Plan) (i : Int) (j : Int) : Option (List Plan) := del s i j
def h37 : Hint := .z
noncomputable def sp37 : Spec fam := ⟨[.v (.slice (.st 1)) [0], .v (.int .i64) [], .v (.int .i64) []], [.v (.slice (.st 1)) [0]], fun a => api_Plan__37 a.1 a.2.1 a.2.2.1⟩

def plan_Drop (s : State) (id_ : Int) : Option (State × Int) :=
  (apps_Lose s []).bind fun x =>
  (api_Plan__35 x.Plans (fun a' => plan_Drop_1 a'.1 id_)).bind fun k =>
  bif decide (k < 0) then
    some (x, 2)
  else
    (api_Plan__37 x.Plans k (w64 (k + 1))).bind fun x1 =>
    some ((⟨⟨x.Conf.Labels, x.Conf.Queues⟩, x.Nodes, x.Apps, x.Conts, x.Slots, x1, x.Now, x.Epoch, x.Seq⟩ : State), 0)
def h22 : Hint := .z
noncomputable def sp22 : Spec fam := ⟨[.v (.st 10) [], .v (.int .i64) []], [.v (.st 10) [0, 1, 2, 3, 4, 5, 6], .v (.int .i64) []], fun a => plan_Drop a.1 a.2.1⟩

def dispatchlaw15_PlanDrops (id_ : Int) (other : Int) (long : Int) : Option Bool :=
  (dispatchlaw15_known).bind fun x =>
  bif ! x then
    some false
  else
    (dispatchlaw15_within id_ 1000).bind fun id_1 =>
    (dispatchlaw15_within other 1000).bind fun other1 =>
    (dispatchlaw15_within long 50).bind fun x1 =>
    (dispatchref19_New).bind fun x2 =>
    (plan_Add (⟨⟨x2.Conf.Labels, x2.Conf.Queues⟩, [(⟨1, 0, 0, ⟨2, 2⟩, 0, 0, true⟩ : Node)], x2.Apps, x2.Conts, x2.Slots, x2.Plans, x2.Now, x2.Epoch, x2.Seq⟩ : State) (⟨id_1, 0, 0, 100, ⟨2, 2⟩⟩ : Plan) (w64 (1 + x1))).bind fun x3 =>
    (plan_Add x3.1 (⟨id_1, 0, 0, 100, ⟨2, 2⟩⟩ : Plan) (w64 (1 + x1))).bind fun x4 =>
    (plan_Add x3.1 (⟨Int.tmod (w64 (id_1 + 1)) 1000, 0, 0, w64 (1 + x1), ⟨2, 2⟩⟩ : Plan) (w64 (1 + x1))).bind fun x5 =>
    (plan_Drop x3.1 id_1).bind fun x6 =>
    (plan_Add x6.1 (⟨Int.tmod (w64 (id_1 + 1)) 1000, 0, 0, w64 (1 + x1), ⟨2, 2⟩⟩ : Plan) (w64 (1 + x1))).bind fun x7 =>
    (plan_Drop x3.1 other1).bind fun x8 =>
    bif x3.2.2 == 0 then
      bif x3.2.1 == 0 then
        bif x4.2.2 == 7 then
          bif x5.2.2 == 16 then
            bif x5.2.1 == 0 then
              bif x6.2 == 0 then
                (dispatchref19_Same x6.1 (⟨⟨x2.Conf.Labels, x2.Conf.Queues⟩, [(⟨1, 0, 0, ⟨2, 2⟩, 0, 0, true⟩ : Node)], x2.Apps, x2.Conts, x2.Slots, x2.Plans, x2.Now, x2.Epoch, x2.Seq⟩ : State)).bind fun x9 =>
                bif x9 then
                  bif x7.2.2 == 0 then
                    bif x7.2.1 == 0 then
                      bif (x8.2 == 0) == (other1 == id_1) then
                        bif x8.2 == 0 then
                          some true
                        else
                          some (x8.2 == 2)
                      else
                        some false
                    else
                      some false
                  else
                    some false
                else
                  some false
              else
                some false
            else
              some false
          else
            some false
        else
          some false
      else
        some false
    else
      some false
def h8 : Hint := .z
noncomputable def sp8 : Spec fam := ⟨[.v (.int .i64) [], .v (.int .i64) [], .v (.int .i64) []], [.v .bool []], fun a => dispatchlaw15_PlanDrops a.1 a.2.1 a.2.2.1⟩

end
end Go.Fx.D
