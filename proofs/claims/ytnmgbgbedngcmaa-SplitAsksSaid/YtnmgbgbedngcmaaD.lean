/-
  The functions of the program that these laws reach, as functions over plain data (printed by a program). Conditions: none.
-/
import Derived.Test.YtnmgbgbedngcmaaFxC
import Derived.Test.YtnmgbgbedngcmaaA
namespace Go.Fx.D
open Go Go.Fx Go.Proofs
set_option linter.unusedVariables false
noncomputable section

def slices_Clone___int_int__ne (s : List Int) : Option (List Int) :=
  bif s.isEmpty then
    none
  else
    (app 8 [] s).bind fun l =>
    some l

def slices_Clone___int_int_ (s : List Int) : Option (List Int) := app 8 [] s
def h22 : Hint := .z
noncomputable def sp22 : Spec fam := ⟨[.v (.slice (.int .i64)) []], [.v (.slice (.int .i64)) [0]], fun a => slices_Clone___int_int_ a.1⟩

noncomputable def sp22_ne : Spec fam := ⟨[.v (.slice (.int .i64)) []], [.v (.slice (.int .i64)) [0]], fun a => slices_Clone___int_int__ne a.1⟩

def split_good (n : Int) : Option Int :=
  (
    bif decide (n < 0) then
      some true
    else
      some (decide (n > 1048576))).bind fun q =>
  bif q then
    some 0
  else
    some n
def h23 : Hint := (.s .z (.s (.s (.j [] [(0, [(8, .v .bool [])])] .z) .z) .z))
noncomputable def sp23 : Spec fam := ⟨[.v (.int .i64) []], [.v (.int .i64) []], fun a => split_good a.1⟩

def split_sum_l1 (l : List Int) (t : Int × Int) : Option ((Int × Int) ⊕ Int) :=
  bif decide (t.2 < (l.length : Int)) then
    (idx l t.2).bind fun x =>
    some (.inl (w64 (t.1 + x), w64 (t.2 + 1)))
  else
    some (.inr t.1)

def split_sum (l : List Int) : Option Int :=
  (loop (split_sum_l1 l) (0, 0)).bind fun n =>
  some n
def h24 : Hint := (.s .z (.s .z (.s (.s .z (.b (.l [(3, .v (.int .i64) []), (8, .v (.int .i64) [])] [3, 5, 8] [(2, [(3, .v (.int .i64) [])])] .z))) .z)))
noncomputable def sp24 : Spec fam := ⟨[.v (.slice (.int .i64)) []], [.v (.int .i64) []], fun a => split_sum a.1⟩

def split_rest_ (s : List Rest) (f : (TupT fam [.st 0, .st 0] → Option Int)) : Option (List Rest) := sortF (F := fam) (.st 0) f s
def h25 : Hint := .z
noncomputable def sp25 : Spec fam := ⟨[.row (.st 0) false, .fn [.st 0, .st 0] (.int .i64)], [], fun a => split_rest_ a.1 a.2.1⟩

def cmp_Or_int__l1 (vals : List Int) (t : Int) : Option (Int ⊕ (Int ⊕ Unit)) :=
  bif decide (t < (vals.length : Int)) then
    (idx vals t).bind fun x =>
    bif x != 0 then
      some (.inr (.inl x))
    else
      some (.inl (w64 (t + 1)))
  else
    some (.inr (.inr ()))

def cmp_Or_int_ (vals : List Int) : Option Int :=
  (loop (cmp_Or_int__l1 vals) 0).bind fun q0 =>
  match q0 with
  | .inl q =>
    some q
  | .inr _ =>
    some 0
def h36 : Hint := (.s .z (.s .z (.s (.s .z (.b (.l [(8, .v (.int .i64) [])] [2, 5, 8] [(1, [(2, .v (.int .i64) [])]), (2, [])] .z))) .z)))
noncomputable def sp36 : Spec fam := ⟨[.v (.slice (.int .i64)) []], [.v (.int .i64) []], fun a => cmp_Or_int_ a.1⟩

def cmp_isNaN_int_ (x : Int) : Option Bool :=
  some (x != x)
def h50 : Hint := .z
noncomputable def sp50 : Spec fam := ⟨[.v (.int .i64) []], [.v .bool []], fun a => cmp_isNaN_int_ a.1⟩

def cmp_Compare_int_ (x : Int) (y : Int) : Option Int :=
  (cmp_isNaN_int_ x).bind fun xNaN =>
  (cmp_isNaN_int_ y).bind fun yNaN =>
  bif xNaN then
    bif yNaN then
      some 0
    else
      some (-1)
  else
    bif yNaN then
      some 1
    else
      bif decide (x < y) then
        some (-1)
      else
        bif decide (x > y) then
          some 1
        else
          some 0
def h37 : Hint := .z
noncomputable def sp37 : Spec fam := ⟨[.v (.int .i64) [], .v (.int .i64) []], [.v (.int .i64) []], fun a => cmp_Compare_int_ a.1 a.2.1⟩

def split_rest_compare (a : Rest) (b : Rest) : Option Int :=
  (cmp_Compare_int_ b.left a.left).bind fun x =>
  (cmp_Compare_int_ a.at_ b.at_).bind fun x1 =>
  (cmp_Or_int_ [x, x1]).bind fun x2 =>
  some x2
def h26 : Hint := .z
noncomputable def sp26 : Spec fam := ⟨[.v (.st 0) [], .v (.st 0) []], [.v (.int .i64) []], fun a => split_rest_compare a.1 a.2.1⟩

def split_Parts_l3 (x6 : List Rest) (p : Nat × Nat) (t2 : List Int × Int) : Option ((List Int × Int) ⊕ List Int) :=
  bif decide (t2.2 < (p.2 : Int)) then
    (inb t2.2 p.2).bind fun i5 =>
    (x6[p.1 + i5]?).bind fun x8 =>
    (inb x8.at_ t2.1.length).bind fun i6 =>
    (t2.1[i6]?).bind fun x9 =>
    (inb x8.at_ t2.1.length).bind fun i7 =>
    (t2.1[i7]?).bind fun x10 =>
    some (.inl (List.set t2.1 i7 (w64 (x9 + 1)), w64 (t2.2 + 1)))
  else
    some (.inr t2.1)

def split_Parts_l2 (w1 : List Int) (all : Int) (count1 : Int) (t1 : List Int × List Rest × Int) : Option ((List Int × List Rest × Int) ⊕ ((List Int × List Rest))) :=
  bif decide (t1.2.2 < (w1.length : Int)) then
    (inb t1.2.2 w1.length).bind fun i2 =>
    (w1[i2]?).bind fun x3 =>
    (nz all).bind fun _ =>
    (inb t1.2.2 t1.1.length).bind fun i3 =>
    (t1.1[i3]?).bind fun x4 =>
    (nz all).bind fun _ =>
    (inb t1.2.2 t1.2.1.length).bind fun i4 =>
    (t1.2.1[i4]?).bind fun x5 =>
    some (.inl (List.set t1.1 i3 (w64 (Int.tdiv (w64 (count1 * x3)) all)), List.set t1.2.1 i4 (⟨t1.2.2, Int.tmod (w64 (count1 * x3)) all⟩ : Rest), w64 (t1.2.2 + 1)))
  else
    some (.inr (t1.1, t1.2.1))

def split_Parts_l1 (w : List Int) (t : List Int × Int) : Option ((List Int × Int) ⊕ List Int) :=
  bif decide (t.2 < (w.length : Int)) then
    (inb t.2 t.1.length).bind fun i =>
    (t.1[i]?).bind fun x =>
    (split_good x).bind fun x1 =>
    (inb t.2 t.1.length).bind fun i1 =>
    (t.1[i1]?).bind fun x2 =>
    some (.inl (List.set t.1 i1 x1, w64 (t.2 + 1)))
  else
    some (.inr t.1)

def split_Parts (count : Int) (weights : List Int) : Option (List Int) :=
  (slc weights 0 (imin (weights.length : Int) 100)).bind fun l =>
  (slices_Clone___int_int_ l).bind fun w =>
  (loop (split_Parts_l1 w) (w, 0)).bind fun w1 =>
  (mkl 8 (w1.length : Int) (w1.length : Int) 0).bind fun l1 =>
  (split_sum w1).bind fun all =>
  bif all == 0 then
    some l1
  else
    (split_good count).bind fun count1 =>
    (mkl 16 (w1.length : Int) (w1.length : Int) (⟨0, 0⟩ : Rest)).bind fun l2 =>
    (loop (split_Parts_l2 w1 all count1) (l1, l2, 0)).bind fun q =>
    (split_rest_ q.2 (fun a => split_rest_compare a.1 a.2.1)).bind fun x6 =>
    (split_sum q.1).bind fun x7 =>
    (inS 0 (w64 (count1 - x7)) x6.length).bind fun p =>
    (loop (split_Parts_l3 x6 p) (q.1, 0)).bind fun out =>
    some out
def h13 : Hint := (.s .z (.s .z (.s (.s .z (.b (.l [(5, .row (.int .i64) false), (23, .v (.int .i64) [])] [5, 6, 7, 23, 24, 25, 26, 27, 28, 29, 30, 31, 32, 33] [(2, [(5, .row (.int .i64) false)])] .z))) (.s .z (.s .z (.s .z (.s .z (.s .z (.s (.s .z (.b (.l [(8, .row (.int .i64) false), (10, .row (.st 0) false), (49, .v (.int .i64) [])] [8, 10, 11, 12, 49, 50, 51, 52, 53, 54, 55, 56, 57, 58, 59, 60, 61, 62, 63, 64, 65, 66, 67, 68, 69, 70, 71, 72] [(4, [(8, .row (.int .i64) false), (10, .row (.st 0) false)])] .z))) (.s .z (.s (.s .z (.b (.l [(8, .row (.int .i64) false), (82, .v (.int .i64) [])] [8, 14, 82] [(6, [(8, .row (.int .i64) false)])] .z))) .z)))))))))))
noncomputable def sp13 : Spec fam := ⟨[.v (.int .i64) [], .v (.slice (.int .i64)) []], [.v (.slice (.int .i64)) [0]], fun a => split_Parts a.1 a.2.1⟩

def dispatchlaw21_known : Option Bool :=
  (split_Parts 10 [1, 1, 1]).bind fun l =>
  bif (l.length : Int) == 3 then
    (inb 0 l.length).bind fun i =>
    (l[i]?).bind fun x =>
    bif x == 4 then
      (inb 1 l.length).bind fun i1 =>
      (l[i1]?).bind fun x1 =>
      bif x1 == 3 then
        (inb 2 l.length).bind fun i2 =>
        (l[i2]?).bind fun x2 =>
        some (x2 == 3)
      else
        some false
    else
      some false
  else
    some false
def h11 : Hint := .z
noncomputable def sp11 : Spec fam := ⟨[], [.v .bool []], fun _ => dispatchlaw21_known⟩

def dispatchlaw21_within (at_ : Int) (n : Int) : Option Int :=
  (nz n).bind fun _ =>
  (
    bif decide ((Int.tmod at_ n) < 0) then
      let k := w64 ((Int.tmod at_ n) + n)
      some k
    else
      some (Int.tmod at_ n)).bind fun k1 =>
  some k1
def h12 : Hint := (.s .z (.s .z (.s (.j [5] [(0, [(5, .v (.int .i64) [])])] .z) .z)))
noncomputable def sp12 : Spec fam := ⟨[.v (.int .i64) [], .v (.int .i64) []], [.v (.int .i64) []], fun a => dispatchlaw21_within a.1 a.2.1⟩

def dispatchlaw21_SplitSums_l2 (count1 : Int) (q : List Int × Int) (x4 : List Int) (t1 : Int × Int) : Option ((Int × Int) ⊕ (Bool ⊕ Int)) :=
  bif decide (t1.2 < (x4.length : Int)) then
    (inb t1.2 x4.length).bind fun i1 =>
    (x4[i1]?).bind fun x5 =>
    (
      (inb t1.2 x4.length).bind fun i2 =>
      (x4[i2]?).bind fun x6 =>
      bif decide (x6 < 0) then
        some true
      else
        (inb t1.2 q.1.length).bind fun i3 =>
        (q.1[i3]?).bind fun x7 =>
        bif x7 == 0 then
          (inb t1.2 x4.length).bind fun i4 =>
          (x4[i4]?).bind fun x8 =>
          bif x8 != 0 then
            some true
          else
            bif decide (q.2 > 0) then
              (inb t1.2 x4.length).bind fun i5 =>
              (x4[i5]?).bind fun x9 =>
              (inb t1.2 q.1.length).bind fun i6 =>
              (q.1[i6]?).bind fun x10 =>
              bif decide ((w64 (x9 * q.2)) > (w64 ((w64 (count1 * x10)) + q.2))) then
                some true
              else
                (inb t1.2 x4.length).bind fun i7 =>
                (x4[i7]?).bind fun x11 =>
                (inb t1.2 q.1.length).bind fun i8 =>
                (q.1[i8]?).bind fun x12 =>
                some (decide ((w64 ((w64 (x11 * q.2)) + q.2)) < (w64 (count1 * x12))))
            else
              some false
        else
          bif decide (q.2 > 0) then
            (inb t1.2 x4.length).bind fun i9 =>
            (x4[i9]?).bind fun x13 =>
            (inb t1.2 q.1.length).bind fun i10 =>
            (q.1[i10]?).bind fun x14 =>
            bif decide ((w64 (x13 * q.2)) > (w64 ((w64 (count1 * x14)) + q.2))) then
              some true
            else
              (inb t1.2 x4.length).bind fun i11 =>
              (x4[i11]?).bind fun x15 =>
              (inb t1.2 q.1.length).bind fun i12 =>
              (q.1[i12]?).bind fun x16 =>
              some (decide ((w64 ((w64 (x15 * q.2)) + q.2)) < (w64 (count1 * x16))))
          else
            some false).bind fun q1 =>
    bif q1 then
      some (.inr (.inl false))
    else
      some (.inl (w64 (t1.1 + x5), w64 (t1.2 + 1)))
  else
    some (.inr (.inr (t1.1)))

def dispatchlaw21_SplitSums_l1 (weights : List Int) (t : List Int × Int × Int) : Option ((List Int × Int × Int) ⊕ ((List Int × Int))) :=
  bif decide (t.2.2 < (weights.length : Int)) then
    (idx weights t.2.2).bind fun x1 =>
    (dispatchlaw21_within x1 50).bind fun x2 =>
    (app 8 t.1 [x2]).bind fun l =>
    (inb t.2.2 l.length).bind fun i =>
    (l[i]?).bind fun x3 =>
    some (.inl (l, w64 (t.2.1 + x3), w64 (t.2.2 + 1)))
  else
    some (.inr (t.1, t.2.1))

def dispatchlaw21_SplitSums (count : Int) (weights : List Int) : Option Bool :=
  (dispatchlaw21_known).bind fun x =>
  bif ! x then
    some false
  else
    bif decide ((weights.length : Int) > 50) then
      some true
    else
      (dispatchlaw21_within count 1000).bind fun count1 =>
      (loop (dispatchlaw21_SplitSums_l1 weights) ([], 0, 0)).bind fun q =>
      (split_Parts count1 q.1).bind fun x4 =>
      (loop (dispatchlaw21_SplitSums_l2 count1 q x4) (0, 0)).bind fun q0 =>
      match q0 with
      | .inl q2 =>
        some q2
      | .inr sum =>
        bif (x4.length : Int) == (q.1.length : Int) then
          bif q.2 == 0 then
            bif sum == 0 then
              some true
            else
              bif decide (q.2 > 0) then
                some (sum == count1)
              else
                some false
          else
            bif decide (q.2 > 0) then
              some (sum == count1)
            else
              some false
        else
          some false
def h3 : Hint := (.s .z (.s .z (.s .z (.s .z (.s .z (.s .z (.s (.s .z (.b (.l [(5, .v (.slice (.int .i64)) [0]), (6, .v (.int .i64) []), (7, .v (.int .i64) [])] [5, 6, 7] [(2, [(5, .v (.slice (.int .i64)) [0]), (6, .v (.int .i64) [])])] .z))) (.s .z (.s .z (.s (.s .z (.b (.l [(9, .v (.int .i64) []), (10, .v (.int .i64) [])] [4, 9, 10, 109] [(1, [(4, .v .bool [])]), (4, [(9, .v (.int .i64) [])])] (.s .z (.s (.b (.s .z (.s (.j [] [(0, [(109, .v .bool [])])] .z) .z))) .z))))) .z))))))))))
noncomputable def sp3 : Spec fam := ⟨[.v (.int .i64) [], .v (.slice (.int .i64)) []], [.v .bool []], fun a => dispatchlaw21_SplitSums a.1 a.2.1⟩

def dispatchlaw21_SplitEven_l2 (count1 : Int) (x1 : Int) (x4 : List Int) (i1 : Int) : Option (Int ⊕ (Bool ⊕ Unit)) :=
  bif decide (i1 < (w64 (1 + x1))) then
    (nz (w64 (1 + x1))).bind fun _ =>
    let want := w64 (Int.tdiv count1 (w64 (1 + x1)))
    (
      (nz (w64 (1 + x1))).bind fun _ =>
      bif decide (i1 < (Int.tmod count1 (w64 (1 + x1)))) then
        some (w64 (want + 1))
      else
        some want).bind fun want1 =>
    (inb i1 x4.length).bind fun i2 =>
    (x4[i2]?).bind fun x5 =>
    bif x5 != want1 then
      some (.inr (.inl false))
    else
      some (.inl (w64 (i1 + 1)))
  else
    some (.inr (.inr ()))

def dispatchlaw21_SplitEven_l1 (x1 : Int) (x2 : Int) (t : List Int × Int) : Option ((List Int × Int) ⊕ List Int) :=
  bif decide (t.2 < (w64 (1 + x1))) then
    (inb t.2 t.1.length).bind fun i =>
    (t.1[i]?).bind fun x3 =>
    some (.inl (List.set t.1 i (w64 (1 + x2)), w64 (t.2 + 1)))
  else
    some (.inr t.1)

def dispatchlaw21_SplitEven (count : Int) (n : Int) (w : Int) : Option Bool :=
  (dispatchlaw21_known).bind fun x =>
  bif ! x then
    some false
  else
    (dispatchlaw21_within count 500).bind fun count1 =>
    (dispatchlaw21_within n 12).bind fun x1 =>
    (dispatchlaw21_within w 1000).bind fun x2 =>
    (mkl 8 (w64 (1 + x1)) (w64 (1 + x1)) 0).bind fun l =>
    (loop (dispatchlaw21_SplitEven_l1 x1 x2) (l, 0)).bind fun l1 =>
    (split_Parts count1 l1).bind fun x4 =>
    bif (x4.length : Int) != (w64 (1 + x1)) then
      some false
    else
      (loop (dispatchlaw21_SplitEven_l2 count1 x1 x4) 0).bind fun q0 =>
      match q0 with
      | .inl q =>
        some q
      | .inr _ =>
        some true
def h4 : Hint := (.s .z (.s .z (.s .z (.s .z (.s (.s .z (.b (.l [(7, .v (.slice (.int .i64)) [0]), (8, .v (.int .i64) [])] [7, 8] [(2, [(7, .v (.slice (.int .i64)) [0])])] .z))) (.s .z (.s .z (.s (.s .z (.b (.l [(10, .v (.int .i64) [])] [6, 10, 11] [(1, [(6, .v .bool [])]), (4, [])] (.s .z (.s (.b (.s .z (.s (.j [11] [(0, [(11, .v (.int .i64) [])])] .z) .z))) .z))))) .z))))))))
noncomputable def sp4 : Spec fam := ⟨[.v (.int .i64) [], .v (.int .i64) [], .v (.int .i64) []], [.v .bool []], fun a => dispatchlaw21_SplitEven a.1 a.2.1 a.2.2.1⟩

def dispatchlaw21_ints_l1 (a : List Int) (b : List Int) (i : Int) : Option (Int ⊕ (Bool ⊕ Unit)) :=
  bif decide (i < (a.length : Int)) then
    (idx a i).bind fun x =>
    (idx b i).bind fun x1 =>
    bif x != x1 then
      some (.inr (.inl false))
    else
      some (.inl (w64 (i + 1)))
  else
    some (.inr (.inr ()))

def dispatchlaw21_ints (a : List Int) (b : List Int) : Option Bool :=
  bif (a.length : Int) != (b.length : Int) then
    some false
  else
    (loop (dispatchlaw21_ints_l1 a b) 0).bind fun q0 =>
    match q0 with
    | .inl q =>
      some q
    | .inr _ =>
      some true
def h14 : Hint := (.s .z (.s .z (.s (.s .z (.b (.l [(5, .v (.int .i64) [])] [4, 5] [(1, [(4, .v .bool [])]), (2, [])] .z))) .z)))
noncomputable def sp14 : Spec fam := ⟨[.v (.slice (.int .i64)) [], .v (.slice (.int .i64)) []], [.v .bool []], fun a => dispatchlaw21_ints a.1 a.2.1⟩

def dispatchlaw21_SplitTimes_l1 (weights : List Int) (x1 : Int) (t : List Int × List Int × Int) : Option ((List Int × List Int × Int) ⊕ ((List Int × List Int))) :=
  bif decide (t.2.2 < (weights.length : Int)) then
    (idx weights t.2.2).bind fun x2 =>
    (dispatchlaw21_within x2 100).bind fun x3 =>
    (app 8 t.1 [x3]).bind fun l =>
    (idx weights t.2.2).bind fun x4 =>
    (dispatchlaw21_within x4 100).bind fun x5 =>
    (app 8 t.2.1 [w64 ((w64 (1 + x1)) * x5)]).bind fun l1 =>
    some (.inl (l, l1, w64 (t.2.2 + 1)))
  else
    some (.inr (t.1, t.2.1))

def dispatchlaw21_SplitTimes (count : Int) (weights : List Int) (k : Int) : Option Bool :=
  (dispatchlaw21_known).bind fun x =>
  bif ! x then
    some false
  else
    bif decide ((weights.length : Int) > 20) then
      some true
    else
      (dispatchlaw21_within count 500).bind fun count1 =>
      (dispatchlaw21_within k 100).bind fun x1 =>
      (loop (dispatchlaw21_SplitTimes_l1 weights x1) ([], [], 0)).bind fun q =>
      (split_Parts count1 q.1).bind fun x6 =>
      (split_Parts count1 q.2).bind fun x7 =>
      (dispatchlaw21_ints x6 x7).bind fun x8 =>
      some x8
def h5 : Hint := (.s .z (.s .z (.s .z (.s .z (.s .z (.s (.s .z (.b (.l [(7, .v (.slice (.int .i64)) [0]), (8, .v (.slice (.int .i64)) [0]), (9, .v (.int .i64) [])] [7, 8, 9] [(2, [(7, .v (.slice (.int .i64)) [0]), (8, .v (.slice (.int .i64)) [0])])] .z))) .z))))))
noncomputable def sp5 : Spec fam := ⟨[.v (.int .i64) [], .v (.slice (.int .i64)) [], .v (.int .i64) []], [.v .bool []], fun a => dispatchlaw21_SplitTimes a.1 a.2.1 a.2.2.1⟩

def dispatchlaw21_SplitMore_l2 (a : List Int) (b : List Int) (t1 : Int × Int) : Option ((Int × Int) ⊕ (Bool ⊕ Int)) :=
  bif decide (t1.2 < (a.length : Int)) then
    (inb t1.2 b.length).bind fun i2 =>
    (b[i2]?).bind fun x5 =>
    (inb t1.2 a.length).bind fun i3 =>
    (a[i3]?).bind fun x6 =>
    let n := w64 ((w64 (t1.1 + x5)) - x6)
    (
      (inb t1.2 b.length).bind fun i4 =>
      (b[i4]?).bind fun x7 =>
      (inb t1.2 a.length).bind fun i5 =>
      (a[i5]?).bind fun x8 =>
      bif decide ((w64 (x7 - x8)) > 2) then
        some true
      else
        (inb t1.2 b.length).bind fun i6 =>
        (b[i6]?).bind fun x9 =>
        (inb t1.2 a.length).bind fun i7 =>
        (a[i7]?).bind fun x10 =>
        some (decide ((w64 (x9 - x10)) < (-1)))).bind fun q1 =>
    bif q1 then
      some (.inr (.inl false))
    else
      some (.inl (n, w64 (t1.2 + 1)))
  else
    some (.inr (.inr (t1.1)))

def dispatchlaw21_SplitMore_l1 (weights : List Int) (t : List Int × Int) : Option ((List Int × Int) ⊕ List Int) :=
  bif decide (t.2 < (weights.length : Int)) then
    (idx weights t.2).bind fun x1 =>
    (dispatchlaw21_within x1 40).bind fun x2 =>
    (app 8 t.1 [x2]).bind fun l =>
    some (.inl (l, w64 (t.2 + 1)))
  else
    some (.inr t.1)

def dispatchlaw21_SplitMore (count : Int) (weights : List Int) : Option Bool :=
  (dispatchlaw21_known).bind fun x =>
  bif ! x then
    some false
  else
    (
      bif (weights.length : Int) == 0 then
        some true
      else
        some (decide ((weights.length : Int) > 20))).bind fun q =>
    bif q then
      some true
    else
      (loop (dispatchlaw21_SplitMore_l1 weights) ([], 0)).bind fun w =>
      (inb 0 w.length).bind fun i =>
      (w[i]?).bind fun x3 =>
      (inb 0 w.length).bind fun i1 =>
      (w[i1]?).bind fun x4 =>
      (dispatchlaw21_within count 500).bind fun count1 =>
      (split_Parts count1 (List.set w i1 (w64 (x3 + 1)))).bind fun a =>
      (split_Parts (w64 (count1 + 1)) (List.set w i1 (w64 (x3 + 1)))).bind fun b =>
      (loop (dispatchlaw21_SplitMore_l2 a b) (0, 0)).bind fun q0 =>
      match q0 with
      | .inl q2 =>
        some q2
      | .inr n1 =>
        some (n1 == 1)
def h6 : Hint := (.s .z (.s .z (.s (.s (.j [] [(0, [(20, .v .bool [])])] .z) .z) (.s .z (.s (.s .z (.b (.l [(5, .v (.slice (.int .i64)) [0]), (6, .v (.int .i64) [])] [5, 6] [(2, [(5, .v (.slice (.int .i64)) [0])])] .z))) (.s .z (.s .z (.s .z (.s .z (.s (.s .z (.b (.l [(9, .v (.int .i64) []), (10, .v (.int .i64) [])] [4, 9, 10, 87] [(1, [(4, .v .bool [])]), (4, [(9, .v (.int .i64) [])])] (.s .z (.s (.b (.s .z (.s (.j [] [(0, [(87, .v .bool [])])] .z) .z))) .z))))) .z))))))))))
noncomputable def sp6 : Spec fam := ⟨[.v (.int .i64) [], .v (.slice (.int .i64)) []], [.v .bool []], fun a => dispatchlaw21_SplitMore a.1 a.2.1⟩

def split_Home_l1 (l : List Sub) (t : List Int × Int) : Option ((List Int × Int) ⊕ List Int) :=
  bif decide (t.2 < (l.length : Int)) then
    (
      (idx l t.2).bind fun x =>
      bif x.Up then
        (app 8 t.1 [t.2]).bind fun l1 =>
        some l1
      else
        some t.1).bind fun up =>
    some (.inl (up, w64 (t.2 + 1)))
  else
    some (.inr t.1)

def split_Home (l : List Sub) (app_ : Int) : Option (Int × Int) :=
  (loop (split_Home_l1 l) ([], 0)).bind fun up1 =>
  bif decide (app_ < 0) then
    some (0, 1)
  else
    bif (up1.length : Int) == 0 then
      some (0, 18)
    else
      (nz (up1.length : Int)).bind fun _ =>
      (inb (Int.tmod app_ (up1.length : Int)) up1.length).bind fun i =>
      (up1[i]?).bind fun x1 =>
      some (x1, 0)
def h15 : Hint := (.s .z (.s .z (.s (.s .z (.b (.l [(6, .v (.slice (.int .i64)) [0]), (11, .v (.int .i64) [])] [6, 7, 8, 11] [(2, [(6, .v (.slice (.int .i64)) [0])])] (.s .z (.s .z (.s (.j [6, 7, 8] [(0, [(6, .v (.slice (.int .i64)) [0])])] .z) .z)))))) .z)))
noncomputable def sp15 : Spec fam := ⟨[.v (.slice (.st 1)) [], .v (.int .i64) []], [.v (.int .i64) [], .v (.int .i64) []], fun a => split_Home a.1 a.2.1⟩

def dispatchlaw21_SplitHomes_l1 (ups : List Bool) (t : List Sub × List Int × Int) : Option ((List Sub × List Int × Int) ⊕ ((List Sub × List Int))) :=
  (
    bif decide (t.2.2 < (ups.length : Int)) then
      some (decide (t.2.2 < 4))
    else
      some false).bind fun q =>
  bif q then
    (
      (idx ups t.2.2).bind fun x1 =>
      (app 48 t.1 [(⟨0, x1, [], 0⟩ : Sub)]).bind fun l =>
      (idx ups t.2.2).bind fun x2 =>
      bif x2 then
        (app 8 t.2.1 [t.2.2]).bind fun l1 =>
        some (l, l1)
      else
        some (l, t.2.1)).bind fun q1 =>
    some (.inl (q1.1, q1.2, w64 (t.2.2 + 1)))
  else
    some (.inr (t.1, t.2.1))

def dispatchlaw21_SplitHomes (ups : List Bool) (app_ : Int) : Option Bool :=
  (dispatchlaw21_known).bind fun x =>
  bif ! x then
    some false
  else
    (loop (dispatchlaw21_SplitHomes_l1 ups) ([], [], 0)).bind fun q2 =>
    (dispatchlaw21_within app_ 10000).bind fun app_1 =>
    (split_Home q2.1 app_1).bind fun x3 =>
    bif (q2.2.length : Int) == 0 then
      bif x3.2 != 0 then
        some (x3.1 == 0)
      else
        some false
    else
      bif x3.2 == 0 then
        (nz (q2.2.length : Int)).bind fun _ =>
        (inb (Int.tmod app_1 (q2.2.length : Int)) q2.2.length).bind fun i =>
        (q2.2[i]?).bind fun x4 =>
        some (x3.1 == x4)
      else
        some false
def h7 : Hint := (.s .z (.s .z (.s .z (.s .z (.s (.s .z (.b (.l [(5, .v (.slice (.st 1)) [0]), (6, .v (.slice (.int .i64)) [0]), (7, .v (.int .i64) [])] [5, 6, 7, 19] [(2, [(5, .v (.slice (.st 1)) [0]), (6, .v (.slice (.int .i64)) [0])])] (.s (.s (.j [] [(0, [(19, .v .bool [])])] .z) .z) (.s (.j [5, 6] [(0, [(5, .v (.slice (.st 1)) [0]), (6, .v (.slice (.int .i64)) [0])])] .z) .z))))) .z)))))
noncomputable def sp7 : Spec fam := ⟨[.v (.slice (.bool)) [], .v (.int .i64) []], [.v .bool []], fun a => dispatchlaw21_SplitHomes a.1 a.2.1⟩

def dispatchlaw21_few_l1 (l : List Sub) (i : Int) : Option (Int ⊕ (Bool ⊕ Unit)) :=
  bif decide (i < (l.length : Int)) then
    (idx l i).bind fun x =>
    bif decide ((x.Racks.length : Int) > 20) then
      some (.inr (.inl false))
    else
      some (.inl (w64 (i + 1)))
  else
    some (.inr (.inr ()))

def dispatchlaw21_few (l : List Sub) : Option Bool :=
  (loop (dispatchlaw21_few_l1 l) 0).bind fun q0 =>
  match q0 with
  | .inl q =>
    some q
  | .inr _ =>
    some (decide ((l.length : Int) ≤ 4))
def h16 : Hint := (.s .z (.s (.s .z (.b (.l [(3, .v (.int .i64) [])] [2, 3] [(1, [(2, .v .bool [])]), (2, [])] .z))) .z))
noncomputable def sp16 : Spec fam := ⟨[.v (.slice (.st 1)) []], [.v .bool []], fun a => dispatchlaw21_few a.1⟩

def dispatchlaw21_in_l1 (l : List Int) (n : Int) (i : Int) : Option (Int ⊕ (Bool ⊕ Unit)) :=
  bif decide (i < (l.length : Int)) then
    (idx l i).bind fun x =>
    bif x == n then
      some (.inr (.inl true))
    else
      some (.inl (w64 (i + 1)))
  else
    some (.inr (.inr ()))

def dispatchlaw21_in (l : List Int) (n : Int) : Option Bool :=
  (loop (dispatchlaw21_in_l1 l n) 0).bind fun q0 =>
  match q0 with
  | .inl q =>
    some q
  | .inr _ =>
    some false
def h17 : Hint := (.s .z (.s (.s .z (.b (.l [(5, .v (.int .i64) [])] [4, 5] [(1, [(4, .v .bool [])]), (2, [])] .z))) .z))
noncomputable def sp17 : Spec fam := ⟨[.v (.slice (.int .i64)) [], .v (.int .i64) []], [.v .bool []], fun a => dispatchlaw21_in a.1 a.2.1⟩

def slices_Index___int_int__l1 (s : List Int) (v : Int) (t : Int) : Option (Int ⊕ (Int ⊕ Unit)) :=
  bif decide (t < (s.length : Int)) then
    (idx s t).bind fun x =>
    bif v == x then
      some (.inr (.inl t))
    else
      some (.inl (w64 (t + 1)))
  else
    some (.inr (.inr ()))

def slices_Index___int_int_ (s : List Int) (v : Int) : Option Int :=
  (loop (slices_Index___int_int__l1 s v) 0).bind fun q0 =>
  match q0 with
  | .inl q =>
    some q
  | .inr _ =>
    some (-1)
def h38 : Hint := (.s .z (.s (.s .z (.b (.l [(8, .v (.int .i64) [])] [4, 5, 8] [(1, [(4, .v (.int .i64) [])]), (2, [])] .z))) .z))
noncomputable def sp38 : Spec fam := ⟨[.v (.slice (.int .i64)) [], .v (.int .i64) []], [.v (.int .i64) []], fun a => slices_Index___int_int_ a.1 a.2.1⟩

def slices_Contains___int_int_ (s : List Int) (v : Int) : Option Bool :=
  (slices_Index___int_int_ s v).bind fun x =>
  some (decide (x ≥ 0))
def h28 : Hint := .z
noncomputable def sp28 : Spec fam := ⟨[.v (.slice (.int .i64)) [], .v (.int .i64) []], [.v .bool []], fun a => slices_Contains___int_int_ a.1 a.2.1⟩

def split_Split_1 (s : Sub) (p : Int) : Option Int :=
  (
    bif p != (-1) then
      (slices_Contains___int_int_ s.Racks p).bind fun x =>
      some x
    else
      some false).bind fun q =>
  bif q then
    some 1
  else
    some 0
def h27 : Hint := (.s .z (.s (.s (.j [] [(0, [(11, .v .bool [])])] .z) .z) .z))
noncomputable def sp27 : Spec fam := ⟨[.v (.st 1) [], .rp (.int .i64)], [.v (.int .i64) []], fun a => split_Split_1 a.1 a.2.1⟩

def split_weights_l1 (l : List Sub) (of : (TupT fam [.st 1] → Option Int)) (t : List Int × Int) : Option ((List Int × Int) ⊕ List Int) :=
  bif decide (t.2 < (l.length : Int)) then
    (
      (idx l t.2).bind fun x =>
      bif x.Up then
        (of (x, ())).bind fun r =>
        (inb t.2 t.1.length).bind fun i =>
        (t.1[i]?).bind fun x1 =>
        some (List.set t.1 i r)
      else
        some t.1).bind fun out =>
    some (.inl (out, w64 (t.2 + 1)))
  else
    some (.inr t.1)

def split_weights (l : List Sub) (of : (TupT fam [.st 1] → Option Int)) : Option (List Int) :=
  (mkl 8 (l.length : Int) (l.length : Int) 0).bind fun l1 =>
  (loop (split_weights_l1 l of) (l1, 0)).bind fun out1 =>
  some out1
def h29 : Hint := (.s .z (.s .z (.s (.s .z (.b (.l [(5, .row (.int .i64) false), (13, .v (.int .i64) [])] [5, 6, 7, 13] [(2, [(5, .row (.int .i64) false)])] (.s .z (.s .z (.s (.j [5, 6, 7] [(0, [(5, .row (.int .i64) false)])] .z) .z)))))) .z)))
noncomputable def sp29 : Spec fam := ⟨[.v (.slice (.st 1)) [], .fn [.st 1] (.int .i64)], [.v (.slice (.int .i64)) [0]], fun a => split_weights a.1 a.2.1⟩

def split_Sub_weight (s : Sub) : Option Int :=
  some s.Weight
def h30 : Hint := .z
noncomputable def sp30 : Spec fam := ⟨[.v (.st 1) []], [.v (.int .i64) []], fun a => split_Sub_weight a.1⟩

def split_Sub_load (s : Sub) : Option Int :=
  (nz (w64 (1 + (imin (imax s.Load 0) 999999)))).bind fun _ =>
  some (w64 (Int.tdiv 1000000 (w64 (1 + (imin (imax s.Load 0) 999999)))))
def h31 : Hint := .z
noncomputable def sp31 : Spec fam := ⟨[.v (.st 1) []], [.v (.int .i64) []], fun a => split_Sub_load a.1⟩

def split_Split (policy : Int) (l : List Sub) (count : Int) (rack : Int) : Option (List Int) :=
  bif policy == 2 then
    (split_weights l (fun a => split_Split_1 a.1 rack)).bind fun w =>
    (split_sum w).bind fun x =>
    bif decide (x > 0) then
      (split_Parts count w).bind fun x1 =>
      some x1
    else
      (split_weights l (fun a => split_Sub_weight a.1)).bind fun x2 =>
      (split_Parts count x2).bind fun x3 =>
      some x3
  else
    bif policy == 1 then
      (split_weights l (fun a => split_Sub_weight a.1)).bind fun x4 =>
      (split_Parts count x4).bind fun x5 =>
      some x5
    else
      bif policy == 3 then
        (split_weights l (fun a => split_Sub_load a.1)).bind fun x6 =>
        (split_Parts count x6).bind fun x7 =>
        some x7
      else
        (mkl 8 (l.length : Int) (l.length : Int) 0).bind fun l1 =>
        some l1
def h18 : Hint := .z
noncomputable def sp18 : Spec fam := ⟨[.v (.int .i64) [], .v (.slice (.st 1)) [], .v (.int .i64) [], .v (.int .i64) []], [.v (.slice (.int .i64)) [0]], fun a => split_Split a.1 a.2.1 a.2.2.1 a.2.2.2.1⟩

def dispatchlaw21_SplitUps_l2 (rack : Int) (x2 : Int) (q1 : List Sub × Bool × Bool) (p : List Int) (t1 : Int × Int) : Option ((Int × Int) ⊕ (Bool ⊕ Int)) :=
  bif decide (t1.2 < (p.length : Int)) then
    (
      (inb t1.2 q1.1.length).bind fun i7 =>
      (q1.1[i7]?).bind fun x13 =>
      bif ! x13.Up then
        (inb t1.2 p.length).bind fun i8 =>
        (p[i8]?).bind fun x14 =>
        bif x14 != 0 then
          some true
        else
          bif (w64 (1 + x2)) == 2 then
            bif q1.2.2 then
              (inb t1.2 p.length).bind fun i9 =>
              (p[i9]?).bind fun x15 =>
              bif x15 != 0 then
                (inb t1.2 q1.1.length).bind fun i10 =>
                (q1.1[i10]?).bind fun x16 =>
                (dispatchlaw21_in x16.Racks rack).bind fun x17 =>
                some (! x17)
              else
                some false
            else
              some false
          else
            some false
      else
        bif (w64 (1 + x2)) == 2 then
          bif q1.2.2 then
            (inb t1.2 p.length).bind fun i11 =>
            (p[i11]?).bind fun x18 =>
            bif x18 != 0 then
              (inb t1.2 q1.1.length).bind fun i12 =>
              (q1.1[i12]?).bind fun x19 =>
              (dispatchlaw21_in x19.Racks rack).bind fun x20 =>
              some (! x20)
            else
              some false
          else
            some false
        else
          some false).bind fun q2 =>
    bif q2 then
      some (.inr (.inl false))
    else
      (inb t1.2 p.length).bind fun i13 =>
      (p[i13]?).bind fun x21 =>
      some (.inl (w64 (t1.1 + x21), w64 (t1.2 + 1)))
  else
    some (.inr (.inr (t1.1)))

def dispatchlaw21_SplitUps_l1 (rack : Int) (t : List Sub × Bool × Bool × Int) : Option ((List Sub × Bool × Bool × Int) ⊕ ((List Sub × Bool × Bool))) :=
  bif decide (t.2.2.2 < (t.1.length : Int)) then
    (
      (inb t.2.2.2 t.1.length).bind fun i =>
      (t.1[i]?).bind fun x3 =>
      (dispatchlaw21_within x3.Weight 9).bind fun x4 =>
      (inb t.2.2.2 t.1.length).bind fun i1 =>
      (t.1[i1]?).bind fun x5 =>
      (dispatchlaw21_within x5.Load 9).bind fun x6 =>
      (inb t.2.2.2 t.1.length).bind fun i2 =>
      (t.1[i2]?).bind fun x7 =>
      (inb t.2.2.2 (List.set t.1 i2 (⟨w64 (1 + x4), x7.Up, x7.Racks, x7.Load⟩ : Sub)).length).bind fun i3 =>
      ((List.set t.1 i2 (⟨w64 (1 + x4), x7.Up, x7.Racks, x7.Load⟩ : Sub))[i3]?).bind fun x8 =>
      (
        bif t.2.1 then
          some true
        else
          (inb t.2.2.2 (List.set (List.set t.1 i2 (⟨w64 (1 + x4), x7.Up, x7.Racks, x7.Load⟩ : Sub)) i3 (⟨x8.Weight, x8.Up, x8.Racks, x6⟩ : Sub)).length).bind fun i4 =>
          ((List.set (List.set t.1 i2 (⟨w64 (1 + x4), x7.Up, x7.Racks, x7.Load⟩ : Sub)) i3 (⟨x8.Weight, x8.Up, x8.Racks, x6⟩ : Sub))[i4]?).bind fun x9 =>
          some x9.Up).bind fun any =>
      bif t.2.2.1 then
        some (List.set (List.set t.1 i2 (⟨w64 (1 + x4), x7.Up, x7.Racks, x7.Load⟩ : Sub)) i3 (⟨x8.Weight, x8.Up, x8.Racks, x6⟩ : Sub), any, true)
      else
        (inb t.2.2.2 (List.set (List.set t.1 i2 (⟨w64 (1 + x4), x7.Up, x7.Racks, x7.Load⟩ : Sub)) i3 (⟨x8.Weight, x8.Up, x8.Racks, x6⟩ : Sub)).length).bind fun i5 =>
        ((List.set (List.set t.1 i2 (⟨w64 (1 + x4), x7.Up, x7.Racks, x7.Load⟩ : Sub)) i3 (⟨x8.Weight, x8.Up, x8.Racks, x6⟩ : Sub))[i5]?).bind fun x10 =>
        bif x10.Up then
          bif decide (rack ≥ 0) then
            (inb t.2.2.2 (List.set (List.set t.1 i2 (⟨w64 (1 + x4), x7.Up, x7.Racks, x7.Load⟩ : Sub)) i3 (⟨x8.Weight, x8.Up, x8.Racks, x6⟩ : Sub)).length).bind fun i6 =>
            ((List.set (List.set t.1 i2 (⟨w64 (1 + x4), x7.Up, x7.Racks, x7.Load⟩ : Sub)) i3 (⟨x8.Weight, x8.Up, x8.Racks, x6⟩ : Sub))[i6]?).bind fun x11 =>
            (dispatchlaw21_in x11.Racks rack).bind fun x12 =>
            some (List.set (List.set t.1 i2 (⟨w64 (1 + x4), x7.Up, x7.Racks, x7.Load⟩ : Sub)) i3 (⟨x8.Weight, x8.Up, x8.Racks, x6⟩ : Sub), any, x12)
          else
            some (List.set (List.set t.1 i2 (⟨w64 (1 + x4), x7.Up, x7.Racks, x7.Load⟩ : Sub)) i3 (⟨x8.Weight, x8.Up, x8.Racks, x6⟩ : Sub), any, false)
        else
          some (List.set (List.set t.1 i2 (⟨w64 (1 + x4), x7.Up, x7.Racks, x7.Load⟩ : Sub)) i3 (⟨x8.Weight, x8.Up, x8.Racks, x6⟩ : Sub), any, false)).bind fun q =>
    some (.inl (q.1, q.2.1, q.2.2, w64 (t.2.2.2 + 1)))
  else
    some (.inr (t.1, t.2.1, t.2.2.1))

def dispatchlaw21_SplitUps (policy : Int) (l : List Sub) (count : Int) (rack : Int) : Option Bool :=
  (dispatchlaw21_known).bind fun x =>
  bif ! x then
    some false
  else
    (dispatchlaw21_few l).bind fun x1 =>
    bif ! x1 then
      some true
    else
      (dispatchlaw21_within policy 3).bind fun x2 =>
      (dispatchlaw21_within count 200).bind fun count1 =>
      (app 48 [] l).bind fun l1 =>
      (loop (dispatchlaw21_SplitUps_l1 rack) (l1, false, false, 0)).bind fun q1 =>
      (split_Split (w64 (1 + x2)) q1.1 count1 rack).bind fun p =>
      (loop (dispatchlaw21_SplitUps_l2 rack x2 q1 p) (0, 0)).bind fun q0 =>
      match q0 with
      | .inl q3 =>
        some q3
      | .inr sum =>
        bif (p.length : Int) == (q1.1.length : Int) then
          bif q1.2.1 then
            bif sum == count1 then
              some true
            else
              bif ! q1.2.1 then
                some (sum == 0)
              else
                some false
          else
            bif ! q1.2.1 then
              some (sum == 0)
            else
              some false
        else
          some false
def h8 : Hint := (.s .z (.s .z (.s .z (.s .z (.s .z (.s .z (.s (.s .z (.b (.l [(9, .v (.slice (.st 1)) [0]), (10, .v .bool []), (11, .v .bool []), (12, .v (.int .i64) [])] [9, 10, 11, 12] [(2, [(9, .v (.slice (.st 1)) [0]), (10, .v .bool []), (11, .v .bool [])])] (.s .z (.s (.j [9, 10, 11] [(0, [(9, .v (.slice (.st 1)) [0]), (10, .v .bool []), (11, .v .bool [])])] (.b (.s .z (.s (.j [10] [(0, [(10, .v .bool [])])] .z) .z)))) .z))))) (.s .z (.s .z (.s (.s .z (.b (.l [(14, .v (.int .i64) []), (15, .v (.int .i64) [])] [8, 14, 15, 132] [(1, [(8, .v .bool [])]), (4, [(14, .v (.int .i64) [])])] (.s .z (.s (.b (.s (.s (.j [] [(0, [(132, .v .bool [])])] .z) .z) .z)) .z))))) .z))))))))))
noncomputable def sp8 : Spec fam := ⟨[.v (.int .i64) [], .v (.slice (.st 1)) [], .v (.int .i64) [], .v (.int .i64) []], [.v .bool []], fun a => dispatchlaw21_SplitUps a.1 a.2.1 a.2.2.1 a.2.2.2.1⟩

def dispatchlaw21_SplitLoads_l3 (l1 : List Sub) (x4 : List Int) (i : Int) (k : Int) : Option (Int ⊕ (Bool ⊕ Unit)) :=
  bif decide (k < (x4.length : Int)) then
    (
      (inb i l1.length).bind fun i1 =>
      (l1[i1]?).bind fun x5 =>
      (inb k l1.length).bind fun i2 =>
      (l1[i2]?).bind fun x6 =>
      bif decide (x5.Load < x6.Load) then
        (inb i x4.length).bind fun i3 =>
        (x4[i3]?).bind fun x7 =>
        (inb k x4.length).bind fun i4 =>
        (x4[i4]?).bind fun x8 =>
        some (decide (x7 < x8))
      else
        some false).bind fun q1 =>
    bif q1 then
      some (.inr (.inl false))
    else
      some (.inl (w64 (k + 1)))
  else
    some (.inr (.inr ()))

def dispatchlaw21_SplitLoads_l2 (l1 : List Sub) (x4 : List Int) (i : Int) : Option (Int ⊕ (Bool ⊕ Unit)) :=
  bif decide (i < (x4.length : Int)) then
    (loop (dispatchlaw21_SplitLoads_l3 l1 x4 i) 0).bind fun q0 =>
    match q0 with
    | .inl q2 =>
      some (.inr (.inl q2))
    | .inr _ =>
      some (.inl (w64 (i + 1)))
  else
    some (.inr (.inr ()))

def dispatchlaw21_SplitLoads_l1 (loads : List Int) (t : List Sub × Int) : Option ((List Sub × Int) ⊕ List Sub) :=
  (
    bif decide (t.2 < (loads.length : Int)) then
      some (decide (t.2 < 4))
    else
      some false).bind fun q =>
  bif q then
    (idx loads t.2).bind fun x1 =>
    (dispatchlaw21_within x1 100).bind fun x2 =>
    (app 48 t.1 [(⟨0, true, [], x2⟩ : Sub)]).bind fun l =>
    some (.inl (l, w64 (t.2 + 1)))
  else
    some (.inr t.1)

def dispatchlaw21_SplitLoads (loads : List Int) (count : Int) : Option Bool :=
  (dispatchlaw21_known).bind fun x =>
  bif ! x then
    some false
  else
    (loop (dispatchlaw21_SplitLoads_l1 loads) ([], 0)).bind fun l1 =>
    (dispatchlaw21_within count 300).bind fun x3 =>
    (split_Split 3 l1 x3 0).bind fun x4 =>
    (loop (dispatchlaw21_SplitLoads_l2 l1 x4) 0).bind fun q0 =>
    match q0 with
    | .inl q3 =>
      some q3
    | .inr _ =>
      some ((x4.length : Int) == (l1.length : Int))
def h9 : Hint := (.s .z (.s .z (.s .z (.s (.s .z (.b (.l [(5, .v (.slice (.st 1)) [0]), (6, .v (.int .i64) [])] [5, 6, 19] [(2, [(5, .v (.slice (.st 1)) [0])])] (.s (.s (.j [] [(0, [(19, .v .bool [])])] .z) .z) .z)))) (.s .z (.s (.s .z (.b (.l [(8, .v (.int .i64) [])] [4, 8, 9, 68] [(1, [(4, .v .bool [])]), (4, [])] (.s .z (.s (.b (.s .z (.b (.l [(9, .v (.int .i64) [])] [4, 9, 68] [(1, [(4, .v .bool [])]), (6, [])] (.s .z (.s (.b (.s (.j [] [(0, [(68, .v .bool [])])] .z) .z)) .z)))))) .z))))) .z))))))
noncomputable def sp9 : Spec fam := ⟨[.v (.slice (.int .i64)) [], .v (.int .i64) []], [.v .bool []], fun a => dispatchlaw21_SplitLoads a.1 a.2.1⟩

def dispatchref21_has_l1 (l : List Int) (n : Int) (i : Int) : Option (Int ⊕ (Bool ⊕ Unit)) :=
  bif decide (i < (l.length : Int)) then
    (idx l i).bind fun x =>
    bif x == n then
      some (.inr (.inl true))
    else
      some (.inl (w64 (i + 1)))
  else
    some (.inr (.inr ()))

def dispatchref21_has (l : List Int) (n : Int) : Option Bool :=
  (loop (dispatchref21_has_l1 l n) 0).bind fun q0 =>
  match q0 with
  | .inl q =>
    some q
  | .inr _ =>
    some false
def h32 : Hint := (.s .z (.s (.s .z (.b (.l [(5, .v (.int .i64) [])] [4, 5] [(1, [(4, .v .bool [])]), (2, [])] .z))) .z))
noncomputable def sp32 : Spec fam := ⟨[.v (.slice (.int .i64)) [], .v (.int .i64) []], [.v .bool []], fun a => dispatchref21_has a.1 a.2.1⟩

def dispatchref21_good (n : Int) : Option Int :=
  (
    bif decide (n < 0) then
      some true
    else
      some (decide (n > 1048576))).bind fun q =>
  bif q then
    some 0
  else
    some n
def h39 : Hint := (.s .z (.s (.s (.j [] [(0, [(8, .v .bool [])])] .z) .z) .z))
noncomputable def sp39 : Spec fam := ⟨[.v (.int .i64) []], [.v (.int .i64) []], fun a => dispatchref21_good a.1⟩

def dispatchref21_Parts_l4 (t2 : List Int × Int × List Int) (t3 : Int × Int) : Option ((Int × Int) ⊕ Int) :=
  bif decide (t3.2 < (t2.2.2.length : Int)) then
    (
      (inb t3.2 t2.2.2.length).bind fun i3 =>
      (t2.2.2[i3]?).bind fun x9 =>
      (inb t3.1 t2.2.2.length).bind fun i4 =>
      (t2.2.2[i4]?).bind fun x10 =>
      bif decide (x9 > x10) then
        some t3.2
      else
        some t3.1).bind fun k =>
    some (.inl (k, w64 (t3.2 + 1)))
  else
    some (.inr t3.1)

def dispatchref21_Parts_l3 (t2 : List Int × Int × List Int) : Option ((List Int × Int × List Int) ⊕ List Int) :=
  bif decide (t2.2.1 > 0) then
    (loop (dispatchref21_Parts_l4 t2) (0, 1)).bind fun k1 =>
    (inb k1 t2.1.length).bind fun i5 =>
    (t2.1[i5]?).bind fun x11 =>
    (inb k1 t2.1.length).bind fun i6 =>
    (t2.1[i6]?).bind fun x12 =>
    (inb k1 t2.2.2.length).bind fun i7 =>
    (t2.2.2[i7]?).bind fun x13 =>
    some (.inl (List.set t2.1 i6 (w64 (x11 + 1)), w64 (t2.2.1 - 1), List.set t2.2.2 i7 (-1)))
  else
    some (.inr t2.1)

def dispatchref21_Parts_l2 (l : List Int) (count1 : Int) (sum : Int) (t1 : List Int × Int × List Int × Int) : Option ((List Int × Int × List Int × Int) ⊕ ((List Int × Int × List Int))) :=
  bif decide (t1.2.2.2 < (l.length : Int)) then
    (idx l t1.2.2.2).bind fun x2 =>
    (dispatchref21_good x2).bind fun x3 =>
    (nz sum).bind fun _ =>
    (inb t1.2.2.2 t1.1.length).bind fun i =>
    (t1.1[i]?).bind fun x4 =>
    (idx l t1.2.2.2).bind fun x5 =>
    (dispatchref21_good x5).bind fun x6 =>
    (nz sum).bind fun _ =>
    (inb t1.2.2.2 t1.2.2.1.length).bind fun i1 =>
    (t1.2.2.1[i1]?).bind fun x7 =>
    (inb t1.2.2.2 (List.set t1.1 i (w64 (Int.tdiv (w64 (count1 * x3)) sum))).length).bind fun i2 =>
    ((List.set t1.1 i (w64 (Int.tdiv (w64 (count1 * x3)) sum)))[i2]?).bind fun x8 =>
    some (.inl (List.set t1.1 i (w64 (Int.tdiv (w64 (count1 * x3)) sum)), w64 (t1.2.1 - x8), List.set t1.2.2.1 i1 (Int.tmod (w64 (count1 * x6)) sum), w64 (t1.2.2.2 + 1)))
  else
    some (.inr (t1.1, t1.2.1, t1.2.2.1))

def dispatchref21_Parts_l1 (l : List Int) (t : Int × Int) : Option ((Int × Int) ⊕ Int) :=
  bif decide (t.2 < (l.length : Int)) then
    (idx l t.2).bind fun x =>
    (dispatchref21_good x).bind fun x1 =>
    some (.inl (w64 (t.1 + x1), w64 (t.2 + 1)))
  else
    some (.inr t.1)

def dispatchref21_Parts (count : Int) (weights : List Int) : Option (List Int) :=
  (slc weights 0 (imin (weights.length : Int) 100)).bind fun l =>
  (dispatchref21_good count).bind fun count1 =>
  (loop (dispatchref21_Parts_l1 l) (0, 0)).bind fun sum =>
  (mkl 8 (l.length : Int) (l.length : Int) 0).bind fun l1 =>
  bif sum == 0 then
    some l1
  else
    (mkl 8 (l.length : Int) (l.length : Int) 0).bind fun l2 =>
    (loop (dispatchref21_Parts_l2 l count1 sum) (l1, count1, l2, 0)).bind fun q =>
    (loop dispatchref21_Parts_l3 (q.1, q.2.1, q.2.2)).bind fun out =>
    some out
def h33 : Hint := (.s .z (.s .z (.s .z (.s .z (.s (.s .z (.b (.l [(5, .v (.int .i64) []), (6, .v (.int .i64) [])] [5, 6] [(2, [(5, .v (.int .i64) [])])] .z))) (.s .z (.s .z (.s .z (.s .z (.s (.s .z (.b (.l [(7, .v (.slice (.int .i64)) [0]), (8, .v (.int .i64) []), (9, .v (.slice (.int .i64)) [0]), (10, .v (.int .i64) [])] [7, 8, 9, 10] [(4, [(7, .v (.slice (.int .i64)) [0]), (8, .v (.int .i64) []), (9, .v (.slice (.int .i64)) [0])])] .z))) (.s (.b (.l [(7, .v (.slice (.int .i64)) [0]), (8, .v (.int .i64) []), (9, .v (.slice (.int .i64)) [0])] [7, 8, 9, 11, 12] [(6, [(7, .v (.slice (.int .i64)) [0])])] (.s .z (.s (.b (.s .z (.s (.s .z (.b (.l [(11, .v (.int .i64) []), (12, .v (.int .i64) [])] [11, 12] [(8, [(11, .v (.int .i64) [])])] (.s .z (.s (.j [11] [(0, [(11, .v (.int .i64) [])])] .z) .z))))) .z))) .z)))) .z)))))))))))
noncomputable def sp33 : Spec fam := ⟨[.v (.int .i64) [], .v (.slice (.int .i64)) []], [.v (.slice (.int .i64)) [0]], fun a => dispatchref21_Parts a.1 a.2.1⟩

def dispatchref21_Split_l2 (l : List Sub) (rack : Int) (policy1 : Int) (t1 : List Int × Int) : Option ((List Int × Int) ⊕ List Int) :=
  bif decide (t1.2 < (l.length : Int)) then
    (
      (idx l t1.2).bind fun x3 =>
      bif ! x3.Up then
        some t1.1
      else
        bif policy1 == 1 then
          (idx l t1.2).bind fun x4 =>
          (inb t1.2 t1.1.length).bind fun i =>
          (t1.1[i]?).bind fun x5 =>
          some (List.set t1.1 i x4.Weight)
        else
          (
            bif policy1 == 2 then
              (idx l t1.2).bind fun x6 =>
              (dispatchref21_has x6.Racks rack).bind fun x7 =>
              some x7
            else
              some false).bind fun q1 =>
          bif q1 then
            (inb t1.2 t1.1.length).bind fun i1 =>
            (t1.1[i1]?).bind fun x8 =>
            some (List.set t1.1 i1 1)
          else
            bif policy1 == 3 then
              (idx l t1.2).bind fun x9 =>
              (nz (w64 (1 + (imin (imax x9.Load 0) 999999)))).bind fun _ =>
              (inb t1.2 t1.1.length).bind fun i2 =>
              (t1.1[i2]?).bind fun x10 =>
              some (List.set t1.1 i2 (w64 (Int.tdiv 1000000 (w64 (1 + (imin (imax x9.Load 0) 999999))))))
            else
              some t1.1).bind fun w =>
    some (.inl (w, w64 (t1.2 + 1)))
  else
    some (.inr t1.1)

def dispatchref21_Split_l1 (l : List Sub) (rack : Int) (t : Bool × Int) : Option ((Bool × Int) ⊕ Bool) :=
  bif decide (t.2 < (l.length : Int)) then
    (
      bif t.1 then
        some true
      else
        (idx l t.2).bind fun x =>
        bif x.Up then
          bif rack != (-1) then
            (idx l t.2).bind fun x1 =>
            (dispatchref21_has x1.Racks rack).bind fun x2 =>
            some x2
          else
            some false
        else
          some false).bind fun near =>
    some (.inl (near, w64 (t.2 + 1)))
  else
    some (.inr t.1)

def dispatchref21_Split (policy : Int) (l : List Sub) (count : Int) (rack : Int) : Option (List Int) :=
  (loop (dispatchref21_Split_l1 l rack) (false, 0)).bind fun near1 =>
  (
    (
      bif policy == 2 then
        some (! near1)
      else
        some false).bind fun q =>
    bif q then
      some 1
    else
      some policy).bind fun policy1 =>
  (mkl 8 (l.length : Int) (l.length : Int) 0).bind fun l1 =>
  (loop (dispatchref21_Split_l2 l rack policy1) (l1, 0)).bind fun w1 =>
  (dispatchref21_Parts count w1).bind fun x11 =>
  some x11
def h19 : Hint := (.s .z (.s .z (.s (.s .z (.b (.l [(9, .v .bool []), (10, .v (.int .i64) [])] [9, 10] [(2, [(9, .v .bool [])])] (.s .z (.s (.j [9] [(0, [(9, .v .bool [])])] .z) .z))))) (.s (.j [0, 45] [(0, [(0, .v (.int .i64) [])])] (.s (.j [] [(0, [(45, .v .bool [])])] .z) .z)) (.s .z (.s (.s .z (.b (.l [(11, .v (.slice (.int .i64)) [0]), (12, .v (.int .i64) [])] [11, 12, 73] [(4, [(11, .v (.slice (.int .i64)) [0])])] (.s .z (.s (.j [11, 73] [(0, [(11, .v (.slice (.int .i64)) [0])])] (.b (.b (.s .z (.c .z (.s .z (.c .z (.s (.j [] [(0, [(73, .v .bool [])])] .z) .z)))))))) .z))))) .z))))))
noncomputable def sp19 : Spec fam := ⟨[.v (.int .i64) [], .v (.slice (.st 1)) [], .v (.int .i64) [], .v (.int .i64) []], [.v (.slice (.int .i64)) [0]], fun a => dispatchref21_Split a.1 a.2.1 a.2.2.1 a.2.2.2.1⟩

def dispatchlaw21_of_l1 (l : List Sub) (t : List Sub × Int) : Option ((List Sub × Int) ⊕ List Sub) :=
  bif decide (t.2 < (l.length : Int)) then
    (idx l t.2).bind fun x =>
    (idx l t.2).bind fun x1 =>
    (idx l t.2).bind fun x2 =>
    (app 8 [] x2.Racks).bind fun l1 =>
    (idx l t.2).bind fun x3 =>
    (app 48 t.1 [(⟨x.Weight, x1.Up, l1, x3.Load⟩ : Sub)]).bind fun l2 =>
    some (.inl (l2, w64 (t.2 + 1)))
  else
    some (.inr t.1)

def dispatchlaw21_of (l : List Sub) : Option (List Sub) :=
  (loop (dispatchlaw21_of_l1 l) ([], 0)).bind fun out =>
  some out
def h20 : Hint := (.s .z (.s .z (.s (.s .z (.b (.l [(3, .v (.slice (.st 1)) [0]), (4, .v (.int .i64) [])] [3, 4] [(2, [(3, .v (.slice (.st 1)) [0])])] .z))) .z)))
noncomputable def sp20 : Spec fam := ⟨[.v (.slice (.st 1)) []], [.v (.slice (.st 1)) [0]], fun a => dispatchlaw21_of a.1⟩

def dispatchref21_Home_l1 (l : List Sub) (t : List Int × Int) : Option ((List Int × Int) ⊕ List Int) :=
  bif decide (t.2 < (l.length : Int)) then
    (
      (idx l t.2).bind fun x =>
      bif x.Up then
        (app 8 t.1 [t.2]).bind fun l1 =>
        some l1
      else
        some t.1).bind fun up =>
    some (.inl (up, w64 (t.2 + 1)))
  else
    some (.inr t.1)

def dispatchref21_Home (l : List Sub) (app_ : Int) : Option (Int × Int) :=
  bif decide (app_ < 0) then
    some (0, 1)
  else
    (loop (dispatchref21_Home_l1 l) ([], 0)).bind fun up1 =>
    bif (up1.length : Int) == 0 then
      some (0, 18)
    else
      (nz (up1.length : Int)).bind fun _ =>
      (inb (Int.tmod app_ (up1.length : Int)) up1.length).bind fun i =>
      (up1[i]?).bind fun x1 =>
      some (x1, 0)
def h21 : Hint := (.s .z (.s .z (.s .z (.s (.s .z (.b (.l [(6, .v (.slice (.int .i64)) [0]), (7, .v (.int .i64) [])] [6, 7] [(2, [(6, .v (.slice (.int .i64)) [0])])] (.s .z (.s (.j [6] [(0, [(6, .v (.slice (.int .i64)) [0])])] .z) .z))))) .z))))
noncomputable def sp21 : Spec fam := ⟨[.v (.slice (.st 1)) [], .v (.int .i64) []], [.v (.int .i64) [], .v (.int .i64) []], fun a => dispatchref21_Home a.1 a.2.1⟩

def dispatchlaw21_SplitAsks_l1 (l : List Sub) (t : Int × Int × Int × Int) : Option ((Int × Int × Int × Int) ⊕ (Bool ⊕ Unit)) :=
  bif decide (t.2.2.2 < 4) then
    (
      (split_Split t.1 l t.2.1 t.2.2.1).bind fun x2 =>
      (dispatchlaw21_of l).bind fun x3 =>
      (dispatchref21_Split t.1 x3 t.2.1 t.2.2.1).bind fun x4 =>
      (dispatchlaw21_ints x2 x4).bind fun x5 =>
      bif ! x5 then
        some (.inr false)
      else
        (dispatchlaw21_within t.2.1 100).bind fun count1 =>
        (
          bif decide ((l.length : Int) > 0) then
            (idx l 0).bind fun x6 =>
            bif decide ((x6.Racks.length : Int) > 0) then
              some (decide (t.2.2.2 > 1))
            else
              some false
          else
            some false).bind fun q =>
        bif q then
          (idx l 0).bind fun x7 =>
          (idx x7.Racks 0).bind fun x8 =>
          some (.inl (w64 (1 + t.2.2.2), count1, x8))
        else
          some (.inl (w64 (1 + t.2.2.2), count1, t.2.2.1)) : Option ((Int × Int × Int) ⊕ Bool)).bind fun q0 =>
    match q0 with
    | .inl q1 =>
      some (.inl (q1.1, q1.2.1, q1.2.2, w64 (t.2.2.2 + 1)))
    | .inr q2 =>
      some (.inr (.inl q2))
  else
    some (.inr (.inr ()))

def dispatchlaw21_SplitAsks (policy : Int) (l : List Sub) (count : Int) (rack : Int) (app_ : Int) : Option Bool :=
  (dispatchlaw21_known).bind fun x =>
  bif ! x then
    some false
  else
    (dispatchlaw21_few l).bind fun x1 =>
    bif ! x1 then
      some true
    else
      (loop (dispatchlaw21_SplitAsks_l1 l) (policy, count, rack, 0)).bind fun q0 =>
      match q0 with
      | .inl q3 =>
        some q3
      | .inr _ =>
        (split_Home l app_).bind fun x9 =>
        (dispatchlaw21_of l).bind fun x10 =>
        (dispatchref21_Home x10 app_).bind fun x11 =>
        bif x9.1 == x11.1 then
          some (x9.2 == x11.2)
        else
          some false
def h10 : Hint := (.s .z (.s .z (.s .z (.s (.s .z (.b (.l [(0, .v (.int .i64) []), (2, .v (.int .i64) []), (3, .v (.int .i64) []), (11, .v (.int .i64) [])] [0, 2, 3, 10, 11, 56] [(1, [(10, .v .bool [])]), (2, [])] (.s .z (.s (.j [0, 2, 3, 10, 56] [(0, [(0, .v (.int .i64) []), (2, .v (.int .i64) []), (3, .v (.int .i64) [])]), (1, [(10, .v .bool [])])] (.b (.s .z (.s .z (.s (.j [] [(0, [(56, .v .bool [])])] .z) .z))))) .z))))) .z))))
noncomputable def sp10 : Spec fam := ⟨[.v (.int .i64) [], .v (.slice (.st 1)) [], .v (.int .i64) [], .v (.int .i64) [], .v (.int .i64) []], [.v .bool []], fun a => dispatchlaw21_SplitAsks a.1 a.2.1 a.2.2.1 a.2.2.2.1 a.2.2.2.2.1⟩

end
end Go.Fx.D
