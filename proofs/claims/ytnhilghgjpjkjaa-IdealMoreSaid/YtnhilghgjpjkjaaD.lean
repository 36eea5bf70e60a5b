/-
  The functions of the program that the laws of chapter 16 reach, as functions over plain data (printed by gen.py). Conditions: none.
-/
import Derived.Test.YtnhilghgjpjkjaaFwB
namespace Go.Fw.D
open Go Go.Fw
set_option linter.unusedVariables false



/-- dispatch/dispatchref16.good -/
def dispatchref16_good (n : Int) : Option Int :=
  (if (decide (n < 0)) = true then
    some true
  else
    some (decide (n > 1125899906842624))).bind fun v =>
  if v = true then
    some 0
  else
    some n

def ideal_lesser_l1 (l : (List Int)) : Nat → Int → Int → Option Int
  | 0, _, _ => none
  | k + 1, first1, v =>
    if (decide (v < (l.length : Int))) = true then
      (idx l v).bind fun x =>
      ideal_lesser_l1 l k (imin first1 x) (w64 (v + 1))
    else
      some first1
/-- dispatch/ideal.lesser -/
def ideal_lesser (first : Int) (l : (List Int)) : Option Int :=
  (ideal_lesser_l1 l (((l.length : Int) - 0).toNat + 1) first 0).bind fun first2 =>
  some first2

/-- dispatch/dispatchlaw16.within -/
def dispatchlaw16_within (at_ : Int) (n : Int) : Option Int :=
  (nz n).bind fun _ =>
  (if (decide ((at_.tmod n) < 0)) = true then
    some (w64 ((at_.tmod n) + n))
  else
    some (at_.tmod n)).bind fun k_ =>
  some k_

/-- dispatch/ideal.good -/
def ideal_good (n : Int) : Option Int :=
  (if (decide (n < 0)) = true then
    some true
  else
    some (decide (n > 1125899906842624))).bind fun v =>
  if v = true then
    some 0
  else
    some n

def dispatchlaw16_few_l1 (l : (List Int)) : Nat → (List Int) → Int → Option (List Int)
  | 0, _, _ => none
  | k + 1, out, i =>
    if (decide (i < (l.length : Int))) = true then
      (idx l i).bind fun x =>
      (dispatchlaw16_within x 40).bind fun r =>
      (app 8 out ([r] : List Int)).bind fun out2 =>
      dispatchlaw16_few_l1 l k out2 (w64 (i + 1))
    else
      some out
/-- dispatch/dispatchlaw16.few -/
def dispatchlaw16_few (l : (List Int)) : Option (List Int) :=
  (dispatchlaw16_few_l1 l (((l.length : Int) - 0).toNat + 1) ([]) 0).bind fun out1 =>
  some out1

def ideal_Split_l1 (least : (List Int)) (want : (List Int)) (most : (List Int)) (r : Int) : Nat → (List Int) → Int → Int → Option ((List Int) × Int)
  | 0, _, _, _ => none
  | k + 1, out, left, v =>
    if (decide (v < r)) = true then
      (idx least v).bind fun x =>
      (ideal_good x).bind fun r2 =>
      (idx want v).bind fun x1 =>
      (ideal_good x1).bind fun r3 =>
      (idx most v).bind fun x2 =>
      (ideal_good x2).bind fun r4 =>
      (ideal_lesser r2 ([r3, r4, left] : List Int)).bind fun r5 =>
      (idx out v).bind fun x3 =>
      (upd out v r5).bind fun out2 =>
      (idx out2 v).bind fun x4 =>
      ideal_Split_l1 least want most r k out2 (w64 (left - x4)) (w64 (v + 1))
    else
      some (out, left)
def ideal_Split_l3 (want : (List Int)) (most : (List Int)) (r : Int) : Nat → (List Int) → Int → Int → Option (List Int)
  | 0, _, _, _ => none
  | k + 1, out3, left2, v1 =>
    if (decide (v1 < r)) = true then
      (idx want v1).bind fun x5 =>
      (ideal_good x5).bind fun r6 =>
      (idx most v1).bind fun x6 =>
      (ideal_good x6).bind fun r7 =>
      (ideal_lesser r6 ([r7] : List Int)).bind fun r8 =>
      (idx out3 v1).bind fun x7 =>
      (ideal_lesser (imax (w64 (r8 - x7)) 0) ([left2] : List Int)).bind fun r9 =>
      (idx out3 v1).bind fun x8 =>
      (upd out3 v1 (w64 (x8 + r9))).bind fun out5 =>
      ideal_Split_l3 want most r k out5 (w64 (left2 - r9)) (w64 (v1 + 1))
    else
      some out3
/-- dispatch/ideal.Split -/
def ideal_Split (total : Int) (least : (List Int)) (want : (List Int)) (most : (List Int)) : Option (List Int) :=
  (ideal_lesser (least.length : Int) ([(want.length : Int), (most.length : Int)] : List Int)).bind fun r =>
  (mkl 8 r (0 : Int)).bind fun l =>
  (ideal_good total).bind fun r1 =>
  (ideal_Split_l1 least want most r ((r - 0).toNat + 1) l r1 0).bind fun (out1, left1) =>
  (ideal_Split_l3 want most r ((r - 0).toNat + 1) out1 left1 0).bind fun out4 =>
  some out4

def dispatchref16_Split_l1 (least : (List Int)) (want : (List Int)) (most : (List Int)) : Nat → Int → (List Int) → Int → Option (Int × (List Int))
  | 0, _, _, _ => none
  | k + 1, left, out, i =>
    if (decide (i < (imin (imin (least.length : Int) (want.length : Int)) (most.length : Int)))) = true then
      (idx least i).bind fun x =>
      (dispatchref16_good x).bind fun r1 =>
      (idx want i).bind fun x1 =>
      (dispatchref16_good x1).bind fun r2 =>
      (idx most i).bind fun x2 =>
      (dispatchref16_good x2).bind fun r3 =>
      (app 8 out ([(imin (imin (imin r1 r2) r3) left)] : List Int)).bind fun out2 =>
      dispatchref16_Split_l1 least want most k (w64 (left - (imin (imin (imin r1 r2) r3) left))) out2 (w64 (i + 1))
    else
      some (left, out)
def dispatchref16_Split_l3 (least : (List Int)) (want : (List Int)) (most : (List Int)) : Nat → Int → (List Int) → Int → Option (List Int)
  | 0, _, _, _ => none
  | k + 1, left2, out3, i1 =>
    if (decide (i1 < (imin (imin (least.length : Int) (want.length : Int)) (most.length : Int)))) = true then
      (idx want i1).bind fun x3 =>
      (dispatchref16_good x3).bind fun r4 =>
      (idx most i1).bind fun x4 =>
      (dispatchref16_good x4).bind fun r5 =>
      (idx out3 i1).bind fun x5 =>
      (idx out3 i1).bind fun x6 =>
      (upd out3 i1 (w64 (x6 + (imin (imax (w64 ((imin r4 r5) - x5)) 0) left2)))).bind fun out5 =>
      dispatchref16_Split_l3 least want most k (w64 (left2 - (imin (imax (w64 ((imin r4 r5) - x5)) 0) left2))) out5 (w64 (i1 + 1))
    else
      some out3
/-- dispatch/dispatchref16.Split -/
def dispatchref16_Split (total : Int) (least : (List Int)) (want : (List Int)) (most : (List Int)) : Option (List Int) :=
  (dispatchref16_good total).bind fun r =>
  (dispatchref16_Split_l1 least want most (((imin (imin (least.length : Int) (want.length : Int)) (most.length : Int)) - 0).toNat + 1) r ([]) 0).bind fun (left1, out1) =>
  (dispatchref16_Split_l3 least want most (((imin (imin (least.length : Int) (want.length : Int)) (most.length : Int)) - 0).toNat + 1) left1 out1 0).bind fun out4 =>
  some out4

/-- dispatch/dispatchlaw16.known -/
def dispatchlaw16_known : Option Bool :=
  (ideal_Split 10 ([5, 5] : List Int) ([9, 3] : List Int) ([10, 10] : List Int)).bind fun r =>
  (if ((r.length : Int) == 2) = true then
    (idx r 0).bind fun x =>
    if (x == 7) = true then
      (idx r 1).bind fun x1 =>
      some (x1 == 3)
    else
      some false
  else
    some false).bind fun v =>
  some v

def dispatchlaw16_IdealSplits_l5 (r5 : (List Int)) (r6 : (List Int)) : Nat → Int → Option (Lp Unit Bool)
  | 0, _ => none
  | k + 1, i =>
    if (decide (i < (r5.length : Int))) = true then
      (idx r5 i).bind fun x =>
      (idx r6 i).bind fun x1 =>
      if (x != x1) = true then
        some (Lp.xt false)
      else
        dispatchlaw16_IdealSplits_l5 r5 r6 k (w64 (i + 1))
    else
      some (Lp.nx ())
/-- dispatch/dispatchlaw16.IdealSplits -/
def dispatchlaw16_IdealSplits (total : Int) (least : (List Int)) (want : (List Int)) (most : (List Int)) (small : Bool) : Option Bool :=
  (dispatchlaw16_known).bind fun r =>
  if (!r) = true then
    some false
  else
    (if (decide ((least.length : Int) > 20)) = true then
      some true
    else
      if (decide ((want.length : Int) > 20)) = true then
        some true
      else
        some (decide ((most.length : Int) > 20))).bind fun v =>
    if v = true then
      some true
    else
      (if small = true then
        (dispatchlaw16_within total 100).bind fun r1 =>
        (dispatchlaw16_few least).bind fun r2 =>
        (dispatchlaw16_few want).bind fun r3 =>
        (dispatchlaw16_few most).bind fun r4 =>
        some (r1, r2, r3, r4)
      else
        some (total, least, want, most)).bind fun (total1, least1, want1, most1) =>
      (ideal_Split total1 least1 want1 most1).bind fun r5 =>
      (dispatchref16_Split total1 least1 want1 most1).bind fun r6 =>
      if ((r5.length : Int) != (r6.length : Int)) = true then
        some false
      else
        (dispatchlaw16_IdealSplits_l5 r5 r6 (((r5.length : Int) - 0).toNat + 1) 0).bind fun j6 =>
        (match j6 with
         | Lp.nx _ => (
           some true)
         | Lp.xt r => some r)

def dispatchlaw16_IdealSums_l1 (least : (List Int)) (want : (List Int)) (most : (List Int)) (r1 : (List Int)) (r2 : (List Int)) (r3 : (List Int)) (r5 : (List Int)) : Nat → Int → Int → Int → Option (Lp (Int × Int) Bool)
  | 0, _, _, _ => none
  | k + 1, sum, all, i =>
    if (decide (i < (imin (imin (imin (least.length : Int) (want.length : Int)) (most.length : Int)) 20))) = true then
      ((idx r5 i).bind fun x =>
      if (decide (x < 0)) = true then
        some true
      else
        (idx r2 i).bind fun x1 =>
        if (decide (x > x1)) = true then
          some true
        else
          (idx r3 i).bind fun x2 =>
          some (decide (x > x2))).bind fun v =>
      if v = true then
        some (Lp.xt false)
      else
        (idx r5 i).bind fun x3 =>
        (idx r1 i).bind fun x4 =>
        dispatchlaw16_IdealSums_l1 least want most r1 r2 r3 r5 k (w64 (sum + x3)) (w64 (all + x4)) (w64 (i + 1))
    else
      some (Lp.nx (sum, all))
def dispatchlaw16_IdealSums_l6 (least : (List Int)) (want : (List Int)) (most : (List Int)) (r1 : (List Int)) (r2 : (List Int)) (r3 : (List Int)) (r4 : Int) (r5 : (List Int)) (sum1 : Int) (all1 : Int) : Nat → Int → Option (Lp Unit Bool)
  | 0, _ => none
  | k + 1, i1 =>
    if (decide (i1 < (imin (imin (imin (least.length : Int) (want.length : Int)) (most.length : Int)) 20))) = true then
      ((idx r5 i1).bind fun x5 =>
      (idx r2 i1).bind fun x6 =>
      (idx r3 i1).bind fun x7 =>
      if (decide (x5 < (imin x6 x7))) = true then
        if (sum1 != r4) = true then
          some true
        else
          if (decide (all1 ≤ r4)) = true then
            (idx r1 i1).bind fun x8 =>
            some (decide (x5 < (imin (imin x8 x6) x7)))
          else
            some false
      else
        if (decide (all1 ≤ r4)) = true then
          (idx r1 i1).bind fun x9 =>
          some (decide (x5 < (imin (imin x9 x6) x7)))
        else
          some false).bind fun v1 =>
      if v1 = true then
        some (Lp.xt false)
      else
        dispatchlaw16_IdealSums_l6 least want most r1 r2 r3 r4 r5 sum1 all1 k (w64 (i1 + 1))
    else
      some (Lp.nx ())
/-- dispatch/dispatchlaw16.IdealSums -/
def dispatchlaw16_IdealSums (total : Int) (least : (List Int)) (want : (List Int)) (most : (List Int)) : Option Bool :=
  (dispatchlaw16_known).bind fun r =>
  if (!r) = true then
    some false
  else
    (slc least 0 (imin (imin (imin (least.length : Int) (want.length : Int)) (most.length : Int)) 20)).bind fun l =>
    (dispatchlaw16_few l).bind fun r1 =>
    (slc want 0 (imin (imin (imin (least.length : Int) (want.length : Int)) (most.length : Int)) 20)).bind fun l1 =>
    (dispatchlaw16_few l1).bind fun r2 =>
    (slc most 0 (imin (imin (imin (least.length : Int) (want.length : Int)) (most.length : Int)) 20)).bind fun l2 =>
    (dispatchlaw16_few l2).bind fun r3 =>
    (dispatchlaw16_within total 150).bind fun r4 =>
    (ideal_Split r4 r1 r2 r3).bind fun r5 =>
    if ((r5.length : Int) != (imin (imin (imin (least.length : Int) (want.length : Int)) (most.length : Int)) 20)) = true then
      some false
    else
      (dispatchlaw16_IdealSums_l1 least want most r1 r2 r3 r5 (((imin (imin (imin (least.length : Int) (want.length : Int)) (most.length : Int)) 20) - 0).toNat + 1) 0 0 0).bind fun j12 =>
      (match j12 with
       | Lp.nx (sum1, all1) => (
         (dispatchlaw16_IdealSums_l6 least want most r1 r2 r3 r4 r5 sum1 all1 (((imin (imin (imin (least.length : Int) (want.length : Int)) (most.length : Int)) 20) - 0).toNat + 1) 0).bind fun j12 =>
         (match j12 with
          | Lp.nx _ => (
            some (decide (sum1 ≤ r4)))
          | Lp.xt r => some r))
       | Lp.xt r => some r)

def dispatchlaw16_IdealMore_l1 (least : (List Int)) (want : (List Int)) (most : (List Int)) (r1 : (List Int)) (r2 : (List Int)) (r6 : (List Int)) (r7 : (List Int)) : Nat → Int → Int → Int → Option (Lp (Int × Int) Bool)
  | 0, _, _, _ => none
  | k + 1, sum, all, i =>
    if (decide (i < (imin (imin (imin (least.length : Int) (want.length : Int)) (most.length : Int)) 20))) = true then
      ((idx r2 i).bind fun x =>
      if (x == 0) = true then
        (idx r6 i).bind fun x1 =>
        some (x1 != 0)
      else
        some false).bind fun v =>
      if v = true then
        some (Lp.xt false)
      else
        (idx r1 i).bind fun x2 =>
        (idx r7 i).bind fun x3 =>
        (idx r6 i).bind fun x4 =>
        dispatchlaw16_IdealMore_l1 least want most r1 r2 r6 r7 k (w64 (sum + x2)) (w64 ((w64 (all + x3)) - x4)) (w64 (i + 1))
    else
      some (Lp.nx (sum, all))
def dispatchlaw16_IdealMore_l5 (least : (List Int)) (want : (List Int)) (most : (List Int)) (r4 : Int) (r6 : (List Int)) (r7 : (List Int)) (sum1 : Int) : Nat → Int → Option (Lp Unit Bool)
  | 0, _ => none
  | k + 1, i1 =>
    (if (decide (i1 < (imin (imin (imin (least.length : Int) (want.length : Int)) (most.length : Int)) 20))) = true then
      some (decide (sum1 ≤ r4))
    else
      some false).bind fun v1 =>
    if v1 = true then
      (idx r7 i1).bind fun x5 =>
      (idx r6 i1).bind fun x6 =>
      if (decide (x5 < x6)) = true then
        some (Lp.xt false)
      else
        dispatchlaw16_IdealMore_l5 least want most r4 r6 r7 sum1 k (w64 (i1 + 1))
    else
      some (Lp.nx ())
/-- dispatch/dispatchlaw16.IdealMore -/
def dispatchlaw16_IdealMore (total : Int) (more : Int) (least : (List Int)) (want : (List Int)) (most : (List Int)) : Option Bool :=
  (dispatchlaw16_known).bind fun r =>
  if (!r) = true then
    some false
  else
    (slc least 0 (imin (imin (imin (least.length : Int) (want.length : Int)) (most.length : Int)) 20)).bind fun l =>
    (dispatchlaw16_few l).bind fun r1 =>
    (slc want 0 (imin (imin (imin (least.length : Int) (want.length : Int)) (most.length : Int)) 20)).bind fun l1 =>
    (dispatchlaw16_few l1).bind fun r2 =>
    (slc most 0 (imin (imin (imin (least.length : Int) (want.length : Int)) (most.length : Int)) 20)).bind fun l2 =>
    (dispatchlaw16_few l2).bind fun r3 =>
    (dispatchlaw16_within total 150).bind fun r4 =>
    (dispatchlaw16_within more 50).bind fun r5 =>
    (ideal_Split r4 r1 r2 r3).bind fun r6 =>
    (ideal_Split (w64 (r4 + r5)) r1 r2 r3).bind fun r7 =>
    (dispatchlaw16_IdealMore_l1 least want most r1 r2 r6 r7 (((imin (imin (imin (least.length : Int) (want.length : Int)) (most.length : Int)) 20) - 0).toNat + 1) 0 0 0).bind fun j10 =>
    (match j10 with
     | Lp.nx (sum1, all1) => (
       (dispatchlaw16_IdealMore_l5 least want most r4 r6 r7 sum1 (((imin (imin (imin (least.length : Int) (want.length : Int)) (most.length : Int)) 20) - 0).toNat + 1) 0).bind fun j10 =>
       (match j10 with
        | Lp.nx _ => (
          (if (decide (all1 ≥ 0)) = true then
            some (decide (all1 ≤ r5))
          else
            some false).bind fun v2 =>
          some v2)
        | Lp.xt r => some r))
     | Lp.xt r => some r)

def dispatchlaw16_IdealAll_l1 (want : (List Int)) (most : (List Int)) (least : (List Int)) (r2 : (List Int)) (r3 : (List Int)) : Nat → Int → Int → Option Int
  | 0, _, _ => none
  | k + 1, total, i =>
    if (decide (i < (imin (imin (imin (least.length : Int) (want.length : Int)) (most.length : Int)) 20))) = true then
      (idx r2 i).bind fun x =>
      (idx r3 i).bind fun x1 =>
      dispatchlaw16_IdealAll_l1 want most least r2 r3 k (w64 (total + (imin x x1))) (w64 (i + 1))
    else
      some total
def dispatchlaw16_IdealAll_l3 (want : (List Int)) (most : (List Int)) (least : (List Int)) (r2 : (List Int)) (r3 : (List Int)) (r5 : (List Int)) : Nat → Int → Option (Lp Unit Bool)
  | 0, _ => none
  | k + 1, i1 =>
    if (decide (i1 < (imin (imin (imin (least.length : Int) (want.length : Int)) (most.length : Int)) 20))) = true then
      (idx r5 i1).bind fun x2 =>
      (idx r2 i1).bind fun x3 =>
      (idx r3 i1).bind fun x4 =>
      if (x2 != (imin x3 x4)) = true then
        some (Lp.xt false)
      else
        dispatchlaw16_IdealAll_l3 want most least r2 r3 r5 k (w64 (i1 + 1))
    else
      some (Lp.nx ())
/-- dispatch/dispatchlaw16.IdealAll -/
def dispatchlaw16_IdealAll (want : (List Int)) (most : (List Int)) (least : (List Int)) (more : Int) : Option Bool :=
  (dispatchlaw16_known).bind fun r =>
  if (!r) = true then
    some false
  else
    (slc least 0 (imin (imin (imin (least.length : Int) (want.length : Int)) (most.length : Int)) 20)).bind fun l =>
    (dispatchlaw16_few l).bind fun r1 =>
    (slc want 0 (imin (imin (imin (least.length : Int) (want.length : Int)) (most.length : Int)) 20)).bind fun l1 =>
    (dispatchlaw16_few l1).bind fun r2 =>
    (slc most 0 (imin (imin (imin (least.length : Int) (want.length : Int)) (most.length : Int)) 20)).bind fun l2 =>
    (dispatchlaw16_few l2).bind fun r3 =>
    (dispatchlaw16_within more 50).bind fun r4 =>
    (dispatchlaw16_IdealAll_l1 want most least r2 r3 (((imin (imin (imin (least.length : Int) (want.length : Int)) (most.length : Int)) 20) - 0).toNat + 1) r4 0).bind fun total1 =>
    (ideal_Split total1 r1 r2 r3).bind fun r5 =>
    if ((r5.length : Int) != (imin (imin (imin (least.length : Int) (want.length : Int)) (most.length : Int)) 20)) = true then
      some false
    else
      (dispatchlaw16_IdealAll_l3 want most least r2 r3 r5 (((imin (imin (imin (least.length : Int) (want.length : Int)) (most.length : Int)) 20) - 0).toNat + 1) 0).bind fun j4 =>
      (match j4 with
       | Lp.nx _ => (
         some true)
       | Lp.xt r => some r)

end Go.Fw.D
