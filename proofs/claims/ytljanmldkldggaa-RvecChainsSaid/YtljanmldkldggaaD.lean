/-
  The functions of the program that these laws reach, as functions over plain data (printed by a program). Conditions: none.
-/
import Derived.Test.YtljanmldkldggaaA
namespace Go.Fx.D
open Go Go.Fx Go.Proofs
set_option linter.unusedVariables false
noncomputable section

def rvec_vec_good (v : Vec) : Option Bool :=
  bif decide (v.Mem ≥ 0) then
    bif decide (v.Mem ≤ 1125899906842624) then
      bif decide (v.Cores ≥ 0) then
        some (decide (v.Cores ≤ 1125899906842624))
      else
        some false
    else
      some false
  else
    some false
def h27 : Hint := .z
noncomputable def sp27 : Spec fam := ⟨[.v (.st 0) []], [.v .bool []], fun a => rvec_vec_good a.1⟩

def rvec_over (v : Vec) : Option (Vec × Int) :=
  (rvec_vec_good v).bind fun x =>
  bif ! x then
    some ((⟨0, 0⟩ : Vec), 11)
  else
    some (v, 0)
def h28 : Hint := .z
noncomputable def sp28 : Spec fam := ⟨[.v (.st 0) []], [.v (.st 0) [], .v (.int .i64) []], fun a => rvec_over a.1⟩

def bits_Mul64 (x : Int) (y : Int) : Option (Int × Int) :=
  let w0 := IntKind.u64.wrap ((andK .u64 x 4294967295) * (andK .u64 y 4294967295))
  let t := IntKind.u64.wrap ((IntKind.u64.wrap ((shrK .u64 x 32) * (andK .u64 y 4294967295))) + (shrK .u64 w0 32))
  let w1 := IntKind.u64.wrap ((andK .u64 t 4294967295) + (IntKind.u64.wrap ((andK .u64 x 4294967295) * (shrK .u64 y 32))))
  let hi := IntKind.u64.wrap ((IntKind.u64.wrap ((IntKind.u64.wrap ((shrK .u64 x 32) * (shrK .u64 y 32))) + (shrK .u64 t 32))) + (shrK .u64 w1 32))
  some (hi, IntKind.u64.wrap (x * y))
def h36 : Hint := .z
noncomputable def sp36 : Spec fam := ⟨[.v (.int .u64) [], .v (.int .u64) []], [.v (.int .u64) [], .v (.int .u64) []], fun a => bits_Mul64 a.1 a.2.1⟩

def bits_Len64 (x : Int) : Option Int :=
  (
    bif decide (x ≥ 4294967296) then
      some (shrK .u64 x 32, 32)
    else
      some (x, 0)).bind fun q =>
  (
    bif decide (q.1 ≥ 65536) then
      some (shrK .u64 q.1 16, w64 (q.2 + 16))
    else
      some (q.1, q.2)).bind fun q1 =>
  (
    bif decide (q1.1 ≥ 256) then
      some (shrK .u64 q1.1 8, w64 (q1.2 + 8))
    else
      some (q1.1, q1.2)).bind fun q2 =>
  (idx ([0, 1, 2, 2, 3, 3, 3, 3, 4, 4, 4, 4, 4, 4, 4, 4, 5, 5, 5, 5, 5, 5, 5, 5, 5, 5, 5, 5, 5, 5, 5, 5, 6, 6, 6, 6, 6, 6, 6, 6, 6, 6, 6, 6, 6, 6, 6, 6, 6, 6, 6, 6, 6, 6, 6, 6, 6, 6, 6, 6, 6, 6, 6, 6, 7, 7, 7, 7, 7, 7, 7, 7, 7, 7, 7, 7, 7, 7, 7, 7, 7, 7, 7, 7, 7, 7, 7, 7, 7, 7, 7, 7, 7, 7, 7, 7, 7, 7, 7, 7, 7, 7, 7, 7, 7, 7, 7, 7, 7, 7, 7, 7, 7, 7, 7, 7, 7, 7, 7, 7, 7, 7, 7, 7, 7, 7, 7, 7, 8, 8, 8, 8, 8, 8, 8, 8, 8, 8, 8, 8, 8, 8, 8, 8, 8, 8, 8, 8, 8, 8, 8, 8, 8, 8, 8, 8, 8, 8, 8, 8, 8, 8, 8, 8, 8, 8, 8, 8, 8, 8, 8, 8, 8, 8, 8, 8, 8, 8, 8, 8, 8, 8, 8, 8, 8, 8, 8, 8, 8, 8, 8, 8, 8, 8, 8, 8, 8, 8, 8, 8, 8, 8, 8, 8, 8, 8, 8, 8, 8, 8, 8, 8, 8, 8, 8, 8, 8, 8, 8, 8, 8, 8, 8, 8, 8, 8, 8, 8, 8, 8, 8, 8, 8, 8, 8, 8, 8, 8, 8, 8, 8, 8, 8, 8, 8, 8, 8, 8, 8, 8, 8, 8, 8, 8, 8, 8] : List UInt8) (IntKind.u8.wrap q2.1)).bind fun ch =>
  let n := w64 (q2.2 + (w64 (ch.toNat : Int)))
  some n
def h44 : Hint := (.s .z (.s (.j [0, 2] [(0, [(0, .v (.int .u64) []), (2, .v (.int .i64) [])])] .z) (.s (.j [0, 2] [(0, [(0, .v (.int .u64) []), (2, .v (.int .i64) [])])] .z) (.s (.j [0, 2] [(0, [(0, .v (.int .u64) []), (2, .v (.int .i64) [])])] .z) .z))))
noncomputable def sp44 : Spec fam := ⟨[.v (.int .u64) []], [.v (.int .i64) []], fun a => bits_Len64 a.1⟩

def bits_LeadingZeros64 (x : Int) : Option Int :=
  (bits_Len64 x).bind fun x1 =>
  some (w64 (64 - x1))
def h43 : Hint := .z
noncomputable def sp43 : Spec fam := ⟨[.v (.int .u64) []], [.v (.int .i64) []], fun a => bits_LeadingZeros64 a.1⟩

def bits_Div64_l1 (yn1 : Int) (yn0 : Int) (un1 : Int) (t : Int × Int) : Option ((Int × Int) ⊕ Int) :=
  (
    bif decide (t.1 ≥ 4294967296) then
      some true
    else
      some (decide ((IntKind.u64.wrap (t.1 * yn0)) > (IntKind.u64.wrap ((IntKind.u64.wrap (4294967296 * t.2)) + un1))))).bind fun q =>
  bif q then
    bif decide ((IntKind.u64.wrap (t.2 + yn1)) ≥ 4294967296) then
      some (.inr (IntKind.u64.wrap (t.1 - 1)))
    else
      some (.inl (IntKind.u64.wrap (t.1 - 1), IntKind.u64.wrap (t.2 + yn1)))
  else
    some (.inr t.1)

def bits_Div64_l2 (yn1 : Int) (yn0 : Int) (un0 : Int) (t1 : Int × Int) : Option ((Int × Int) ⊕ Int) :=
  (
    bif decide (t1.2 ≥ 4294967296) then
      some true
    else
      some (decide ((IntKind.u64.wrap (t1.2 * yn0)) > (IntKind.u64.wrap ((IntKind.u64.wrap (4294967296 * t1.1)) + un0))))).bind fun q2 =>
  bif q2 then
    bif decide ((IntKind.u64.wrap (t1.1 + yn1)) ≥ 4294967296) then
      some (.inr (IntKind.u64.wrap (t1.2 - 1)))
    else
      some (.inl (IntKind.u64.wrap (t1.1 + yn1), IntKind.u64.wrap (t1.2 - 1)))
  else
    some (.inr t1.2)

def bits_Div64 (hi : Int) (lo : Int) (y : Int) : Option (Int × Int) :=
  bif y == 0 then
    none
  else
    bif decide (y ≤ hi) then
      none
    else
      bif hi == 0 then
        (nz y).bind fun _ =>
        (nz y).bind fun _ =>
        some (IntKind.u64.wrap (Int.tdiv lo y), Int.tmod lo y)
      else
        (bits_LeadingZeros64 y).bind fun x =>
        (nn (IntKind.u64.wrap x)).bind fun _ =>
        let yn1 := shrK .u64 (shlK .u64 y (IntKind.u64.wrap x)) 32
        let yn0 := andK .u64 (shlK .u64 y (IntKind.u64.wrap x)) 4294967295
        (nn (IntKind.u64.wrap x)).bind fun _ =>
        (nn (IntKind.u64.wrap (64 - (IntKind.u64.wrap x)))).bind fun _ =>
        let un32 := orK .u64 (shlK .u64 hi (IntKind.u64.wrap x)) (shrK .u64 lo (IntKind.u64.wrap (64 - (IntKind.u64.wrap x))))
        (nn (IntKind.u64.wrap x)).bind fun _ =>
        let un1 := shrK .u64 (shlK .u64 lo (IntKind.u64.wrap x)) 32
        let un0 := andK .u64 (shlK .u64 lo (IntKind.u64.wrap x)) 4294967295
        (nz yn1).bind fun _ =>
        let rhat := IntKind.u64.wrap (un32 - (IntKind.u64.wrap ((IntKind.u64.wrap (Int.tdiv un32 yn1)) * yn1)))
        (loop (bits_Div64_l1 yn1 yn0 un1) (IntKind.u64.wrap (Int.tdiv un32 yn1), rhat)).bind fun q1 =>
        let un21 := IntKind.u64.wrap ((IntKind.u64.wrap ((IntKind.u64.wrap (un32 * 4294967296)) + un1)) - (IntKind.u64.wrap (q1 * (shlK .u64 y (IntKind.u64.wrap x)))))
        (nz yn1).bind fun _ =>
        let rhat1 := IntKind.u64.wrap (un21 - (IntKind.u64.wrap ((IntKind.u64.wrap (Int.tdiv un21 yn1)) * yn1)))
        (loop (bits_Div64_l2 yn1 yn0 un0) (rhat1, IntKind.u64.wrap (Int.tdiv un21 yn1))).bind fun q0 =>
        (nn (IntKind.u64.wrap x)).bind fun _ =>
        let quo := IntKind.u64.wrap ((IntKind.u64.wrap (q1 * 4294967296)) + q0)
        let rem := shrK .u64 (IntKind.u64.wrap ((IntKind.u64.wrap ((IntKind.u64.wrap (un21 * 4294967296)) + un0)) - (IntKind.u64.wrap (q0 * (shlK .u64 y (IntKind.u64.wrap x)))))) (IntKind.u64.wrap x)
        some (quo, rem)
def h37 : Hint := (.s .z (.s .z (.s .z (.s .z (.s .z (.s .z (.s .z (.s .z (.s .z (.s .z (.s .z (.s .z (.s .z (.s .z (.s (.b (.l [(15, .v (.int .u64) []), (16, .v (.int .u64) [])] [15, 16, 78] [(2, [(15, .v (.int .u64) [])])] (.s (.s (.j [] [(0, [(78, .v .bool [])])] .z) .z) .z))) (.s .z (.s .z (.s .z (.s (.b (.l [(16, .v (.int .u64) []), (18, .v (.int .u64) [])] [16, 18, 113] [(4, [(18, .v (.int .u64) [])])] (.s (.s (.j [] [(0, [(113, .v .bool [])])] .z) .z) .z))) .z)))))))))))))))))))
noncomputable def sp37 : Spec fam := ⟨[.v (.int .u64) [], .v (.int .u64) [], .v (.int .u64) []], [.v (.int .u64) [], .v (.int .u64) []], fun a => bits_Div64 a.1 a.2.1 a.2.2.1⟩

def rvec_part (n : Int) (bp : Int) : Option Int :=
  (bits_Mul64 (IntKind.u64.wrap n) (IntKind.u64.wrap bp)).bind fun x =>
  (bits_Div64 x.1 x.2 10000).bind fun x1 =>
  some (w64 x1.1)
def h29 : Hint := .z
noncomputable def sp29 : Spec fam := ⟨[.v (.int .i64) [], .v (.int .i64) []], [.v (.int .i64) []], fun a => rvec_part a.1 a.2.1⟩

def rvec_Scale (a : Vec) (bp : Int) : Option (Vec × Int) :=
  (
    (rvec_vec_good a).bind fun x =>
    bif ! x then
      some true
    else
      bif decide (bp < 0) then
        some true
      else
        some (decide (bp > 1000000))).bind fun q =>
  bif q then
    some ((⟨0, 0⟩ : Vec), 1)
  else
    (rvec_part a.Mem bp).bind fun x1 =>
    (rvec_part a.Cores bp).bind fun x2 =>
    (rvec_over (⟨x1, x2⟩ : Vec)).bind fun x3 =>
    some (x3.1, x3.2)
def h15 : Hint := (.s .z (.s (.s (.j [] [(0, [(16, .v .bool [])])] .z) .z) .z))
noncomputable def sp15 : Spec fam := ⟨[.v (.st 0) [], .v (.int .i64) []], [.v (.st 0) [], .v (.int .i64) []], fun a => rvec_Scale a.1 a.2.1⟩

def dispatchlaw1_known : Option Bool :=
  (rvec_Scale (⟨1000, 3⟩ : Vec) 5000).bind fun x =>
  bif x.2 == 0 then
    some ((x.1.Mem == 500) && (x.1.Cores == 1))
  else
    some false
def h12 : Hint := .z
noncomputable def sp12 : Spec fam := ⟨[], [.v .bool []], fun _ => dispatchlaw1_known⟩

def dispatchlaw1_within (at_ : Int) (n : Int) : Option Int :=
  (nz n).bind fun _ =>
  (
    bif decide ((Int.tmod at_ n) < 0) then
      let k := w64 ((Int.tmod at_ n) + n)
      some k
    else
      some (Int.tmod at_ n)).bind fun k1 =>
  some k1
def h14 : Hint := (.s .z (.s .z (.s (.j [5] [(0, [(5, .v (.int .i64) [])])] .z) .z)))
noncomputable def sp14 : Spec fam := ⟨[.v (.int .i64) [], .v (.int .i64) []], [.v (.int .i64) []], fun a => dispatchlaw1_within a.1 a.2.1⟩

def dispatchlaw1_part (n : Int) : Option Int :=
  (dispatchlaw1_within n 1125899906842625).bind fun x =>
  some x
def h26 : Hint := .z
noncomputable def sp26 : Spec fam := ⟨[.v (.int .i64) []], [.v (.int .i64) []], fun a => dispatchlaw1_part a.1⟩

def dispatchlaw1_vec (v : Vec) (how : Int) : Option Vec :=
  bif (Int.tmod how 2) == 0 then
    (dispatchlaw1_within v.Mem 5).bind fun x =>
    (dispatchlaw1_within v.Cores 5).bind fun x1 =>
    some (⟨x, x1⟩ : Vec)
  else
    (dispatchlaw1_part v.Mem).bind fun x2 =>
    (dispatchlaw1_part v.Cores).bind fun x3 =>
    some (⟨x2, x3⟩ : Vec)
def h13 : Hint := .z
noncomputable def sp13 : Spec fam := ⟨[.v (.st 0) [], .v (.int .i64) []], [.v (.st 0) []], fun a => dispatchlaw1_vec a.1 a.2.1⟩

def dispatchref1_part (n : Int) : Option Bool :=
  bif decide (n ≥ 0) then
    some (decide (n ≤ 1125899906842624))
  else
    some false
def h38 : Hint := .z
noncomputable def sp38 : Spec fam := ⟨[.v (.int .i64) []], [.v .bool []], fun a => dispatchref1_part a.1⟩

def dispatchref1_may (a : Vec) : Option Bool :=
  (dispatchref1_part a.Mem).bind fun x =>
  bif x then
    (dispatchref1_part a.Cores).bind fun x1 =>
    some x1
  else
    some false
def h30 : Hint := .z
noncomputable def sp30 : Spec fam := ⟨[.v (.st 0) []], [.v .bool []], fun a => dispatchref1_may a.1⟩

def dispatchref1_scale (n : Int) (bp : Int) : Option Int :=
  some (w64 ((w64 ((w64 (Int.tdiv n 10000)) * bp)) + (w64 (Int.tdiv (w64 ((Int.tmod n 10000) * bp)) 10000))))
def h31 : Hint := .z
noncomputable def sp31 : Spec fam := ⟨[.v (.int .i64) [], .v (.int .i64) []], [.v (.int .i64) []], fun a => dispatchref1_scale a.1 a.2.1⟩

def dispatchref1_Scale (a : Vec) (bp : Int) : Option (Vec × Int) :=
  (
    (dispatchref1_may a).bind fun x =>
    bif ! x then
      some true
    else
      bif decide (bp < 0) then
        some true
      else
        some (decide (bp > 1000000))).bind fun q =>
  bif q then
    some ((⟨0, 0⟩ : Vec), 1)
  else
    (dispatchref1_scale a.Mem bp).bind fun x1 =>
    (dispatchref1_scale a.Cores bp).bind fun x2 =>
    (dispatchref1_may (⟨x1, x2⟩ : Vec)).bind fun x3 =>
    bif ! x3 then
      some ((⟨0, 0⟩ : Vec), 11)
    else
      some ((⟨x1, x2⟩ : Vec), 0)
def h16 : Hint := (.s .z (.s (.s (.j [] [(0, [(17, .v .bool [])])] .z) .z) .z))
noncomputable def sp16 : Spec fam := ⟨[.v (.st 0) [], .v (.int .i64) []], [.v (.st 0) [], .v (.int .i64) []], fun a => dispatchref1_Scale a.1 a.2.1⟩

def rvec_Fits (a : Vec) (b : Vec) : Option Bool :=
  bif decide (a.Mem ≤ b.Mem) then
    some (decide (a.Cores ≤ b.Cores))
  else
    some false
def h17 : Hint := .z
noncomputable def sp17 : Spec fam := ⟨[.v (.st 0) [], .v (.st 0) []], [.v .bool []], fun a => rvec_Fits a.1 a.2.1⟩

def dispatchlaw1_RvecScales (a : Vec) (bp : Int) (how : Int) : Option Bool :=
  (dispatchlaw1_known).bind fun x =>
  bif ! x then
    some false
  else
    (dispatchlaw1_vec a how).bind fun x1 =>
    (dispatchlaw1_within bp 10001).bind fun k =>
    (rvec_Scale a bp).bind fun x2 =>
    (dispatchref1_Scale a bp).bind fun x3 =>
    (rvec_Scale x1 k).bind fun x4 =>
    (dispatchref1_Scale x1 k).bind fun x5 =>
    bif (x2.1.Mem == x3.1.Mem) && (x2.1.Cores == x3.1.Cores) then
      bif x2.2 == x3.2 then
        bif (x4.1.Mem == x5.1.Mem) && (x4.1.Cores == x5.1.Cores) then
          bif x4.2 == x5.2 then
            bif x4.2 == 0 then
              (rvec_Fits x4.1 x1).bind fun x6 =>
              bif x6 then
                bif decide (k < 10000) then
                  some true
                else
                  some ((x4.1.Mem == x1.Mem) && (x4.1.Cores == x1.Cores))
              else
                some false
            else
              some false
          else
            some false
        else
          some false
      else
        some false
    else
      some false
def h3 : Hint := .z
noncomputable def sp3 : Spec fam := ⟨[.v (.st 0) [], .v (.int .i64) [], .v (.int .i64) []], [.v .bool []], fun a => dispatchlaw1_RvecScales a.1 a.2.1 a.2.2.1⟩

def rvec_Sub (a : Vec) (b : Vec) : Option (Vec × Int) :=
  (
    (rvec_vec_good a).bind fun x =>
    bif ! x then
      some true
    else
      (rvec_vec_good b).bind fun x1 =>
      some (! x1)).bind fun q =>
  bif q then
    some ((⟨0, 0⟩ : Vec), 1)
  else
    (rvec_over (⟨w64 (a.Mem - b.Mem), w64 (a.Cores - b.Cores)⟩ : Vec)).bind fun x2 =>
    some (x2.1, x2.2)
def h18 : Hint := (.s .z (.s (.s (.j [] [(0, [(13, .v .bool [])])] .z) .z) .z))
noncomputable def sp18 : Spec fam := ⟨[.v (.st 0) [], .v (.st 0) []], [.v (.st 0) [], .v (.int .i64) []], fun a => rvec_Sub a.1 a.2.1⟩

def dispatchlaw1_RvecFit (a : Vec) (b : Vec) (c : Vec) (how : Int) : Option Bool :=
  (dispatchlaw1_known).bind fun x =>
  bif ! x then
    some false
  else
    (dispatchlaw1_vec a how).bind fun x1 =>
    (dispatchlaw1_vec b how).bind fun x2 =>
    (dispatchlaw1_vec c how).bind fun x3 =>
    (rvec_Fits x1 x2).bind fun x4 =>
    (rvec_Fits x2 x3).bind fun y =>
    (rvec_Fits x1 x3).bind fun z =>
    (rvec_Sub x2 x1).bind fun x5 =>
    bif ! x4 then
      bif x4 then
        (rvec_Fits x2 x1).bind fun x6 =>
        bif x6 == ((x1.Mem == x2.Mem) && (x1.Cores == x2.Cores)) then
          bif (x5.2 == 0) == x4 then
            bif x5.2 == 0 then
              some true
            else
              some ((x5.1.Mem == 0) && (x5.1.Cores == 0))
          else
            some false
        else
          some false
      else
        bif false == ((x1.Mem == x2.Mem) && (x1.Cores == x2.Cores)) then
          bif (x5.2 == 0) == x4 then
            bif x5.2 == 0 then
              some true
            else
              some ((x5.1.Mem == 0) && (x5.1.Cores == 0))
          else
            some false
        else
          some false
    else
      bif ! y then
        bif x4 then
          (rvec_Fits x2 x1).bind fun x7 =>
          bif x7 == ((x1.Mem == x2.Mem) && (x1.Cores == x2.Cores)) then
            bif (x5.2 == 0) == x4 then
              bif x5.2 == 0 then
                some true
              else
                some ((x5.1.Mem == 0) && (x5.1.Cores == 0))
            else
              some false
          else
            some false
        else
          bif false == ((x1.Mem == x2.Mem) && (x1.Cores == x2.Cores)) then
            bif (x5.2 == 0) == x4 then
              bif x5.2 == 0 then
                some true
              else
                some ((x5.1.Mem == 0) && (x5.1.Cores == 0))
            else
              some false
          else
            some false
      else
        bif z then
          bif x4 then
            (rvec_Fits x2 x1).bind fun x8 =>
            bif x8 == ((x1.Mem == x2.Mem) && (x1.Cores == x2.Cores)) then
              bif (x5.2 == 0) == x4 then
                bif x5.2 == 0 then
                  some true
                else
                  some ((x5.1.Mem == 0) && (x5.1.Cores == 0))
              else
                some false
            else
              some false
          else
            bif false == ((x1.Mem == x2.Mem) && (x1.Cores == x2.Cores)) then
              bif (x5.2 == 0) == x4 then
                bif x5.2 == 0 then
                  some true
                else
                  some ((x5.1.Mem == 0) && (x5.1.Cores == 0))
              else
                some false
            else
              some false
        else
          some false
def h4 : Hint := .z
noncomputable def sp4 : Spec fam := ⟨[.v (.st 0) [], .v (.st 0) [], .v (.st 0) [], .v (.int .i64) []], [.v .bool []], fun a => dispatchlaw1_RvecFit a.1 a.2.1 a.2.2.1 a.2.2.2.1⟩

def rvec_Add (a : Vec) (b : Vec) : Option (Vec × Int) :=
  (
    (rvec_vec_good a).bind fun x =>
    bif ! x then
      some true
    else
      (rvec_vec_good b).bind fun x1 =>
      some (! x1)).bind fun q =>
  bif q then
    some ((⟨0, 0⟩ : Vec), 1)
  else
    (rvec_over (⟨w64 (a.Mem + b.Mem), w64 (a.Cores + b.Cores)⟩ : Vec)).bind fun x2 =>
    some (x2.1, x2.2)
def h19 : Hint := (.s .z (.s (.s (.j [] [(0, [(13, .v .bool [])])] .z) .z) .z))
noncomputable def sp19 : Spec fam := ⟨[.v (.st 0) [], .v (.st 0) []], [.v (.st 0) [], .v (.int .i64) []], fun a => rvec_Add a.1 a.2.1⟩

def dispatchlaw1_RvecParts (a : Vec) (b : Vec) (bp : Int) (how : Int) : Option Bool :=
  (dispatchlaw1_known).bind fun x =>
  bif ! x then
    some false
  else
    (dispatchlaw1_vec a how).bind fun x1 =>
    (dispatchlaw1_vec b how).bind fun x2 =>
    (dispatchlaw1_within bp 10001).bind fun bp1 =>
    (rvec_Add x1 x2).bind fun x3 =>
    bif x3.2 != 0 then
      some (x3.2 == 11)
    else
      (rvec_Sub x3.1 x2).bind fun x4 =>
      (rvec_Scale x1 bp1).bind fun x5 =>
      (rvec_Scale x1 (w64 (10000 - bp1))).bind fun x6 =>
      bif x4.2 == 0 then
        bif (x4.1.Mem == x1.Mem) && (x4.1.Cores == x1.Cores) then
          bif decide ((w64 (x5.1.Mem + x6.1.Mem)) ≤ x1.Mem) then
            bif decide ((w64 ((w64 (x5.1.Mem + x6.1.Mem)) + 1)) ≥ x1.Mem) then
              bif decide ((w64 (x5.1.Cores + x6.1.Cores)) ≤ x1.Cores) then
                some (decide ((w64 ((w64 (x5.1.Cores + x6.1.Cores)) + 1)) ≥ x1.Cores))
              else
                some false
            else
              some false
          else
            some false
        else
          some false
      else
        some false
def h5 : Hint := .z
noncomputable def sp5 : Spec fam := ⟨[.v (.st 0) [], .v (.st 0) [], .v (.int .i64) [], .v (.int .i64) []], [.v .bool []], fun a => dispatchlaw1_RvecParts a.1 a.2.1 a.2.2.1 a.2.2.2.1⟩

def dispatchlaw1_RvecEdges (which : Int) (n : Int) : Option Bool :=
  (dispatchlaw1_known).bind fun x =>
  bif ! x then
    some false
  else
    (dispatchlaw1_within n 3).bind fun x1 =>
    let top := w64 (1125899906842624 + (w64 (x1 - 1)))
    (rvec_Add (⟨top, 0⟩ : Vec) (⟨0, 0⟩ : Vec)).bind fun x2 =>
    (rvec_Add (⟨0, 562949953421312⟩ : Vec) (⟨0, w64 (562949953421312 + (w64 (x1 - 1)))⟩ : Vec)).bind fun x3 =>
    (rvec_Sub (⟨5, 0⟩ : Vec) (⟨w64 (5 + (w64 (x1 - 1))), 0⟩ : Vec)).bind fun x4 =>
    (rvec_Scale (⟨1, 0⟩ : Vec) (w64 (1000000 + (w64 (x1 - 1))))).bind fun x5 =>
    (dispatchlaw1_within which 3).bind fun x6 =>
    (rvec_Scale (⟨0, w64 (11258999068426 + x6)⟩ : Vec) 1000000).bind fun x7 =>
    bif decide ((w64 (x1 - 1)) ≤ 0) then
      bif x2.2 == 0 then
        bif x3.2 == 0 then
          bif x4.2 == 0 then
            bif x5.2 == 0 then
              (dispatchlaw1_within which 3).bind fun x8 =>
              some ((x7.2 == 0) == (x8 == 0))
            else
              some false
          else
            some false
        else
          some false
      else
        some false
    else
      bif x2.2 == 1 then
        bif x3.2 == 11 then
          bif x4.2 == 11 then
            bif x5.2 == 1 then
              (dispatchlaw1_within which 3).bind fun x9 =>
              some ((x7.2 == 0) == (x9 == 0))
            else
              some false
          else
            some false
        else
          some false
      else
        some false
def h6 : Hint := .z
noncomputable def sp6 : Spec fam := ⟨[.v (.int .i64) [], .v (.int .i64) []], [.v .bool []], fun a => dispatchlaw1_RvecEdges a.1 a.2.1⟩

def dispatchref1_Add (a : Vec) (b : Vec) : Option (Vec × Int) :=
  (
    (dispatchref1_may a).bind fun x =>
    bif ! x then
      some true
    else
      (dispatchref1_may b).bind fun x1 =>
      some (! x1)).bind fun q =>
  bif q then
    some ((⟨0, 0⟩ : Vec), 1)
  else
    (dispatchref1_may (⟨w64 (a.Mem + b.Mem), w64 (a.Cores + b.Cores)⟩ : Vec)).bind fun x2 =>
    bif ! x2 then
      some ((⟨0, 0⟩ : Vec), 11)
    else
      some ((⟨w64 (a.Mem + b.Mem), w64 (a.Cores + b.Cores)⟩ : Vec), 0)
def h20 : Hint := (.s .z (.s (.s (.j [] [(0, [(14, .v .bool [])])] .z) .z) .z))
noncomputable def sp20 : Spec fam := ⟨[.v (.st 0) [], .v (.st 0) []], [.v (.st 0) [], .v (.int .i64) []], fun a => dispatchref1_Add a.1 a.2.1⟩

def dispatchref1_Sub (a : Vec) (b : Vec) : Option (Vec × Int) :=
  (
    (dispatchref1_may a).bind fun x =>
    bif ! x then
      some true
    else
      (dispatchref1_may b).bind fun x1 =>
      some (! x1)).bind fun q =>
  bif q then
    some ((⟨0, 0⟩ : Vec), 1)
  else
    (dispatchref1_may (⟨w64 (a.Mem - b.Mem), w64 (a.Cores - b.Cores)⟩ : Vec)).bind fun x2 =>
    bif ! x2 then
      some ((⟨0, 0⟩ : Vec), 11)
    else
      some ((⟨w64 (a.Mem - b.Mem), w64 (a.Cores - b.Cores)⟩ : Vec), 0)
def h21 : Hint := (.s .z (.s (.s (.j [] [(0, [(14, .v .bool [])])] .z) .z) .z))
noncomputable def sp21 : Spec fam := ⟨[.v (.st 0) [], .v (.st 0) []], [.v (.st 0) [], .v (.int .i64) []], fun a => dispatchref1_Sub a.1 a.2.1⟩

def dispatchref1_Fits (a : Vec) (b : Vec) : Option Bool :=
  bif decide (a.Mem ≤ b.Mem) then
    some (decide (a.Cores ≤ b.Cores))
  else
    some false
def h22 : Hint := .z
noncomputable def sp22 : Spec fam := ⟨[.v (.st 0) [], .v (.st 0) []], [.v .bool []], fun a => dispatchref1_Fits a.1 a.2.1⟩

def dispatchlaw1_RvecSums_l1 (a : Vec) (b : Vec) (x1 : Vec) (x2 : Vec) (x3 : Vec) (x4 : Vec) (x5 : Vec) (i : Int) : Option (Int ⊕ (Bool ⊕ Unit)) :=
  bif decide (i < 4) then
    (inb i [(⟨⟨a.Mem, a.Cores⟩, ⟨b.Mem, b.Cores⟩⟩ : Arr2_Vec), (⟨⟨x1.Mem, x1.Cores⟩, ⟨x2.Mem, x2.Cores⟩⟩ : Arr2_Vec), (⟨⟨x3.Mem, x3.Cores⟩, ⟨x4.Mem, x4.Cores⟩⟩ : Arr2_Vec), (⟨⟨x5.Mem, x5.Cores⟩, ⟨b.Mem, b.Cores⟩⟩ : Arr2_Vec)].length).bind fun i1 =>
    ([(⟨⟨a.Mem, a.Cores⟩, ⟨b.Mem, b.Cores⟩⟩ : Arr2_Vec), (⟨⟨x1.Mem, x1.Cores⟩, ⟨x2.Mem, x2.Cores⟩⟩ : Arr2_Vec), (⟨⟨x3.Mem, x3.Cores⟩, ⟨x4.Mem, x4.Cores⟩⟩ : Arr2_Vec), (⟨⟨x5.Mem, x5.Cores⟩, ⟨b.Mem, b.Cores⟩⟩ : Arr2_Vec)][i1]?).bind fun x6 =>
    (inb i [(⟨⟨a.Mem, a.Cores⟩, ⟨b.Mem, b.Cores⟩⟩ : Arr2_Vec), (⟨⟨x1.Mem, x1.Cores⟩, ⟨x2.Mem, x2.Cores⟩⟩ : Arr2_Vec), (⟨⟨x3.Mem, x3.Cores⟩, ⟨x4.Mem, x4.Cores⟩⟩ : Arr2_Vec), (⟨⟨x5.Mem, x5.Cores⟩, ⟨b.Mem, b.Cores⟩⟩ : Arr2_Vec)].length).bind fun i2 =>
    ([(⟨⟨a.Mem, a.Cores⟩, ⟨b.Mem, b.Cores⟩⟩ : Arr2_Vec), (⟨⟨x1.Mem, x1.Cores⟩, ⟨x2.Mem, x2.Cores⟩⟩ : Arr2_Vec), (⟨⟨x3.Mem, x3.Cores⟩, ⟨x4.Mem, x4.Cores⟩⟩ : Arr2_Vec), (⟨⟨x5.Mem, x5.Cores⟩, ⟨b.Mem, b.Cores⟩⟩ : Arr2_Vec)][i2]?).bind fun x7 =>
    (rvec_Add x6.a0 x7.a1).bind fun x8 =>
    (dispatchref1_Add x6.a0 x7.a1).bind fun x9 =>
    (rvec_Sub x6.a0 x7.a1).bind fun x10 =>
    (dispatchref1_Sub x6.a0 x7.a1).bind fun x11 =>
    (
      bif ! ((x8.1.Mem == x9.1.Mem) && (x8.1.Cores == x9.1.Cores)) then
        some true
      else
        bif x8.2 != x9.2 then
          some true
        else
          bif ! ((x10.1.Mem == x11.1.Mem) && (x10.1.Cores == x11.1.Cores)) then
            some true
          else
            bif x10.2 != x11.2 then
              some true
            else
              (rvec_Fits x6.a0 x7.a1).bind fun x12 =>
              (dispatchref1_Fits x6.a0 x7.a1).bind fun x13 =>
              some (! (x12 == x13))).bind fun q =>
    bif q then
      some (.inr (.inl false))
    else
      some (.inl (w64 (i + 1)))
  else
    some (.inr (.inr ()))

def dispatchlaw1_RvecSums (a : Vec) (b : Vec) (how : Int) : Option Bool :=
  (dispatchlaw1_known).bind fun x =>
  bif ! x then
    some false
  else
    (dispatchlaw1_vec a how).bind fun x1 =>
    (dispatchlaw1_vec b how).bind fun x2 =>
    (dispatchlaw1_vec a (w64 (Int.tdiv how 2))).bind fun x3 =>
    (dispatchlaw1_vec b (w64 (Int.tdiv how 4))).bind fun x4 =>
    (dispatchlaw1_vec a how).bind fun x5 =>
    (loop (dispatchlaw1_RvecSums_l1 a b x1 x2 x3 x4 x5) 0).bind fun q0 =>
    match q0 with
    | .inl q1 =>
      some q1
    | .inr _ =>
      some true
def h7 : Hint := (.s .z (.s .z (.s .z (.s (.s .z (.b (.l [(8, .v (.int .i64) [])] [6, 8, 9, 10, 11, 12, 13, 14, 15, 16, 17, 110] [(1, [(6, .v .bool [])]), (2, [])] (.s .z (.s (.b (.s .z (.s .z (.s .z (.s .z (.s .z (.s (.j [] [(0, [(110, .v .bool [])])] .z) .z))))))) .z))))) .z))))
noncomputable def sp7 : Spec fam := ⟨[.v (.st 0) [], .v (.st 0) [], .v (.int .i64) []], [.v .bool []], fun a => dispatchlaw1_RvecSums a.1 a.2.1 a.2.2.1⟩

def rvec_ratio_compare (r : Ratio) (q : Ratio) : Option Int :=
  (
    bif r.of == 0 then
      some (q.of == 0)
    else
      some false).bind fun q1 =>
  bif q1 then
    some 0
  else
    bif r.of == 0 then
      some 1
    else
      bif q.of == 0 then
        some (-1)
      else
        (bits_Mul64 r.n q.of).bind fun x =>
        (bits_Mul64 q.n r.of).bind fun x1 =>
        (
          bif decide (x.1 < x1.1) then
            some true
          else
            bif x.1 == x1.1 then
              some (decide (x.2 < x1.2))
            else
              some false).bind fun q2 =>
        bif q2 then
          some (-1)
        else
          (
            bif x.1 == x1.1 then
              some (x.2 == x1.2)
            else
              some false).bind fun q3 =>
          bif q3 then
            some 0
          else
            some 1
def h33 : Hint := (.s .z (.s (.b (.s (.j [] [(0, [(9, .v .bool [])])] .z) .z)) (.s .z (.s .z (.s (.b (.s (.j [] [(0, [(42, .v .bool [])])] .z) (.c .z (.s (.j [] [(0, [(56, .v .bool [])])] .z) .z)))) .z)))))
noncomputable def sp33 : Spec fam := ⟨[.v (.st 2) [], .v (.st 2) []], [.v (.int .i64) []], fun a => rvec_ratio_compare a.1 a.2.1⟩

def rvec_of (a : Vec) (p : Vec) (get : (TupT fam [.st 0] → Option Int)) : Option Ratio :=
  (get (a, ())).bind fun r =>
  (get (p, ())).bind fun r1 =>
  bif r == 0 then
    some (⟨0, 1⟩ : Ratio)
  else
    some (⟨IntKind.u64.wrap r, IntKind.u64.wrap r1⟩ : Ratio)
def h39 : Hint := .z
noncomputable def sp39 : Spec fam := ⟨[.v (.st 0) [], .v (.st 0) [], .fn [.st 0] (.int .i64)], [.v (.st 2) []], fun a => rvec_of a.1 a.2.1 a.2.2.1⟩

def rvec_vec_mem (v : Vec) : Option Int :=
  some v.Mem
def h40 : Hint := .z
noncomputable def sp40 : Spec fam := ⟨[.v (.st 0) []], [.v (.int .i64) []], fun a => rvec_vec_mem a.1⟩

def rvec_vec_cores (v : Vec) : Option Int :=
  some v.Cores
def h41 : Hint := .z
noncomputable def sp41 : Spec fam := ⟨[.v (.st 0) []], [.v (.int .i64) []], fun a => rvec_vec_cores a.1⟩

def rvec_load (a : Vec) (p : Vec) : Option Ratio :=
  (rvec_of a p (fun a => rvec_vec_mem a.1)).bind fun x =>
  (rvec_of a p (fun a => rvec_vec_cores a.1)).bind fun x1 =>
  (rvec_ratio_compare x x1).bind fun x2 =>
  bif decide (x2 < 0) then
    some x1
  else
    some x
def h32 : Hint := .z
noncomputable def sp32 : Spec fam := ⟨[.v (.st 0) [], .v (.st 0) []], [.v (.st 2) []], fun a => rvec_load a.1 a.2.1⟩

def rvec_Order (a : Vec) (p : Vec) (b : Vec) (q : Vec) : Option Int :=
  (
    (rvec_vec_good a).bind fun x =>
    bif ! x then
      some true
    else
      (rvec_vec_good p).bind fun x1 =>
      bif ! x1 then
        some true
      else
        (rvec_vec_good b).bind fun x2 =>
        bif ! x2 then
          some true
        else
          (rvec_vec_good q).bind fun x3 =>
          some (! x3)).bind fun q1 =>
  bif q1 then
    some 0
  else
    (rvec_load a p).bind fun x4 =>
    (rvec_load b q).bind fun x5 =>
    (rvec_ratio_compare x4 x5).bind fun x6 =>
    some x6
def h23 : Hint := (.s .z (.s (.s (.j [] [(0, [(26, .v .bool [])])] .z) .z) .z))
noncomputable def sp23 : Spec fam := ⟨[.v (.st 0) [], .v (.st 0) [], .v (.st 0) [], .v (.st 0) []], [.v (.int .i64) []], fun a => rvec_Order a.1 a.2.1 a.2.2.1 a.2.2.2.1⟩

def dispatchref1_wide (a : Int) (b : Int) : Option (Int × Int) :=
  let mid := w64 ((w64 ((shrK .i64 a 25) * (andK .i64 b 33554431))) + (w64 ((andK .i64 a 33554431) * (shrK .i64 b 25))))
  let low := w64 ((w64 ((andK .i64 a 33554431) * (andK .i64 b 33554431))) + (shlK .i64 (andK .i64 mid 33554431) 25))
  some (w64 ((w64 ((w64 ((shrK .i64 a 25) * (shrK .i64 b 25))) + (shrK .i64 mid 25))) + (shrK .i64 low 50)), andK .i64 low 1125899906842623)
def h42 : Hint := .z
noncomputable def sp42 : Spec fam := ⟨[.v (.int .i64) [], .v (.int .i64) []], [.v (.int .i64) [], .v (.int .i64) []], fun a => dispatchref1_wide a.1 a.2.1⟩

def dispatchref1_order (x : Frac) (y : Frac) : Option Int :=
  (
    bif x.A == 0 then
      some (⟨x.A, 1⟩ : Frac)
    else
      some x).bind fun x1 =>
  (
    bif y.A == 0 then
      some (⟨y.A, 1⟩ : Frac)
    else
      some y).bind fun y1 =>
  (
    bif x1.P == 0 then
      some true
    else
      some (y1.P == 0)).bind fun q =>
  bif q then
    (
      bif x1.P == 0 then
        some (y1.P == 0)
      else
        some false).bind fun q1 =>
    bif q1 then
      some 0
    else
      bif x1.P == 0 then
        some 1
      else
        some (-1)
  else
    (dispatchref1_wide x1.A y1.P).bind fun x2 =>
    (dispatchref1_wide y1.A x1.P).bind fun x3 =>
    (
      bif decide (x2.1 < x3.1) then
        some true
      else
        bif x2.1 == x3.1 then
          some (decide (x2.2 < x3.2))
        else
          some false).bind fun q2 =>
    bif q2 then
      some (-1)
    else
      (
        bif x2.1 == x3.1 then
          some (x2.2 == x3.2)
        else
          some false).bind fun q3 =>
      bif q3 then
        some 0
      else
        some 1
def h34 : Hint := (.s .z (.s (.j [2] [(0, [(2, .box (.st 3) [])])] .z) (.s (.j [3] [(0, [(3, .box (.st 3) [])])] .z) (.s (.s (.j [] [(0, [(24, .v .bool [])])] .z) (.c (.s (.b (.s (.j [] [(0, [(25, .v .bool [])])] .z) .z)) .z) .z)) (.s .z (.s .z (.s (.b (.s (.j [] [(0, [(54, .v .bool [])])] .z) (.c .z (.s (.j [] [(0, [(68, .v .bool [])])] .z) .z)))) .z)))))))
noncomputable def sp34 : Spec fam := ⟨[.v (.st 3) [], .v (.st 3) []], [.v (.int .i64) []], fun a => dispatchref1_order a.1 a.2.1⟩

def dispatchref1_load (a : Vec) (p : Vec) : Option Frac :=
  (dispatchref1_order (⟨a.Mem, p.Mem⟩ : Frac) (⟨a.Cores, p.Cores⟩ : Frac)).bind fun x =>
  bif decide (x < 0) then
    some (⟨a.Cores, p.Cores⟩ : Frac)
  else
    some (⟨a.Mem, p.Mem⟩ : Frac)
def h35 : Hint := .z
noncomputable def sp35 : Spec fam := ⟨[.v (.st 0) [], .v (.st 0) []], [.v (.st 3) []], fun a => dispatchref1_load a.1 a.2.1⟩

def dispatchref1_Order (a : Vec) (p : Vec) (b : Vec) (q : Vec) : Option Int :=
  (
    (dispatchref1_may a).bind fun x =>
    bif ! x then
      some true
    else
      (dispatchref1_may p).bind fun x1 =>
      bif ! x1 then
        some true
      else
        (dispatchref1_may b).bind fun x2 =>
        bif ! x2 then
          some true
        else
          (dispatchref1_may q).bind fun x3 =>
          some (! x3)).bind fun q1 =>
  bif q1 then
    some 0
  else
    (dispatchref1_load a p).bind fun x4 =>
    (dispatchref1_load b q).bind fun x5 =>
    (dispatchref1_order x4 x5).bind fun x6 =>
    some x6
def h24 : Hint := (.s .z (.s (.s (.j [] [(0, [(26, .v .bool [])])] .z) .z) .z))
noncomputable def sp24 : Spec fam := ⟨[.v (.st 0) [], .v (.st 0) [], .v (.st 0) [], .v (.st 0) []], [.v (.int .i64) []], fun a => dispatchref1_Order a.1 a.2.1 a.2.2.1 a.2.2.2.1⟩

def dispatchlaw1_RvecOrders (a : Vec) (p : Vec) (b : Vec) (q : Vec) (how : Int) : Option Bool :=
  (dispatchlaw1_known).bind fun x =>
  bif ! x then
    some false
  else
    (rvec_Order a p b q).bind fun x1 =>
    (dispatchref1_Order a p b q).bind fun x2 =>
    bif x1 != x2 then
      some false
    else
      (dispatchlaw1_vec a how).bind fun x3 =>
      (dispatchlaw1_vec p (w64 (Int.tdiv how 2))).bind fun x4 =>
      (dispatchlaw1_vec b how).bind fun x5 =>
      (dispatchlaw1_vec q (w64 (Int.tdiv how 2))).bind fun x6 =>
      (rvec_Order x3 x4 x5 x6).bind fun x7 =>
      (dispatchref1_Order x3 x4 x5 x6).bind fun x8 =>
      bif x7 == x8 then
        (rvec_Order x5 x6 x3 x4).bind fun x9 =>
        (rvec_Order x3 x4 x5 x6).bind fun x10 =>
        bif x9 == (w64 (0 - x10)) then
          (rvec_Order x3 x4 x3 x4).bind fun x11 =>
          some (x11 == 0)
        else
          some false
      else
        some false
def h8 : Hint := .z
noncomputable def sp8 : Spec fam := ⟨[.v (.st 0) [], .v (.st 0) [], .v (.st 0) [], .v (.st 0) [], .v (.int .i64) []], [.v .bool []], fun a => dispatchlaw1_RvecOrders a.1 a.2.1 a.2.2.1 a.2.2.2.1 a.2.2.2.2.1⟩

def dispatchlaw1_RvecChains_l1 (l : List Vec) (how : Int) (t : List Vec × Int) : Option ((List Vec × Int) ⊕ List Vec) :=
  bif decide (t.2 < 6) then
    (idx l t.2).bind fun x1 =>
    (dispatchlaw1_vec x1 how).bind fun x2 =>
    (inb t.2 6).bind fun i =>
    (t.1[i]?).bind fun x3 =>
    some (.inl (List.set t.1 i x2, w64 (t.2 + 1)))
  else
    some (.inr t.1)

def dispatchlaw1_RvecChains (l : List Vec) (how : Int) : Option Bool :=
  (dispatchlaw1_known).bind fun x =>
  bif ! x then
    some false
  else
    bif decide ((l.length : Int) < 6) then
      some true
    else
      (loop (dispatchlaw1_RvecChains_l1 l how) ([(⟨0, 0⟩ : Vec), (⟨0, 0⟩ : Vec), (⟨0, 0⟩ : Vec), (⟨0, 0⟩ : Vec), (⟨0, 0⟩ : Vec), (⟨0, 0⟩ : Vec)], 0)).bind fun v =>
      (v[0]?).bind fun x4 =>
      (v[1]?).bind fun x5 =>
      (v[2]?).bind fun x6 =>
      (v[3]?).bind fun x7 =>
      (rvec_Order x4 x5 x6 x7).bind fun x8 =>
      (v[2]?).bind fun x9 =>
      (v[3]?).bind fun x10 =>
      (v[4]?).bind fun x11 =>
      (v[5]?).bind fun x12 =>
      (rvec_Order x9 x10 x11 x12).bind fun y =>
      (v[0]?).bind fun x13 =>
      (v[1]?).bind fun x14 =>
      (v[4]?).bind fun x15 =>
      (v[5]?).bind fun x16 =>
      (rvec_Order x13 x14 x15 x16).bind fun z =>
      (
        bif decide (x8 ≤ 0) then
          some (decide (y ≤ 0))
        else
          some false).bind fun q =>
      bif q then
        bif decide (z ≤ 0) then
          bif decide (x8 < 0) then
            some ((decide (z < 0)) == true)
          else
            some ((decide (z < 0)) == (decide (y < 0)))
        else
          some false
      else
        (
          bif decide (x8 ≥ 0) then
            some (decide (y ≥ 0))
          else
            some false).bind fun q1 =>
        bif q1 then
          bif decide (z ≥ 0) then
            bif decide (x8 > 0) then
              some ((decide (z > 0)) == true)
            else
              some ((decide (z > 0)) == (decide (y > 0)))
          else
            some false
        else
          some true
def h9 : Hint := (.s .z (.s .z (.s .z (.s .z (.s (.s .z (.b (.l [(5, .row (.st 0) true), (6, .v (.int .i64) [])] [5, 6] [(2, [(5, .row (.st 0) true)])] .z))) (.s .z (.s (.b (.s (.j [] [(0, [(54, .v .bool [])])] .z) (.c .z (.s (.j [] [(0, [(74, .v .bool [])])] .z) .z)))) .z)))))))
noncomputable def sp9 : Spec fam := ⟨[.v (.slice (.st 0)) [], .v (.int .i64) []], [.v .bool []], fun a => dispatchlaw1_RvecChains a.1 a.2.1⟩

def dispatchlaw1_times (v : Vec) (k : Int) : Option Vec :=
  some (⟨w64 (v.Mem * k), w64 (v.Cores * k)⟩ : Vec)
def h25 : Hint := .z
noncomputable def sp25 : Spec fam := ⟨[.v (.st 0) [], .v (.int .i64) []], [.v (.st 0) []], fun a => dispatchlaw1_times a.1 a.2.1⟩

def dispatchlaw1_RvecWide (n : Int) (k : Int) (cores : Bool) : Option Bool :=
  (dispatchlaw1_known).bind fun x =>
  bif ! x then
    some false
  else
    (dispatchlaw1_within n 35184372088832).bind fun x1 =>
    (dispatchlaw1_within k 30).bind fun x2 =>
    (
      bif cores then
        some ((⟨0, w64 ((w64 (2 + x1)) - 1)⟩ : Vec), (⟨1, w64 (2 + x1)⟩ : Vec), (⟨0, w64 ((w64 (2 + x1)) - 2)⟩ : Vec))
      else
        some ((⟨w64 ((w64 (2 + x1)) - 1), 0⟩ : Vec), (⟨w64 (2 + x1), 1⟩ : Vec), (⟨w64 ((w64 (2 + x1)) - 2), 0⟩ : Vec))).bind fun q =>
    (dispatchlaw1_times q.1 (w64 (1 + x2))).bind fun x3 =>
    (dispatchlaw1_times q.2.1 (w64 (1 + x2))).bind fun x4 =>
    (rvec_Order q.1 q.2.1 q.2.2 q.2.1).bind fun x5 =>
    bif x5 == 1 then
      (rvec_Order q.2.2 q.2.1 q.1 q.2.1).bind fun x6 =>
      bif x6 == (-1) then
        (rvec_Order q.1 q.2.1 x3 x4).bind fun x7 =>
        bif x7 == 0 then
          (rvec_Order q.2.2 q.2.1 x3 x4).bind fun x8 =>
          some (x8 == (-1))
        else
          some false
      else
        some false
    else
      some false
def h10 : Hint := (.s .z (.s .z (.s .z (.s .z (.s .z (.s .z (.s .z (.s (.j [7, 8, 9] [(0, [(7, .box (.st 0) []), (8, .box (.st 0) []), (9, .box (.st 0) [])])] .z) .z))))))))
noncomputable def sp10 : Spec fam := ⟨[.v (.int .i64) [], .v (.int .i64) [], .v .bool []], [.v .bool []], fun a => dispatchlaw1_RvecWide a.1 a.2.1 a.2.2.1⟩

def dispatchlaw1_RvecNought (a : Vec) (p : Vec) : Option Bool :=
  (dispatchlaw1_known).bind fun x =>
  bif ! x then
    some false
  else
    (dispatchlaw1_vec a 1).bind fun x1 =>
    (dispatchlaw1_vec p 1).bind fun x2 =>
    (rvec_Order (⟨0, 0⟩ : Vec) (⟨0, 0⟩ : Vec) (⟨0, 0⟩ : Vec) x2).bind fun x3 =>
    bif x3 == 0 then
      (rvec_Order (⟨x1.Mem, imax x1.Cores 1⟩ : Vec) (⟨1125899906842624, 0⟩ : Vec) x1 (⟨imax x2.Mem 1, imax x2.Cores 1⟩ : Vec)).bind fun x4 =>
      bif x4 == 1 then
        (rvec_Order (⟨x1.Mem, imax x1.Cores 1⟩ : Vec) (⟨0, 0⟩ : Vec) (⟨x1.Mem, imax x1.Cores 1⟩ : Vec) (⟨0, 0⟩ : Vec)).bind fun x5 =>
        bif x5 == 0 then
          (rvec_Order (⟨0, 0⟩ : Vec) (⟨0, 0⟩ : Vec) (⟨x1.Mem, imax x1.Cores 1⟩ : Vec) (⟨imax x2.Mem 1, imax x2.Cores 1⟩ : Vec)).bind fun x6 =>
          some (x6 == (-1))
        else
          some false
      else
        some false
    else
      some false
def h11 : Hint := .z
noncomputable def sp11 : Spec fam := ⟨[.v (.st 0) [], .v (.st 0) []], [.v .bool []], fun a => dispatchlaw1_RvecNought a.1 a.2.1⟩

end
end Go.Fx.D
