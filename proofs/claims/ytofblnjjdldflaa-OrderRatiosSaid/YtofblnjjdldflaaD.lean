/-
  The functions of the program that these laws reach, as functions over plain data (printed by a program). Conditions: none.
-/
import Derived.Test.YtofblnjjdldflaaFxC
import Derived.Test.YtofblnjjdldflaaA
namespace Go.Fx.D
open Go Go.Fx Go.Proofs
set_option linter.unusedVariables false
noncomputable section

def dispatchref19_New : Option State :=
  some (⟨⟨[([] : List UInt8)], [(⟨([114, 111, 111, 116] : List UInt8), [(⟨10000, 10000⟩ : Cap)], 10000⟩ : Queue)]⟩, [], [], [], [], [], 0, 0, 0⟩ : State)
def h5 : Hint := .z
noncomputable def sp5 : Spec fam := ⟨[], [.v (.st 10) [0, 1, 2, 3, 4, 5, 6]], fun _ => dispatchref19_New⟩

def bytealg_LastIndexByteString_l1 (s : List UInt8) (c : Int) (i1 : Int) : Option (Int ⊕ (Int ⊕ Unit)) :=
  bif decide (i1 ≥ 0) then
    (idx s i1).bind fun ch =>
    bif (ch.toNat : Int) == c then
      some (.inr (.inl i1))
    else
      some (.inl (w64 (i1 - 1)))
  else
    some (.inr (.inr ()))

def bytealg_LastIndexByteString (s : List UInt8) (c : Int) : Option Int :=
  let i := w64 ((s.length : Int) - 1)
  (loop (bytealg_LastIndexByteString_l1 s c) i).bind fun q0 =>
  match q0 with
  | .inl q =>
    some q
  | .inr _ =>
    some (-1)
def h67 : Hint := (.s .z (.s (.s .z (.b (.l [(5, .v (.int .i64) [])] [4, 5] [(1, [(4, .v (.int .i64) [])]), (2, [])] .z))) .z))
noncomputable def sp67 : Spec fam := ⟨[.v .str [], .v (.int .u8) []], [.v (.int .i64) []], fun a => bytealg_LastIndexByteString a.1 a.2.1⟩

def bytealg_hashStrRev_string__l2 (t1 : Int × Int × Int) : Option ((Int × Int × Int) ⊕ Int) :=
  bif decide (t1.2.2 > 0) then
    (
      bif (andK .i64 t1.2.2 1) != 0 then
        let pow := IntKind.u32.wrap (t1.1 * t1.2.1)
        some pow
      else
        some t1.1).bind fun pow1 =>
    let sq := IntKind.u32.wrap (t1.2.1 * t1.2.1)
    some (.inl (pow1, sq, shrK .i64 t1.2.2 1))
  else
    some (.inr t1.1)

def bytealg_hashStrRev_string__l1 (sep : List UInt8) (t : Int × Int) : Option ((Int × Int) ⊕ Int) :=
  bif decide (t.2 ≥ 0) then
    (idx sep t.2).bind fun ch =>
    let hash := IntKind.u32.wrap ((IntKind.u32.wrap (t.1 * 16777619)) + (IntKind.u32.wrap (ch.toNat : Int)))
    some (.inl (hash, w64 (t.2 - 1)))
  else
    some (.inr t.1)

def bytealg_hashStrRev_string_ (sep : List UInt8) : Option (Int × Int) :=
  let i := w64 ((sep.length : Int) - 1)
  (loop (bytealg_hashStrRev_string__l1 sep) (0, i)).bind fun hash1 =>
  (loop bytealg_hashStrRev_string__l2 (1, 16777619, (sep.length : Int))).bind fun pow2 =>
  some (hash1, pow2)
def h85 : Hint := (.s .z (.s .z (.s (.s .z (.b (.l [(4, .v (.int .u32) []), (5, .v (.int .i64) [])] [4, 5] [(2, [(4, .v (.int .u32) [])])] .z))) (.s .z (.s (.s .z (.b (.l [(6, .v (.int .u32) []), (7, .v (.int .u32) []), (8, .v (.int .i64) [])] [6, 7, 8] [(4, [(6, .v (.int .u32) [])])] (.s .z (.s (.b (.s (.j [6] [(0, [(6, .v (.int .u32) [])])] .z) .z)) .z))))) .z)))))
noncomputable def sp85 : Spec fam := ⟨[.v .str []], [.v (.int .u32) [], .v (.int .u32) []], fun a => bytealg_hashStrRev_string_ a.1⟩

def bytealg_LastIndexRabinKarp_string__l2 (s : List UInt8) (sep : List UInt8) (x : Int × Int) (t1 : Int × Int) : Option ((Int × Int) ⊕ (Int ⊕ Unit)) :=
  bif decide (t1.2 ≥ 0) then
    (idx s t1.2).bind fun ch1 =>
    let h2 := IntKind.u32.wrap ((IntKind.u32.wrap (t1.1 * 16777619)) + (IntKind.u32.wrap (ch1.toNat : Int)))
    (idx s (w64 (t1.2 + (sep.length : Int)))).bind fun ch2 =>
    let h3 := IntKind.u32.wrap (h2 - (IntKind.u32.wrap (x.2 * (IntKind.u32.wrap (ch2.toNat : Int)))))
    (
      bif h3 == x.1 then
        (slc s t1.2 (w64 (t1.2 + (sep.length : Int)))).bind fun s2 =>
        some (s2 == sep)
      else
        some false).bind fun q1 =>
    bif q1 then
      some (.inr (.inl (t1.2)))
    else
      some (.inl (h3, w64 (t1.2 - 1)))
  else
    some (.inr (.inr ()))

def bytealg_LastIndexRabinKarp_string__l1 (s : List UInt8) (last : Int) (t : Int × Int) : Option ((Int × Int) ⊕ Int) :=
  bif decide (t.2 ≥ last) then
    (idx s t.2).bind fun ch =>
    let h := IntKind.u32.wrap ((IntKind.u32.wrap (t.1 * 16777619)) + (IntKind.u32.wrap (ch.toNat : Int)))
    some (.inl (h, w64 (t.2 - 1)))
  else
    some (.inr t.1)

def bytealg_LastIndexRabinKarp_string_ (s : List UInt8) (sep : List UInt8) : Option Int :=
  (bytealg_hashStrRev_string_ sep).bind fun x =>
  let last := w64 ((s.length : Int) - (sep.length : Int))
  let i := w64 ((s.length : Int) - 1)
  (loop (bytealg_LastIndexRabinKarp_string__l1 s last) (0, i)).bind fun h1 =>
  (
    bif h1 == x.1 then
      (slc s last (s.length : Int)).bind fun s1 =>
      some (s1 == sep)
    else
      some false).bind fun q =>
  bif q then
    some last
  else
    (loop (bytealg_LastIndexRabinKarp_string__l2 s sep x) (h1, w64 (last - 1))).bind fun q0 =>
    match q0 with
    | .inl q2 =>
      some q2
    | .inr _ =>
      some (-1)
def h68 : Hint := (.s .z (.s .z (.s .z (.s .z (.s .z (.s (.s .z (.b (.l [(9, .v (.int .u32) []), (10, .v (.int .i64) [])] [9, 10] [(2, [(9, .v (.int .u32) [])])] .z))) (.s (.s (.j [] [(0, [(47, .v .bool [])])] .z) .z) (.s (.s .z (.b (.l [(9, .v (.int .u32) []), (11, .v (.int .i64) [])] [4, 9, 11, 85] [(1, [(4, .v (.int .i64) [])]), (4, [])] (.s .z (.s (.b (.s .z (.s .z (.s .z (.s (.j [] [(0, [(85, .v .bool [])])] .z) .z))))) .z))))) .z))))))))
noncomputable def sp68 : Spec fam := ⟨[.v .str [], .v .str []], [.v (.int .i64) []], fun a => bytealg_LastIndexRabinKarp_string_ a.1 a.2.1⟩

def strings_LastIndex (s : List UInt8) (substr : List UInt8) : Option Int :=
  bif (substr.length : Int) == 0 then
    some (s.length : Int)
  else
    bif (substr.length : Int) == 1 then
      (idx substr 0).bind fun ch =>
      (bytealg_LastIndexByteString s (ch.toNat : Int)).bind fun x =>
      some x
    else
      bif (substr.length : Int) == (s.length : Int) then
        bif substr == s then
          some 0
        else
          some (-1)
      else
        bif decide ((substr.length : Int) > (s.length : Int)) then
          some (-1)
        else
          (bytealg_LastIndexRabinKarp_string_ s substr).bind fun x1 =>
          some x1
def h41 : Hint := .z
noncomputable def sp41 : Spec fam := ⟨[.v .str [], .v .str []], [.v (.int .i64) []], fun a => strings_LastIndex a.1 a.2.1⟩

def rule_above (path : List UInt8) : Option (List UInt8 × Bool) :=
  (strings_LastIndex path ([46] : List UInt8)).bind fun i =>
  bif decide (i < 0) then
    some (([] : List UInt8), false)
  else
    (slc path 0 i).bind fun s =>
    some (s, true)
def h25 : Hint := .z
noncomputable def sp25 : Spec fam := ⟨[.v .str []], [.v .str [], .v .bool []], fun a => rule_above a.1⟩

def rule_Kids_l1 (c : Conf) (path : List UInt8) (t : List (List UInt8) × Int) : Option ((List (List UInt8) × Int) ⊕ List (List UInt8)) :=
  bif decide (t.2 < (c.Queues.length : Int)) then
    (
      (idx c.Queues t.2).bind fun x =>
      (rule_above x.Path).bind fun x1 =>
      (
        bif x1.2 then
          some (x1.1 == path)
        else
          some false).bind fun q =>
      bif q then
        (app 16 t.1 [x.Path]).bind fun l =>
        some l
      else
        some t.1).bind fun out =>
    some (.inl (out, w64 (t.2 + 1)))
  else
    some (.inr t.1)

def rule_Kids (c : Conf) (path : List UInt8) : Option (List (List UInt8)) :=
  (loop (rule_Kids_l1 c path) ([], 0)).bind fun out1 =>
  some out1
def h10 : Hint := (.s .z (.s .z (.s (.s .z (.b (.l [(5, .v (.slice (.str)) [0]), (13, .v (.int .i64) [])] [5, 7, 8, 9, 13, 28] [(2, [(5, .v (.slice (.str)) [0])])] (.s .z (.s .z (.s (.j [5, 7, 8, 9, 28] [(0, [(5, .v (.slice (.str)) [0])])] (.b (.s .z (.s .z (.s (.j [] [(0, [(28, .v .bool [])])] .z) .z))))) .z)))))) .z)))
noncomputable def sp10 : Spec fam := ⟨[.v (.st 2) [], .v .str []], [.v (.slice (.str)) [0]], fun a => rule_Kids a.1 a.2.1⟩

def qtree_view_owner_l1 (v : View) (c : Cont) (t : App × Int) : Option ((App × Int) ⊕ ((App × Bool) ⊕ App)) :=
  bif decide (t.2 < (v.s.Apps.length : Int)) then
    (idx v.s.Apps t.2).bind fun x =>
    bif x.Id == c.App then
      some (.inr (.inl (x, true)))
    else
      some (.inl (t.1, w64 (t.2 + 1)))
  else
    some (.inr (.inr (t.1)))

def qtree_view_owner (v : View) (c : Cont) : Option (App × Bool) :=
  (loop (qtree_view_owner_l1 v c) ((⟨0, 0, [], 0, 0, ⟨0, 0⟩, [], 0, 0, [], [], [], []⟩ : App), 0)).bind fun q0 =>
  match q0 with
  | .inl q =>
    some (q.1, q.2)
  | .inr q1 =>
    some ((⟨0, 0, [], 0, 0, ⟨0, 0⟩, [], 0, 0, [], [], [], []⟩ : App), false)
def h42 : Hint := (.s .z (.s (.s .z (.b (.l [(4, .box (.st 6) [7, 10, 11, 12, 13]), (12, .v (.int .i64) [])] [4, 5, 7, 12] [(1, [(4, .box (.st 6) []), (5, .v .bool [])]), (2, [(4, .box (.st 6) [7, 10, 11, 12, 13])])] .z))) .z))
noncomputable def sp42 : Spec fam := ⟨[.v (.st 11) [], .v (.st 7) []], [.v (.st 6) [], .v .bool []], fun a => qtree_view_owner a.1 a.2.1⟩

def stringslite_HasPrefix (s : List UInt8) (prefix_ : List UInt8) : Option Bool :=
  bif decide ((s.length : Int) ≥ (prefix_.length : Int)) then
    (slc s 0 (prefix_.length : Int)).bind fun s1 =>
    some (s1 == prefix_)
  else
    some false
def h86 : Hint := .z
noncomputable def sp86 : Spec fam := ⟨[.v .str [], .v .str []], [.v .bool []], fun a => stringslite_HasPrefix a.1 a.2.1⟩

def strings_HasPrefix (s : List UInt8) (prefix_ : List UInt8) : Option Bool :=
  (stringslite_HasPrefix s prefix_).bind fun x =>
  some x
def h69 : Hint := .z
noncomputable def sp69 : Spec fam := ⟨[.v .str [], .v .str []], [.v .bool []], fun a => strings_HasPrefix a.1 a.2.1⟩

def qtree_view_has (v : View) (a : App) : Option Bool :=
  (
    bif a.Queue == v.path then
      some true
    else
      (cat v.path ([46] : List UInt8)).bind fun s =>
      (strings_HasPrefix a.Queue s).bind fun x =>
      some x).bind fun below =>
  bif below then
    bif v.user == (-1) then
      some true
    else
      some (a.User == v.user)
  else
    some false
def h43 : Hint := (.s .z (.s (.j [] [(0, [(5, .v .bool [])])] .z) .z))
noncomputable def sp43 : Spec fam := ⟨[.v (.st 11) [], .v (.st 6) []], [.v .bool []], fun a => qtree_view_has a.1 a.2.1⟩

def rvec_vec_good (v : Vec) : Option Bool :=
  bif decide (v.Mem ≥ 0) then
    bif decide (v.Mem ≤ 1125899906842624) then
      bif decide (v.Cores ≥ 0) then
        some (decide (v.Cores ≤ 1125899906842624))
      else
        some false
    else
      some false
  else
    some false
def h59 : Hint := .z
noncomputable def sp59 : Spec fam := ⟨[.v (.st 3) []], [.v .bool []], fun a => rvec_vec_good a.1⟩

def rvec_over (v : Vec) : Option (Vec × Int) :=
  (rvec_vec_good v).bind fun x =>
  bif ! x then
    some ((⟨0, 0⟩ : Vec), 11)
  else
    some (v, 0)
def h70 : Hint := .z
noncomputable def sp70 : Spec fam := ⟨[.v (.st 3) []], [.v (.st 3) [], .v (.int .i64) []], fun a => rvec_over a.1⟩

def rvec_Add (a : Vec) (b : Vec) : Option (Vec × Int) :=
  (
    (rvec_vec_good a).bind fun x =>
    bif ! x then
      some true
    else
      (rvec_vec_good b).bind fun x1 =>
      some (! x1)).bind fun q =>
  bif q then
    some ((⟨0, 0⟩ : Vec), 1)
  else
    (rvec_over (⟨w64 (a.Mem + b.Mem), w64 (a.Cores + b.Cores)⟩ : Vec)).bind fun x2 =>
    some (x2.1, x2.2)
def h44 : Hint := (.s .z (.s (.s (.j [] [(0, [(13, .v .bool [])])] .z) .z) .z))
noncomputable def sp44 : Spec fam := ⟨[.v (.st 3) [], .v (.st 3) []], [.v (.st 3) [], .v (.int .i64) []], fun a => rvec_Add a.1 a.2.1⟩

def qtree_view_used_l1 (v : View) (t : Vec × Int) : Option ((Vec × Int) ⊕ Vec) :=
  bif decide (t.2 < (v.s.Conts.length : Int)) then
    (
      (idx v.s.Conts t.2).bind fun x =>
      (qtree_view_owner v x).bind fun x1 =>
      (
        bif x1.2 then
          bif x.Label == v.label then
            (qtree_view_has v x1.1).bind fun x2 =>
            some x2
          else
            some false
        else
          some false).bind fun q =>
      bif q then
        (rvec_Add t.1 x.Size).bind fun x3 =>
        some x3.1
      else
        some t.1).bind fun out =>
    some (.inl (out, w64 (t.2 + 1)))
  else
    some (.inr t.1)

def qtree_view_used (v : View) : Option Vec :=
  (loop (qtree_view_used_l1 v) ((⟨0, 0⟩ : Vec), 0)).bind fun out1 =>
  some out1
def h26 : Hint := (.s .z (.s .z (.s .z (.s (.s .z (.b (.l [(3, .box (.st 3) []), (15, .v (.int .i64) [])] [3, 6, 7, 8, 15, 37] [(2, [(3, .box (.st 3) [])])] (.s .z (.s .z (.s (.j [3, 6, 7, 8, 37] [(0, [(3, .box (.st 3) [])])] (.b (.s .z (.s .z (.s (.j [] [(0, [(37, .v .bool [])])] .z) .z))))) .z)))))) .z))))
noncomputable def sp26 : Spec fam := ⟨[.v (.st 11) []], [.v (.st 3) []], fun a => qtree_view_used a.1⟩

def qtree_Used (s : State) (path : List UInt8) (label : Int) : Option Vec :=
  (qtree_view_used (⟨⟨⟨s.Conf.Labels, s.Conf.Queues⟩, s.Nodes, s.Apps, s.Conts, s.Slots, s.Plans, s.Now, s.Epoch, s.Seq⟩, path, label, (-1)⟩ : View)).bind fun x =>
  some x
def h11 : Hint := .z
noncomputable def sp11 : Spec fam := ⟨[.v (.st 10) [], .v .str [], .v (.int .i64) []], [.v (.st 3) []], fun a => qtree_Used a.1 a.2.1 a.2.2.1⟩

def rule_Up_l1 (t : List UInt8 × List (List UInt8)) : Option ((List UInt8 × List (List UInt8)) ⊕ List (List UInt8)) :=
  bif ! (t.1 == ([] : List UInt8)) then
    (app 16 t.2 [t.1]).bind fun l =>
    (rule_above t.1).bind fun x =>
    some (.inl (x.1, l))
  else
    some (.inr t.2)

def rule_Up (path : List UInt8) : Option (List (List UInt8)) :=
  (loop rule_Up_l1 (path, [])).bind fun out =>
  some out
def h45 : Hint := (.s .z (.s .z (.s (.b (.l [(0, .v .str []), (3, .v (.slice (.str)) [0])] [0, 3] [(2, [(3, .v (.slice (.str)) [0])])] .z)) .z)))
noncomputable def sp45 : Spec fam := ⟨[.v .str []], [.v (.slice (.str)) [0]], fun a => rule_Up a.1⟩

def api_Queue__l1 (s : List Queue) (f : (TupT fam [.st 1] → Option Bool)) (t : Int) : Option (Int ⊕ (Int ⊕ Unit)) :=
  bif decide (t < (s.length : Int)) then
    (idx s t).bind fun x =>
    (f (x, ())).bind fun r =>
    bif r then
      some (.inr (.inl t))
    else
      some (.inl (w64 (t + 1)))
  else
    some (.inr (.inr ()))

def api_Queue_ (s : List Queue) (f : (TupT fam [.st 1] → Option Bool)) : Option Int :=
  (loop (api_Queue__l1 s f) 0).bind fun q0 =>
  match q0 with
  | .inl q =>
    some q
  | .inr _ =>
    some (-1)
def h71 : Hint := (.s .z (.s (.s .z (.b (.l [(8, .v (.int .i64) [])] [4, 5, 8] [(1, [(4, .v (.int .i64) [])]), (2, [])] .z))) .z))
noncomputable def sp71 : Spec fam := ⟨[.v (.slice (.st 1)) [], .fn [.st 1] .bool], [.v (.int .i64) []], fun a => api_Queue_ a.1 a.2.1⟩

def rule_Find_1 (q : Queue) (p : List UInt8) : Option Bool :=
  some (q.Path == p)
def h72 : Hint := .z
noncomputable def sp72 : Spec fam := ⟨[.v (.st 1) [], .rp .str], [.v .bool []], fun a => rule_Find_1 a.1 a.2.1⟩

def api_Cap__ne (s : List Cap) : Option (List Cap) :=
  bif s.isEmpty then
    none
  else
    (app 16 [] s).bind fun l =>
    some l

def api_Cap_ (s : List Cap) : Option (List Cap) := app 16 [] s
def h73 : Hint := .z
noncomputable def sp73 : Spec fam := ⟨[.v (.slice (.st 0)) []], [.v (.slice (.st 0)) [0]], fun a => api_Cap_ a.1⟩

noncomputable def sp73_ne : Spec fam := ⟨[.v (.slice (.st 0)) []], [.v (.slice (.st 0)) [0]], fun a => api_Cap__ne a.1⟩

def rule_Find (c : Conf) (path : List UInt8) : Option (Queue × Bool) :=
  (api_Queue_ c.Queues (fun a' => rule_Find_1 a'.1 path)).bind fun i =>
  bif decide (i < 0) then
    some ((⟨[], [], 0⟩ : Queue), false)
  else
    (idx c.Queues i).bind fun x =>
    (api_Cap_ x.Caps).bind fun x1 =>
    some ((⟨x.Path, x1, x.User⟩ : Queue), true)
def h46 : Hint := .z
noncomputable def sp46 : Spec fam := ⟨[.v (.st 2) [], .v .str []], [.v (.st 1) [1], .v .bool []], fun a => rule_Find a.1 a.2.1⟩

def share_sum_l1 (l : List Vec) (t : Vec × Int) : Option ((Vec × Int) ⊕ Vec) :=
  bif decide (t.2 < (l.length : Int)) then
    (idx l t.2).bind fun x =>
    (rvec_Add t.1 x).bind fun x1 =>
    some (.inl (x1.1, w64 (t.2 + 1)))
  else
    some (.inr t.1)

def share_sum (l : List Vec) : Option Vec :=
  (loop (share_sum_l1 l) ((⟨0, 0⟩ : Vec), 0)).bind fun out =>
  some out
def h74 : Hint := (.s .z (.s .z (.s (.s .z (.b (.l [(3, .box (.st 3) []), (8, .v (.int .i64) [])] [3, 5, 8] [(2, [(3, .box (.st 3) [])])] .z))) .z)))
noncomputable def sp74 : Spec fam := ⟨[.v (.slice (.st 3)) []], [.v (.st 3) []], fun a => share_sum a.1⟩

def share_Total_l1 (s : State) (label : Int) (t : List Vec × Int) : Option ((List Vec × Int) ⊕ List Vec) :=
  bif decide (t.2 < (s.Nodes.length : Int)) then
    (
      (idx s.Nodes t.2).bind fun x =>
      (
        bif x.Up then
          some (x.Label == label)
        else
          some false).bind fun q =>
      bif q then
        (app 16 t.1 [x.Cap]).bind fun l =>
        some l
      else
        some t.1).bind fun l1 =>
    some (.inl (l1, w64 (t.2 + 1)))
  else
    some (.inr t.1)

def share_Total (s : State) (label : Int) : Option Vec :=
  (loop (share_Total_l1 s label) ([], 0)).bind fun l2 =>
  (share_sum l2).bind fun x1 =>
  some x1
def h47 : Hint := (.s .z (.s .z (.s (.s .z (.b (.l [(5, .v (.slice (.st 3)) [0]), (11, .v (.int .i64) [])] [5, 7, 11, 22] [(2, [(5, .v (.slice (.st 3)) [0])])] (.s .z (.s .z (.s (.j [5, 7, 22] [(0, [(5, .v (.slice (.st 3)) [0])])] (.b (.s .z (.s (.j [] [(0, [(22, .v .bool [])])] .z) .z)))) .z)))))) .z)))
noncomputable def sp47 : Spec fam := ⟨[.v (.st 10) [], .v (.int .i64) []], [.v (.st 3) []], fun a => share_Total a.1 a.2.1⟩

def bits_Mul64 (x : Int) (y : Int) : Option (Int × Int) :=
  let w0 := IntKind.u64.wrap ((andK .u64 x 4294967295) * (andK .u64 y 4294967295))
  let t := IntKind.u64.wrap ((IntKind.u64.wrap ((shrK .u64 x 32) * (andK .u64 y 4294967295))) + (shrK .u64 w0 32))
  let w1 := IntKind.u64.wrap ((andK .u64 t 4294967295) + (IntKind.u64.wrap ((andK .u64 x 4294967295) * (shrK .u64 y 32))))
  let hi := IntKind.u64.wrap ((IntKind.u64.wrap ((IntKind.u64.wrap ((shrK .u64 x 32) * (shrK .u64 y 32))) + (shrK .u64 t 32))) + (shrK .u64 w1 32))
  some (hi, IntKind.u64.wrap (x * y))
def h84 : Hint := .z
noncomputable def sp84 : Spec fam := ⟨[.v (.int .u64) [], .v (.int .u64) []], [.v (.int .u64) [], .v (.int .u64) []], fun a => bits_Mul64 a.1 a.2.1⟩

def bits_Len64 (x : Int) : Option Int :=
  (
    bif decide (x ≥ 4294967296) then
      some (shrK .u64 x 32, 32)
    else
      some (x, 0)).bind fun q =>
  (
    bif decide (q.1 ≥ 65536) then
      some (shrK .u64 q.1 16, w64 (q.2 + 16))
    else
      some (q.1, q.2)).bind fun q1 =>
  (
    bif decide (q1.1 ≥ 256) then
      some (shrK .u64 q1.1 8, w64 (q1.2 + 8))
    else
      some (q1.1, q1.2)).bind fun q2 =>
  (idx ([0, 1, 2, 2, 3, 3, 3, 3, 4, 4, 4, 4, 4, 4, 4, 4, 5, 5, 5, 5, 5, 5, 5, 5, 5, 5, 5, 5, 5, 5, 5, 5, 6, 6, 6, 6, 6, 6, 6, 6, 6, 6, 6, 6, 6, 6, 6, 6, 6, 6, 6, 6, 6, 6, 6, 6, 6, 6, 6, 6, 6, 6, 6, 6, 7, 7, 7, 7, 7, 7, 7, 7, 7, 7, 7, 7, 7, 7, 7, 7, 7, 7, 7, 7, 7, 7, 7, 7, 7, 7, 7, 7, 7, 7, 7, 7, 7, 7, 7, 7, 7, 7, 7, 7, 7, 7, 7, 7, 7, 7, 7, 7, 7, 7, 7, 7, 7, 7, 7, 7, 7, 7, 7, 7, 7, 7, 7, 7, 8, 8, 8, 8, 8, 8, 8, 8, 8, 8, 8, 8, 8, 8, 8, 8, 8, 8, 8, 8, 8, 8, 8, 8, 8, 8, 8, 8, 8, 8, 8, 8, 8, 8, 8, 8, 8, 8, 8, 8, 8, 8, 8, 8, 8, 8, 8, 8, 8, 8, 8, 8, 8, 8, 8, 8, 8, 8, 8, 8, 8, 8, 8, 8, 8, 8, 8, 8, 8, 8, 8, 8, 8, 8, 8, 8, 8, 8, 8, 8, 8, 8, 8, 8, 8, 8, 8, 8, 8, 8, 8, 8, 8, 8, 8, 8, 8, 8, 8, 8, 8, 8, 8, 8, 8, 8, 8, 8, 8, 8, 8, 8, 8, 8, 8, 8, 8, 8, 8, 8, 8, 8, 8, 8, 8, 8, 8, 8] : List UInt8) (IntKind.u8.wrap q2.1)).bind fun ch =>
  let n := w64 (q2.2 + (w64 (ch.toNat : Int)))
  some n
def h58 : Hint := (.s .z (.s (.j [0, 2] [(0, [(0, .v (.int .u64) []), (2, .v (.int .i64) [])])] .z) (.s (.j [0, 2] [(0, [(0, .v (.int .u64) []), (2, .v (.int .i64) [])])] .z) (.s (.j [0, 2] [(0, [(0, .v (.int .u64) []), (2, .v (.int .i64) [])])] .z) .z))))
noncomputable def sp58 : Spec fam := ⟨[.v (.int .u64) []], [.v (.int .i64) []], fun a => bits_Len64 a.1⟩

def bits_LeadingZeros64 (x : Int) : Option Int :=
  (bits_Len64 x).bind fun x1 =>
  some (w64 (64 - x1))
def h89 : Hint := .z
noncomputable def sp89 : Spec fam := ⟨[.v (.int .u64) []], [.v (.int .i64) []], fun a => bits_LeadingZeros64 a.1⟩

def bits_Div64_l2 (yn1 : Int) (yn0 : Int) (un0 : Int) (t1 : Int × Int) : Option ((Int × Int) ⊕ Int) :=
  (
    bif decide (t1.2 ≥ 4294967296) then
      some true
    else
      some (decide ((IntKind.u64.wrap (t1.2 * yn0)) > (IntKind.u64.wrap ((IntKind.u64.wrap (4294967296 * t1.1)) + un0))))).bind fun q2 =>
  bif q2 then
    bif decide ((IntKind.u64.wrap (t1.1 + yn1)) ≥ 4294967296) then
      some (.inr (IntKind.u64.wrap (t1.2 - 1)))
    else
      some (.inl (IntKind.u64.wrap (t1.1 + yn1), IntKind.u64.wrap (t1.2 - 1)))
  else
    some (.inr t1.2)

def bits_Div64_l1 (yn1 : Int) (yn0 : Int) (un1 : Int) (t : Int × Int) : Option ((Int × Int) ⊕ Int) :=
  (
    bif decide (t.1 ≥ 4294967296) then
      some true
    else
      some (decide ((IntKind.u64.wrap (t.1 * yn0)) > (IntKind.u64.wrap ((IntKind.u64.wrap (4294967296 * t.2)) + un1))))).bind fun q =>
  bif q then
    bif decide ((IntKind.u64.wrap (t.2 + yn1)) ≥ 4294967296) then
      some (.inr (IntKind.u64.wrap (t.1 - 1)))
    else
      some (.inl (IntKind.u64.wrap (t.1 - 1), IntKind.u64.wrap (t.2 + yn1)))
  else
    some (.inr t.1)

def bits_Div64 (hi : Int) (lo : Int) (y : Int) : Option (Int × Int) :=
  bif y == 0 then
    none
  else
    bif decide (y ≤ hi) then
      none
    else
      bif hi == 0 then
        (nz y).bind fun _ =>
        (nz y).bind fun _ =>
        some (IntKind.u64.wrap (Int.tdiv lo y), Int.tmod lo y)
      else
        (bits_LeadingZeros64 y).bind fun x =>
        (nn (IntKind.u64.wrap x)).bind fun _ =>
        let yn1 := shrK .u64 (shlK .u64 y (IntKind.u64.wrap x)) 32
        let yn0 := andK .u64 (shlK .u64 y (IntKind.u64.wrap x)) 4294967295
        (nn (IntKind.u64.wrap x)).bind fun _ =>
        (nn (IntKind.u64.wrap (64 - (IntKind.u64.wrap x)))).bind fun _ =>
        let un32 := orK .u64 (shlK .u64 hi (IntKind.u64.wrap x)) (shrK .u64 lo (IntKind.u64.wrap (64 - (IntKind.u64.wrap x))))
        (nn (IntKind.u64.wrap x)).bind fun _ =>
        let un1 := shrK .u64 (shlK .u64 lo (IntKind.u64.wrap x)) 32
        let un0 := andK .u64 (shlK .u64 lo (IntKind.u64.wrap x)) 4294967295
        (nz yn1).bind fun _ =>
        let rhat := IntKind.u64.wrap (un32 - (IntKind.u64.wrap ((IntKind.u64.wrap (Int.tdiv un32 yn1)) * yn1)))
        (loop (bits_Div64_l1 yn1 yn0 un1) (IntKind.u64.wrap (Int.tdiv un32 yn1), rhat)).bind fun q1 =>
        let un21 := IntKind.u64.wrap ((IntKind.u64.wrap ((IntKind.u64.wrap (un32 * 4294967296)) + un1)) - (IntKind.u64.wrap (q1 * (shlK .u64 y (IntKind.u64.wrap x)))))
        (nz yn1).bind fun _ =>
        let rhat1 := IntKind.u64.wrap (un21 - (IntKind.u64.wrap ((IntKind.u64.wrap (Int.tdiv un21 yn1)) * yn1)))
        (loop (bits_Div64_l2 yn1 yn0 un0) (rhat1, IntKind.u64.wrap (Int.tdiv un21 yn1))).bind fun q0 =>
        (nn (IntKind.u64.wrap x)).bind fun _ =>
        let quo := IntKind.u64.wrap ((IntKind.u64.wrap (q1 * 4294967296)) + q0)
        let rem := shrK .u64 (IntKind.u64.wrap ((IntKind.u64.wrap ((IntKind.u64.wrap (un21 * 4294967296)) + un0)) - (IntKind.u64.wrap (q0 * (shlK .u64 y (IntKind.u64.wrap x)))))) (IntKind.u64.wrap x)
        some (quo, rem)
def h87 : Hint := (.s .z (.s .z (.s .z (.s .z (.s .z (.s .z (.s .z (.s .z (.s .z (.s .z (.s .z (.s .z (.s .z (.s .z (.s (.b (.l [(15, .v (.int .u64) []), (16, .v (.int .u64) [])] [15, 16, 78] [(2, [(15, .v (.int .u64) [])])] (.s (.s (.j [] [(0, [(78, .v .bool [])])] .z) .z) .z))) (.s .z (.s .z (.s .z (.s (.b (.l [(16, .v (.int .u64) []), (18, .v (.int .u64) [])] [16, 18, 113] [(4, [(18, .v (.int .u64) [])])] (.s (.s (.j [] [(0, [(113, .v .bool [])])] .z) .z) .z))) .z)))))))))))))))))))
noncomputable def sp87 : Spec fam := ⟨[.v (.int .u64) [], .v (.int .u64) [], .v (.int .u64) []], [.v (.int .u64) [], .v (.int .u64) []], fun a => bits_Div64 a.1 a.2.1 a.2.2.1⟩

def rvec_part (n : Int) (bp : Int) : Option Int :=
  (bits_Mul64 (IntKind.u64.wrap n) (IntKind.u64.wrap bp)).bind fun x =>
  (bits_Div64 x.1 x.2 10000).bind fun x1 =>
  some (w64 x1.1)
def h75 : Hint := .z
noncomputable def sp75 : Spec fam := ⟨[.v (.int .i64) [], .v (.int .i64) []], [.v (.int .i64) []], fun a => rvec_part a.1 a.2.1⟩

def rvec_Scale (a : Vec) (bp : Int) : Option (Vec × Int) :=
  (
    (rvec_vec_good a).bind fun x =>
    bif ! x then
      some true
    else
      bif decide (bp < 0) then
        some true
      else
        some (decide (bp > 1000000))).bind fun q =>
  bif q then
    some ((⟨0, 0⟩ : Vec), 1)
  else
    (rvec_part a.Mem bp).bind fun x1 =>
    (rvec_part a.Cores bp).bind fun x2 =>
    (rvec_over (⟨x1, x2⟩ : Vec)).bind fun x3 =>
    some (x3.1, x3.2)
def h48 : Hint := (.s .z (.s (.s (.j [] [(0, [(16, .v .bool [])])] .z) .z) .z))
noncomputable def sp48 : Spec fam := ⟨[.v (.st 3) [], .v (.int .i64) []], [.v (.st 3) [], .v (.int .i64) []], fun a => rvec_Scale a.1 a.2.1⟩

def share_down_l1 (s : State) (label : Int) (part : (TupT fam [.st 0] → Option Int)) (up : List (List UInt8)) (t : Vec × Vec × Int) : Option ((Vec × Vec × Int) ⊕ (Vec ⊕ (Vec × Vec))) :=
  bif decide (t.2.2 ≥ 0) then
    (inb t.2.2 up.length).bind fun i1 =>
    (up[i1]?).bind fun x2 =>
    (rule_Find s.Conf x2).bind fun x3 =>
    (
      bif ! x3.2 then
        some true
      else
        bif decide (label < 0) then
          some true
        else
          some (decide (label ≥ (x3.1.Caps.length : Int)))).bind fun q =>
    bif q then
      some (.inr (.inl (⟨0, 0⟩ : Vec)))
    else
      (inb label x3.1.Caps.length).bind fun i2 =>
      (x3.1.Caps[i2]?).bind fun x4 =>
      (part (x4, ())).bind fun r =>
      (rvec_Scale t.2.1 r).bind fun x5 =>
      some (.inl (t.1, x5.1, w64 (t.2.2 - 1)))
  else
    some (.inr (.inr (t.1, t.2.1)))

def share_down (s : State) (path : List UInt8) (label : Int) (part : (TupT fam [.st 0] → Option Int)) : Option Vec :=
  (rule_Up path).bind fun up =>
  (rule_Find s.Conf path).bind fun x =>
  bif ! x.2 then
    some (⟨0, 0⟩ : Vec)
  else
    (share_Total s label).bind fun x1 =>
    let i := w64 ((up.length : Int) - 2)
    (loop (share_down_l1 s label part up) ((⟨0, 0⟩ : Vec), x1, i)).bind fun q0 =>
    match q0 with
    | .inl q1 =>
      some q1
    | .inr q2 =>
      some q2.2
def h27 : Hint := (.s .z (.s .z (.s .z (.s .z (.s (.s .z (.b (.l [(8, .box (.st 3) []), (12, .box (.st 3) []), (13, .v (.int .i64) [])] [8, 12, 13, 14, 60] [(1, [(8, .box (.st 3) [])]), (2, [(8, .box (.st 3) []), (12, .box (.st 3) [])])] (.s .z (.s (.b (.s .z (.s (.s (.j [] [(0, [(60, .v .bool [])])] .z) .z) .z))) .z))))) .z)))))
noncomputable def sp27 : Spec fam := ⟨[.v (.st 10) [], .v .str [], .v (.int .i64) [], .fn [.st 0] (.int .i64)], [.v (.st 3) []], fun a => share_down a.1 a.2.1 a.2.2.1 a.2.2.2.1⟩

def share_capacity_least (c : Cap) : Option Int :=
  some c.Least
def h28 : Hint := .z
noncomputable def sp28 : Spec fam := ⟨[.v (.st 0) []], [.v (.int .i64) []], fun a => share_capacity_least a.1⟩

def share_Least (s : State) (path : List UInt8) (label : Int) : Option Vec :=
  (share_down s path label (fun a' => share_capacity_least a'.1)).bind fun x =>
  some x
def h12 : Hint := .z
noncomputable def sp12 : Spec fam := ⟨[.v (.st 10) [], .v .str [], .v (.int .i64) []], [.v (.st 3) []], fun a => share_Least a.1 a.2.1 a.2.2.1⟩

def order_load_ (s : List Load) (f : (TupT fam [.st 12, .st 12] → Option Int)) : Option (List Load) := sortG (F := fam) (.st 12) f s
def h13 : Hint := .z
noncomputable def sp13 : Spec fam := ⟨[.row (.st 12) false, .fn [.st 12, .st 12] (.int .i64)], [], fun a => order_load_ a.1 a.2.1⟩

def cmp_Or_int__l1 (vals : List Int) (t : Int) : Option (Int ⊕ (Int ⊕ Unit)) :=
  bif decide (t < (vals.length : Int)) then
    (idx vals t).bind fun x =>
    bif x != 0 then
      some (.inr (.inl x))
    else
      some (.inl (w64 (t + 1)))
  else
    some (.inr (.inr ()))

def cmp_Or_int_ (vals : List Int) : Option Int :=
  (loop (cmp_Or_int__l1 vals) 0).bind fun q0 =>
  match q0 with
  | .inl q =>
    some q
  | .inr _ =>
    some 0
def h31 : Hint := (.s .z (.s .z (.s (.s .z (.b (.l [(8, .v (.int .i64) [])] [2, 5, 8] [(1, [(2, .v (.int .i64) [])]), (2, [])] .z))) .z)))
noncomputable def sp31 : Spec fam := ⟨[.v (.slice (.int .i64)) []], [.v (.int .i64) []], fun a => cmp_Or_int_ a.1⟩

def rvec_ratio_compare (r : Ratio) (q : Ratio) : Option Int :=
  (
    bif r.of == 0 then
      some (q.of == 0)
    else
      some false).bind fun q1 =>
  bif q1 then
    some 0
  else
    bif r.of == 0 then
      some 1
    else
      bif q.of == 0 then
        some (-1)
      else
        (bits_Mul64 r.n q.of).bind fun x =>
        (bits_Mul64 q.n r.of).bind fun x1 =>
        (
          bif decide (x.1 < x1.1) then
            some true
          else
            bif x.1 == x1.1 then
              some (decide (x.2 < x1.2))
            else
              some false).bind fun q2 =>
        bif q2 then
          some (-1)
        else
          (
            bif x.1 == x1.1 then
              some (x.2 == x1.2)
            else
              some false).bind fun q3 =>
          bif q3 then
            some 0
          else
            some 1
def h61 : Hint := (.s .z (.s (.b (.s (.j [] [(0, [(9, .v .bool [])])] .z) .z)) (.s .z (.s .z (.s (.b (.s (.j [] [(0, [(42, .v .bool [])])] .z) (.c .z (.s (.j [] [(0, [(56, .v .bool [])])] .z) .z)))) .z)))))
noncomputable def sp61 : Spec fam := ⟨[.v (.st 13) [], .v (.st 13) []], [.v (.int .i64) []], fun a => rvec_ratio_compare a.1 a.2.1⟩

def rvec_of (a : Vec) (p : Vec) (get : (TupT fam [.st 3] → Option Int)) : Option Ratio :=
  (get (a, ())).bind fun r =>
  (get (p, ())).bind fun r1 =>
  bif r == 0 then
    some (⟨0, 1⟩ : Ratio)
  else
    some (⟨IntKind.u64.wrap r, IntKind.u64.wrap r1⟩ : Ratio)
def h81 : Hint := .z
noncomputable def sp81 : Spec fam := ⟨[.v (.st 3) [], .v (.st 3) [], .fn [.st 3] (.int .i64)], [.v (.st 13) []], fun a => rvec_of a.1 a.2.1 a.2.2.1⟩

def rvec_vec_mem (v : Vec) : Option Int :=
  some v.Mem
def h82 : Hint := .z
noncomputable def sp82 : Spec fam := ⟨[.v (.st 3) []], [.v (.int .i64) []], fun a => rvec_vec_mem a.1⟩

def rvec_vec_cores (v : Vec) : Option Int :=
  some v.Cores
def h83 : Hint := .z
noncomputable def sp83 : Spec fam := ⟨[.v (.st 3) []], [.v (.int .i64) []], fun a => rvec_vec_cores a.1⟩

def rvec_load (a : Vec) (p : Vec) : Option Ratio :=
  (rvec_of a p (fun a' => rvec_vec_mem a'.1)).bind fun x =>
  (rvec_of a p (fun a' => rvec_vec_cores a'.1)).bind fun x1 =>
  (rvec_ratio_compare x x1).bind fun x2 =>
  bif decide (x2 < 0) then
    some x1
  else
    some x
def h60 : Hint := .z
noncomputable def sp60 : Spec fam := ⟨[.v (.st 3) [], .v (.st 3) []], [.v (.st 13) []], fun a => rvec_load a.1 a.2.1⟩

def rvec_Order (a : Vec) (p : Vec) (b : Vec) (q : Vec) : Option Int :=
  (
    (rvec_vec_good a).bind fun x =>
    bif ! x then
      some true
    else
      (rvec_vec_good p).bind fun x1 =>
      bif ! x1 then
        some true
      else
        (rvec_vec_good b).bind fun x2 =>
        bif ! x2 then
          some true
        else
          (rvec_vec_good q).bind fun x3 =>
          some (! x3)).bind fun q1 =>
  bif q1 then
    some 0
  else
    (rvec_load a p).bind fun x4 =>
    (rvec_load b q).bind fun x5 =>
    (rvec_ratio_compare x4 x5).bind fun x6 =>
    some x6
def h32 : Hint := (.s .z (.s (.s (.j [] [(0, [(26, .v .bool [])])] .z) .z) .z))
noncomputable def sp32 : Spec fam := ⟨[.v (.st 3) [], .v (.st 3) [], .v (.st 3) [], .v (.st 3) []], [.v (.int .i64) []], fun a => rvec_Order a.1 a.2.1 a.2.2.1 a.2.2.2.1⟩

def cmp_isNaN_string_ (x : List UInt8) : Option Bool :=
  some (! (x == x))
def h62 : Hint := .z
noncomputable def sp62 : Spec fam := ⟨[.v .str []], [.v .bool []], fun a => cmp_isNaN_string_ a.1⟩

def cmp_Compare_string_ (x : List UInt8) (y : List UInt8) : Option Int :=
  (cmp_isNaN_string_ x).bind fun xNaN =>
  (cmp_isNaN_string_ y).bind fun yNaN =>
  bif xNaN then
    bif yNaN then
      some 0
    else
      some (-1)
  else
    bif yNaN then
      some 1
    else
      bif Op.bytesLess x y then
        some (-1)
      else
        bif ! (strLe x y) then
          some 1
        else
          some 0
def h33 : Hint := .z
noncomputable def sp33 : Spec fam := ⟨[.v .str [], .v .str []], [.v (.int .i64) []], fun a => cmp_Compare_string_ a.1 a.2.1⟩

def order_load_compare (a : Load) (b : Load) : Option Int :=
  (rvec_Order a.used a.least b.used b.least).bind fun x =>
  (cmp_Compare_string_ a.path b.path).bind fun x1 =>
  (cmp_Or_int_ [x, x1]).bind fun x2 =>
  some x2
def h14 : Hint := .z
noncomputable def sp14 : Spec fam := ⟨[.v (.st 12) [], .v (.st 12) []], [.v (.int .i64) []], fun a => order_load_compare a.1 a.2.1⟩

def order_Kids_l2 (x4 : List Load) (t1 : List (List UInt8) × Int) : Option ((List (List UInt8) × Int) ⊕ List (List UInt8)) :=
  bif decide (t1.2 < (x4.length : Int)) then
    (inb t1.2 x4.length).bind fun i1 =>
    (x4[i1]?).bind fun x5 =>
    (inS t1.2 (t1.1.length : Int) t1.1.length).bind fun p =>
    some (.inl (cpy t1.1 p.1 p.2 [x5.path], w64 (t1.2 + 1)))
  else
    some (.inr t1.1)

def order_Kids_l1 (s : State) (label : Int) (x : List (List UInt8)) (t : List Load × Int) : Option ((List Load × Int) ⊕ List Load) :=
  bif decide (t.2 < (x.length : Int)) then
    (inb t.2 x.length).bind fun i =>
    (x[i]?).bind fun x1 =>
    (qtree_Used s x1 label).bind fun x2 =>
    (share_Least s x1 label).bind fun x3 =>
    (app 48 t.1 [(⟨x1, ⟨x2.Mem, x2.Cores⟩, ⟨x3.Mem, x3.Cores⟩⟩ : Load)]).bind fun l =>
    some (.inl (l, w64 (t.2 + 1)))
  else
    some (.inr t.1)

def order_Kids (s : State) (path : List UInt8) (label : Int) : Option (List (List UInt8)) :=
  (rule_Kids s.Conf path).bind fun x =>
  (loop (order_Kids_l1 s label x) ([], 0)).bind fun l1 =>
  (order_load_ l1 (fun a' => order_load_compare a'.1 a'.2.1)).bind fun x4 =>
  (mkl 16 (x4.length : Int) (x4.length : Int) []).bind fun l2 =>
  (loop (order_Kids_l2 x4) (l2, 0)).bind fun out =>
  some out
def h7 : Hint := (.s .z (.s .z (.s (.s .z (.b (.l [(7, .v (.slice (.st 12)) [0]), (18, .v (.int .i64) [])] [7, 9, 18, 19, 20, 21, 22, 23, 24, 25, 26, 27, 28, 29, 30, 31, 32, 33, 34, 35] [(2, [(7, .v (.slice (.st 12)) [0])])] .z))) (.s .z (.s .z (.s (.s .z (.b (.l [(10, .row .str false), (43, .v (.int .i64) [])] [10, 11, 12, 43] [(4, [(10, .row .str false)])] .z))) .z))))))
noncomputable def sp7 : Spec fam := ⟨[.v (.st 10) [], .v .str [], .v (.int .i64) []], [.v (.slice (.str)) [0]], fun a => order_Kids a.1 a.2.1 a.2.2.1⟩

def order_below_s_l1 (s : State) (label : Int) (deep : Int) (self : State → (List UInt8) → Int → Int → Option (List (List UInt8))) (kids : List (List UInt8)) (t : List (List UInt8) × Int) : Option ((List (List UInt8) × Int) ⊕ List (List UInt8)) :=
  bif decide (t.2 < (kids.length : Int)) then
    (inb t.2 kids.length).bind fun i =>
    (kids[i]?).bind fun x =>
    (self s x label (w64 (deep + 1))).bind fun x1 =>
    (app 16 t.1 x1).bind fun l =>
    some (.inl (l, w64 (t.2 + 1)))
  else
    some (.inr t.1)

def order_below_s (self : State → (List UInt8) → Int → Int → Option (List (List UInt8))) (s : State) (path : List UInt8) (label : Int) (deep : Int) : Option (List (List UInt8)) :=
  (order_Kids s path label).bind fun kids =>
  (
    bif (kids.length : Int) == 0 then
      some true
    else
      some (decide (deep > 4))).bind fun q =>
  bif q then
    some [path]
  else
    (loop (order_below_s_l1 s label deep self kids) ([], 0)).bind fun out =>
    some out

def order_below_r : Nat → State → (List UInt8) → Int → Int → Option (List (List UInt8))
  | 0 => fun _ _ _ _ => none
  | n + 1 => order_below_s (order_below_r n)

def order_below (a0 : State) (a1 : List UInt8) (a2 : Int) (a3 : Int) : Option (List (List UInt8)) := order_below_r 64 a0 a1 a2 a3
def h24 : Hint := (.s .z (.s .z (.s (.s (.j [17, 18, 19, 20, 21, 22, 23] [(0, [(23, .v .bool [])])] .z) .z) (.s .z (.s (.s .z (.b (.l [(10, .v (.slice (.str)) [0]), (28, .v (.int .i64) [])] [10, 12, 28] [(2, [(10, .v (.slice (.str)) [0])])] .z))) .z)))))
noncomputable def sp24 : Spec fam := ⟨[.v (.st 10) [], .v .str [], .v (.int .i64) [], .v (.int .i64) []], [.v (.slice (.str)) [0]], fun a => order_below a.1 a.2.1 a.2.2.1 a.2.2.2.1⟩

noncomputable def sp24_r (n : Nat) : Spec fam := ⟨[.v (.st 10) [], .v .str [], .v (.int .i64) [], .v (.int .i64) []], [.v (.slice (.str)) [0]], fun a => order_below_r n a.1 a.2.1 a.2.2.1 a.2.2.2.1⟩

def order_Leaves (s : State) (label : Int) : Option (List (List UInt8)) :=
  (order_below s ([114, 111, 111, 116] : List UInt8) label 1).bind fun x =>
  some x
def h9 : Hint := .z
noncomputable def sp9 : Spec fam := ⟨[.v (.st 10) [], .v (.int .i64) []], [.v (.slice (.str)) [0]], fun a => order_Leaves a.1 a.2.1⟩

def dispatchlaw12_known : Option Bool :=
  (dispatchref19_New).bind fun x =>
  (order_Leaves x 0).bind fun l =>
  bif (l.length : Int) == 1 then
    (inb 0 l.length).bind fun i =>
    (l[i]?).bind fun x1 =>
    bif x1 == ([114, 111, 111, 116] : List UInt8) then
      (dispatchref19_New).bind fun x2 =>
      (order_Kids x2 ([114, 111, 111, 116] : List UInt8) 0).bind fun x3 =>
      some ((x3.length : Int) == 0)
    else
      some false
  else
    some false
def h4 : Hint := .z
noncomputable def sp4 : Spec fam := ⟨[], [.v .bool []], fun _ => dispatchlaw12_known⟩

def dispatchlaw12_within (at_ : Int) (n : Int) : Option Int :=
  (nz n).bind fun _ =>
  (
    bif decide ((Int.tmod at_ n) < 0) then
      let k := w64 ((Int.tmod at_ n) + n)
      some k
    else
      some (Int.tmod at_ n)).bind fun k1 =>
  some k1
def h6 : Hint := (.s .z (.s .z (.s (.j [5] [(0, [(5, .v (.int .i64) [])])] .z) .z)))
noncomputable def sp6 : Spec fam := ⟨[.v (.int .i64) [], .v (.int .i64) []], [.v (.int .i64) []], fun a => dispatchlaw12_within a.1 a.2.1⟩

def dispatchref6_Name_l1 (s : List UInt8) (i : Int) : Option (Int ⊕ (Bool ⊕ Unit)) :=
  bif decide (i < (s.length : Int)) then
    (idx s i).bind fun ch =>
    (
      bif decide ((ch.toNat : Int) < 97) then
        bif decide ((ch.toNat : Int) < 48) then
          some ((ch.toNat : Int) != 45)
        else
          bif decide ((ch.toNat : Int) > 57) then
            some ((ch.toNat : Int) != 45)
          else
            some false
      else
        bif decide ((ch.toNat : Int) > 122) then
          bif decide ((ch.toNat : Int) < 48) then
            some ((ch.toNat : Int) != 45)
          else
            bif decide ((ch.toNat : Int) > 57) then
              some ((ch.toNat : Int) != 45)
            else
              some false
        else
          some false).bind fun q1 =>
    bif q1 then
      some (.inr (.inl false))
    else
      some (.inl (w64 (i + 1)))
  else
    some (.inr (.inr ()))

def dispatchref6_Name (s : List UInt8) : Option Bool :=
  (
    bif decide ((s.length : Int) < 1) then
      some true
    else
      some (decide ((s.length : Int) > 12))).bind fun q =>
  bif q then
    some false
  else
    (loop (dispatchref6_Name_l1 s) 0).bind fun q0 =>
    match q0 with
    | .inl q2 =>
      some q2
    | .inr _ =>
      some true
def h63 : Hint := (.s .z (.s (.s (.j [] [(0, [(12, .v .bool [])])] .z) .z) (.s (.s .z (.b (.l [(3, .v (.int .i64) [])] [2, 3, 39] [(1, [(2, .v .bool [])]), (2, [])] (.s .z (.s (.b (.s .z (.s (.j [] [(0, [(39, .v .bool [])])] .z) .z))) .z))))) .z)))
noncomputable def sp63 : Spec fam := ⟨[.v .str []], [.v .bool []], fun a => dispatchref6_Name a.1⟩

def dispatchref6_labels_l3 (c : Conf) (i1 : Int) (k : Int) : Option (Int ⊕ (Int ⊕ Unit)) :=
  bif decide (k < i1) then
    (idx c.Labels i1).bind fun x3 =>
    (idx c.Labels k).bind fun x4 =>
    bif x3 == x4 then
      some (.inr (.inl 7))
    else
      some (.inl (w64 (k + 1)))
  else
    some (.inr (.inr ()))

def dispatchref6_labels_l2 (c : Conf) (i1 : Int) : Option (Int ⊕ (Int ⊕ Unit)) :=
  bif decide (i1 < (c.Labels.length : Int)) then
    (loop (dispatchref6_labels_l3 c i1) 1).bind fun q0 =>
    match q0 with
    | .inl q2 =>
      some (.inr (.inl q2))
    | .inr _ =>
      some (.inl (w64 (i1 + 1)))
  else
    some (.inr (.inr ()))

def dispatchref6_labels_l1 (c : Conf) (i : Int) : Option (Int ⊕ (Int ⊕ Unit)) :=
  bif decide (i < (c.Labels.length : Int)) then
    (idx c.Labels i).bind fun x1 =>
    (dispatchref6_Name x1).bind fun x2 =>
    bif ! x2 then
      some (.inr (.inl 12))
    else
      some (.inl (w64 (i + 1)))
  else
    some (.inr (.inr ()))

def dispatchref6_labels (c : Conf) : Option Int :=
  (
    bif decide ((c.Labels.length : Int) < 1) then
      some true
    else
      bif decide ((c.Labels.length : Int) > 3) then
        some true
      else
        some (decide ((c.Queues.length : Int) > 16))).bind fun q =>
  bif q then
    some 4
  else
    (idx c.Labels 0).bind fun x =>
    bif ! (x == ([] : List UInt8)) then
      some 12
    else
      (loop (dispatchref6_labels_l1 c) 1).bind fun q0 =>
      match q0 with
      | .inl q1 =>
        some q1
      | .inr _ =>
        (loop (dispatchref6_labels_l2 c) 1).bind fun q0 =>
        match q0 with
        | .inl q3 =>
          some q3
        | .inr _ =>
          some 0
def h34 : Hint := (.s .z (.s (.s (.j [] [(0, [(21, .v .bool [])])] .z) .z) (.s .z (.s (.s .z (.b (.l [(3, .v (.int .i64) [])] [2, 3] [(1, [(2, .v (.int .i64) [])]), (2, [])] .z))) (.s (.s .z (.b (.l [(4, .v (.int .i64) [])] [2, 4, 5] [(1, [(2, .v (.int .i64) [])]), (4, [])] (.s .z (.s (.b (.s .z (.b (.l [(5, .v (.int .i64) [])] [2, 5] [(1, [(2, .v (.int .i64) [])]), (6, [])] .z)))) .z))))) .z)))))
noncomputable def sp34 : Spec fam := ⟨[.v (.st 2) []], [.v (.int .i64) []], fun a => dispatchref6_labels a.1⟩

def dispatchref6_Find_l1 (c : Conf) (path : List UInt8) (t : Queue × Int) : Option ((Queue × Int) ⊕ ((Queue × Bool) ⊕ Queue)) :=
  bif decide (t.2 < (c.Queues.length : Int)) then
    (idx c.Queues t.2).bind fun x =>
    bif x.Path == path then
      (idx c.Queues t.2).bind fun x1 =>
      (app 16 [] x1.Caps).bind fun l =>
      some (.inr (.inl ((⟨x1.Path, l, x1.User⟩ : Queue), true)))
    else
      some (.inl (t.1, w64 (t.2 + 1)))
  else
    some (.inr (.inr (t.1)))

def dispatchref6_Find (c : Conf) (path : List UInt8) : Option (Queue × Bool) :=
  (loop (dispatchref6_Find_l1 c path) ((⟨[], [], 0⟩ : Queue), 0)).bind fun q0 =>
  match q0 with
  | .inl q =>
    some (q.1, q.2)
  | .inr q1 =>
    some ((⟨[], [], 0⟩ : Queue), false)
def h39 : Hint := (.s .z (.s (.s .z (.b (.l [(4, .box (.st 1) [1]), (6, .v (.int .i64) [])] [4, 5, 6, 7] [(1, [(4, .box (.st 1) [1]), (5, .v .bool [])]), (2, [(4, .box (.st 1) [1])])] .z))) .z))
noncomputable def sp39 : Spec fam := ⟨[.v (.st 2) [], .v .str []], [.v (.st 1) [1], .v .bool []], fun a => dispatchref6_Find a.1 a.2.1⟩

def dispatchref6_isPath_l1 (s : List UInt8) (t : Int × Int × Int) : Option ((Int × Int × Int) ⊕ (Bool ⊕ Int)) :=
  bif decide (t.2.2 ≤ (s.length : Int)) then
    (
      (
        bif decide (t.2.2 < (s.length : Int)) then
          (idx s t.2.2).bind fun ch =>
          some ((ch.toNat : Int) != 46)
        else
          some false).bind fun q =>
      bif q then
        some (.inl (t.1, t.2.1))
      else
        (
          (slc s t.1 t.2.2).bind fun s1 =>
          (dispatchref6_Name s1).bind fun x =>
          bif ! x then
            some true
          else
            bif t.2.1 == 0 then
              (slc s t.1 t.2.2).bind fun s2 =>
              some (! (s2 == ([114, 111, 111, 116] : List UInt8)))
            else
              some false).bind fun q1 =>
        bif q1 then
          some (.inr false)
        else
          some (.inl (w64 (t.2.2 + 1), w64 (t.2.1 + 1))) : Option ((Int × Int) ⊕ Bool)).bind fun q0 =>
    match q0 with
    | .inl q2 =>
      some (.inl (q2.1, q2.2, w64 (t.2.2 + 1)))
    | .inr q3 =>
      some (.inr (.inl q3))
  else
    some (.inr (.inr (t.2.1)))

def dispatchref6_isPath (s : List UInt8) : Option Bool :=
  (loop (dispatchref6_isPath_l1 s) (0, 0, 0)).bind fun q0 =>
  match q0 with
  | .inl q4 =>
    some q4
  | .inr n =>
    some (decide (n ≤ 4))
def h64 : Hint := (.s .z (.s .z (.s (.s .z (.b (.l [(3, .v (.int .i64) []), (4, .v (.int .i64) []), (5, .v (.int .i64) [])] [2, 3, 4, 5, 21, 38] [(1, [(2, .v .bool [])]), (2, [(4, .v (.int .i64) [])])] (.s .z (.s (.j [2, 3, 4, 21, 38] [(0, [(3, .v (.int .i64) []), (4, .v (.int .i64) [])]), (1, [(2, .v .bool [])])] (.b (.s (.s (.j [] [(0, [(21, .v .bool [])])] .z) .z) (.s (.s (.j [] [(0, [(38, .v .bool [])])] .z) .z) .z)))) .z))))) .z)))
noncomputable def sp64 : Spec fam := ⟨[.v .str []], [.v .bool []], fun a => dispatchref6_isPath a.1⟩

def dispatchref6_above_l1 (path : List UInt8) (k1 : Int) : Option (Int ⊕ Int) :=
  (
    bif decide (k1 ≥ 0) then
      (idx path k1).bind fun ch =>
      some ((ch.toNat : Int) != 46)
    else
      some false).bind fun q =>
  bif q then
    some (.inl (w64 (k1 - 1)))
  else
    some (.inr k1)

def dispatchref6_above (path : List UInt8) : Option (List UInt8) :=
  let k := w64 ((path.length : Int) - 1)
  (loop (dispatchref6_above_l1 path) k).bind fun k2 =>
  bif decide (k2 < 0) then
    some ([] : List UInt8)
  else
    (slc path 0 k2).bind fun s =>
    some s
def h65 : Hint := (.s .z (.s .z (.s (.b (.l [(3, .v (.int .i64) [])] [3, 14] [(2, [(3, .v (.int .i64) [])])] (.s (.s (.j [] [(0, [(14, .v .bool [])])] .z) .z) .z))) .z)))
noncomputable def sp65 : Spec fam := ⟨[.v .str []], [.v .str []], fun a => dispatchref6_above a.1⟩

def dispatchref6_queue_l1 (x : Queue) (k : Int) : Option (Int ⊕ (Int ⊕ Unit)) :=
  bif decide (k < (x.Caps.length : Int)) then
    (idx x.Caps k).bind fun x5 =>
    (
      bif decide (x5.Least < 0) then
        some true
      else
        bif decide (x5.Least > 10000) then
          some true
        else
          bif decide (x5.Most < 0) then
            some true
          else
            bif decide (x5.Most > 10000) then
              some true
            else
              some (decide (x5.Least > x5.Most))).bind fun q3 =>
    bif q3 then
      some (.inr (.inl 1))
    else
      some (.inl (w64 (k + 1)))
  else
    some (.inr (.inr ()))

def dispatchref6_queue (c : Conf) (i : Int) : Option Int :=
  (idx c.Queues i).bind fun x =>
  (dispatchref6_isPath x.Path).bind fun x1 =>
  bif ! x1 then
    some 12
  else
    (
      bif decide (i > 0) then
        (idx c.Queues (w64 (i - 1))).bind fun x2 =>
        some (strLe x.Path x2.Path)
      else
        some false).bind fun q =>
    bif q then
      some 7
    else
      (dispatchref6_above x.Path).bind fun x3 =>
      (dispatchref6_Find c x3).bind fun x4 =>
      (
        bif decide (i > 0) then
          some (! x4.2)
        else
          some false).bind fun q1 =>
      bif q1 then
        some 12
      else
        (
          bif decide (x.User < 1) then
            some true
          else
            bif decide (x.User > 1000000) then
              some true
            else
              some ((x.Caps.length : Int) != (c.Labels.length : Int))).bind fun q2 =>
        bif q2 then
          some 1
        else
          (loop (dispatchref6_queue_l1 x) 0).bind fun q0 =>
          match q0 with
          | .inl q4 =>
            some q4
          | .inr _ =>
            some 0
def h35 : Hint := (.s .z (.s .z (.s .z (.s (.s (.j [] [(0, [(32, .v .bool [])])] .z) .z) (.s .z (.s (.s (.j [] [(0, [(46, .v .bool [])])] .z) .z) (.s (.s (.j [] [(0, [(63, .v .bool [])])] .z) .z) (.s (.s .z (.b (.l [(8, .v (.int .i64) [])] [4, 8, 9, 100] [(1, [(4, .v (.int .i64) [])]), (2, [])] (.s .z (.s (.b (.s .z (.s (.j [] [(0, [(100, .v .bool [])])] .z) .z))) .z))))) .z))))))))
noncomputable def sp35 : Spec fam := ⟨[.v (.st 2) [], .v (.int .i64) []], [.v (.int .i64) []], fun a => dispatchref6_queue a.1 a.2.1⟩

def dispatchref6_Kids_l1 (c : Conf) (path : List UInt8) (t : List (List UInt8) × Int) : Option ((List (List UInt8) × Int) ⊕ List (List UInt8)) :=
  bif decide (t.2 < (c.Queues.length : Int)) then
    (
      (
        bif ! (path == ([] : List UInt8)) then
          (idx c.Queues t.2).bind fun x =>
          (dispatchref6_above x.Path).bind fun x1 =>
          some (x1 == path)
        else
          some false).bind fun q =>
      bif q then
        (idx c.Queues t.2).bind fun x2 =>
        (app 16 t.1 [x2.Path]).bind fun l =>
        some l
      else
        some t.1).bind fun l1 =>
    some (.inl (l1, w64 (t.2 + 1)))
  else
    some (.inr t.1)

def dispatchref6_Kids (c : Conf) (path : List UInt8) : Option (List (List UInt8)) :=
  (loop (dispatchref6_Kids_l1 c path) ([], 0)).bind fun l2 =>
  some l2
def h40 : Hint := (.s .z (.s .z (.s (.s .z (.b (.l [(5, .v (.slice (.str)) [0]), (6, .v (.int .i64) [])] [5, 6, 26] [(2, [(5, .v (.slice (.str)) [0])])] (.s .z (.s (.j [5, 26] [(0, [(5, .v (.slice (.str)) [0])])] (.b (.s (.j [] [(0, [(26, .v .bool [])])] .z) .z))) .z))))) .z)))
noncomputable def sp40 : Spec fam := ⟨[.v (.st 2) [], .v .str []], [.v (.slice (.str)) [0]], fun a => dispatchref6_Kids a.1 a.2.1⟩

def dispatchref6_sums_l3 (c : Conf) (kids : List (List UInt8)) (k : Int) (t : Int × Int) : Option ((Int × Int) ⊕ Int) :=
  bif decide (t.2 < (kids.length : Int)) then
    (inb t.2 kids.length).bind fun i1 =>
    (kids[i1]?).bind fun x1 =>
    (dispatchref6_Find c x1).bind fun x2 =>
    (inb k x2.1.Caps.length).bind fun i2 =>
    (x2.1.Caps[i2]?).bind fun x3 =>
    let n := w64 (t.1 + x3.Least)
    some (.inl (n, w64 (t.2 + 1)))
  else
    some (.inr t.1)

def dispatchref6_sums_l2 (c : Conf) (kids : List (List UInt8)) (k : Int) : Option (Int ⊕ (Bool ⊕ Unit)) :=
  (
    bif decide (k < (c.Labels.length : Int)) then
      some (decide ((kids.length : Int) > 0))
    else
      some false).bind fun q =>
  bif q then
    (loop (dispatchref6_sums_l3 c kids k) (0, 0)).bind fun n1 =>
    bif n1 != 10000 then
      some (.inr (.inl false))
    else
      some (.inl (w64 (k + 1)))
  else
    some (.inr (.inr ()))

def dispatchref6_sums_l1 (c : Conf) (i : Int) : Option (Int ⊕ (Bool ⊕ Unit)) :=
  bif decide (i < (c.Queues.length : Int)) then
    (idx c.Queues i).bind fun x =>
    (dispatchref6_Kids c x.Path).bind fun kids =>
    (loop (dispatchref6_sums_l2 c kids) 0).bind fun q0 =>
    match q0 with
    | .inl q1 =>
      some (.inr (.inl q1))
    | .inr _ =>
      some (.inl (w64 (i + 1)))
  else
    some (.inr (.inr ()))

def dispatchref6_sums (c : Conf) : Option Bool :=
  (loop (dispatchref6_sums_l1 c) 0).bind fun q0 =>
  match q0 with
  | .inl q2 =>
    some q2
  | .inr _ =>
    some true
def h36 : Hint := (.s .z (.s (.s .z (.b (.l [(3, .v (.int .i64) [])] [2, 3, 4, 5, 6, 7, 8, 34] [(1, [(2, .v .bool [])]), (2, [])] (.s .z (.s (.b (.s .z (.s .z (.b (.l [(5, .v (.int .i64) [])] [2, 5, 6, 7, 8, 34] [(1, [(2, .v .bool [])]), (4, [])] (.s (.s (.j [] [(0, [(34, .v .bool [])])] .z) .z) (.s (.b (.s .z (.s (.s .z (.b (.l [(6, .v (.int .i64) []), (7, .v (.int .i64) [])] [6, 7, 8] [(6, [(6, .v (.int .i64) [])])] .z))) .z))) .z))))))) .z))))) .z))
noncomputable def sp36 : Spec fam := ⟨[.v (.st 2) []], [.v .bool []], fun a => dispatchref6_sums a.1⟩

def dispatchref6_Check_l2 (c : Conf) (k : Int) : Option (Int ⊕ (Int ⊕ Unit)) :=
  bif decide (k < (c.Labels.length : Int)) then
    (idx c.Queues 0).bind fun x5 =>
    (idx x5.Caps k).bind fun x6 =>
    bif ! ((x6.Least == 10000) && (x6.Most == 10000)) then
      some (.inr (.inl 13))
    else
      some (.inl (w64 (k + 1)))
  else
    some (.inr (.inr ()))

def dispatchref6_Check_l1 (c : Conf) (i : Int) : Option (Int ⊕ (Int ⊕ Unit)) :=
  bif decide (i < (c.Queues.length : Int)) then
    (dispatchref6_queue c i).bind fun x3 =>
    bif x3 != 0 then
      (dispatchref6_queue c i).bind fun x4 =>
      some (.inr (.inl x4))
    else
      some (.inl (w64 (i + 1)))
  else
    some (.inr (.inr ()))

def dispatchref6_Check (c : Conf) : Option Int :=
  (dispatchref6_labels c).bind fun x =>
  bif x != 0 then
    (dispatchref6_labels c).bind fun x1 =>
    some x1
  else
    (
      bif (c.Queues.length : Int) == 0 then
        some true
      else
        (idx c.Queues 0).bind fun x2 =>
        some (! (x2.Path == ([114, 111, 111, 116] : List UInt8)))).bind fun q =>
    bif q then
      some 12
    else
      (loop (dispatchref6_Check_l1 c) 0).bind fun q0 =>
      match q0 with
      | .inl q1 =>
        some q1
      | .inr _ =>
        (loop (dispatchref6_Check_l2 c) 0).bind fun q0 =>
        match q0 with
        | .inl q2 =>
          some q2
        | .inr _ =>
          (dispatchref6_sums c).bind fun x7 =>
          bif ! x7 then
            some 13
          else
            some 0
def h15 : Hint := (.s .z (.s .z (.s (.s (.j [] [(0, [(21, .v .bool [])])] .z) .z) (.s (.s .z (.b (.l [(3, .v (.int .i64) [])] [2, 3] [(1, [(2, .v (.int .i64) [])]), (2, [])] .z))) (.s (.s .z (.b (.l [(4, .v (.int .i64) [])] [2, 4] [(1, [(2, .v (.int .i64) [])]), (4, [])] .z))) .z)))))
noncomputable def sp15 : Spec fam := ⟨[.v (.st 2) []], [.v (.int .i64) []], fun a => dispatchref6_Check a.1⟩

def dispatchref19_vec (v : Vec) : Option Bool :=
  bif decide (v.Mem ≥ 0) then
    bif decide (v.Mem ≤ 1125899906842624) then
      bif decide (v.Cores ≥ 0) then
        some (decide (v.Cores ≤ 1125899906842624))
      else
        some false
    else
      some false
  else
    some false
def h37 : Hint := .z
noncomputable def sp37 : Spec fam := ⟨[.v (.st 3) []], [.v .bool []], fun a => dispatchref19_vec a.1⟩

def dispatchref19_vecs_l5 (s : State) (t3 : Bool × Int) (t4 : Bool × Int) : Option ((Bool × Int) ⊕ Bool) :=
  (idx s.Apps t3.2).bind fun x8 =>
  bif decide (t4.2 < (x8.Asks.length : Int)) then
    (
      bif t4.1 then
        (idx s.Apps t3.2).bind fun x9 =>
        (idx x9.Asks t4.2).bind fun x10 =>
        (dispatchref19_vec x10.Size).bind fun x11 =>
        some x11
      else
        some false).bind fun ok7 =>
    some (.inl (ok7, w64 (t4.2 + 1)))
  else
    some (.inr t4.1)

def dispatchref19_vecs_l4 (s : State) (t3 : Bool × Int) : Option ((Bool × Int) ⊕ Bool) :=
  bif decide (t3.2 < (s.Apps.length : Int)) then
    (
      bif t3.1 then
        (idx s.Apps t3.2).bind fun x6 =>
        (dispatchref19_vec x6.Master).bind fun x7 =>
        some x7
      else
        some false).bind fun ok6 =>
    (loop (dispatchref19_vecs_l5 s t3) (ok6, 0)).bind fun ok8 =>
    some (.inl (ok8, w64 (t3.2 + 1)))
  else
    some (.inr t3.1)

def dispatchref19_vecs_l3 (s : State) (t2 : Bool × Int) : Option ((Bool × Int) ⊕ Bool) :=
  bif decide (t2.2 < (s.Plans.length : Int)) then
    (
      bif t2.1 then
        (idx s.Plans t2.2).bind fun x4 =>
        (dispatchref19_vec x4.Need).bind fun x5 =>
        some x5
      else
        some false).bind fun ok4 =>
    some (.inl (ok4, w64 (t2.2 + 1)))
  else
    some (.inr t2.1)

def dispatchref19_vecs_l2 (s : State) (t1 : Bool × Int) : Option ((Bool × Int) ⊕ Bool) :=
  bif decide (t1.2 < (s.Conts.length : Int)) then
    (
      bif t1.1 then
        (idx s.Conts t1.2).bind fun x2 =>
        (dispatchref19_vec x2.Size).bind fun x3 =>
        some x3
      else
        some false).bind fun ok2 =>
    some (.inl (ok2, w64 (t1.2 + 1)))
  else
    some (.inr t1.1)

def dispatchref19_vecs_l1 (s : State) (t : Bool × Int) : Option ((Bool × Int) ⊕ Bool) :=
  bif decide (t.2 < (s.Nodes.length : Int)) then
    (
      bif t.1 then
        (idx s.Nodes t.2).bind fun x =>
        (dispatchref19_vec x.Cap).bind fun x1 =>
        some x1
      else
        some false).bind fun ok =>
    some (.inl (ok, w64 (t.2 + 1)))
  else
    some (.inr t.1)

def dispatchref19_vecs (s : State) : Option Bool :=
  (loop (dispatchref19_vecs_l1 s) (true, 0)).bind fun ok1 =>
  (loop (dispatchref19_vecs_l2 s) (ok1, 0)).bind fun ok3 =>
  (loop (dispatchref19_vecs_l3 s) (ok3, 0)).bind fun ok5 =>
  (loop (dispatchref19_vecs_l4 s) (ok5, 0)).bind fun ok9 =>
  some ok9
def h16 : Hint := (.s .z (.s .z (.s (.s .z (.b (.l [(3, .v .bool []), (4, .v (.int .i64) [])] [3, 4] [(2, [(3, .v .bool [])])] (.s .z (.s (.j [3] [(0, [(3, .v .bool [])])] .z) .z))))) (.s (.s .z (.b (.l [(3, .v .bool []), (5, .v (.int .i64) [])] [3, 5] [(4, [(3, .v .bool [])])] (.s .z (.s (.j [3] [(0, [(3, .v .bool [])])] .z) .z))))) (.s (.s .z (.b (.l [(3, .v .bool []), (6, .v (.int .i64) [])] [3, 6] [(6, [(3, .v .bool [])])] (.s .z (.s (.j [3] [(0, [(3, .v .bool [])])] .z) .z))))) (.s (.s .z (.b (.l [(3, .v .bool []), (7, .v (.int .i64) [])] [3, 7, 8] [(8, [(3, .v .bool [])])] (.s .z (.s (.b (.s (.j [3] [(0, [(3, .v .bool [])])] .z) (.s .z (.b (.l [(3, .v .bool []), (8, .v (.int .i64) [])] [3, 8] [(10, [(3, .v .bool [])])] (.s .z (.s (.j [3] [(0, [(3, .v .bool [])])] .z) .z))))))) .z))))) .z))))))
noncomputable def sp16 : Spec fam := ⟨[.v (.st 10) []], [.v .bool []], fun a => dispatchref19_vecs a.1⟩

def dispatchref19_orders_l5 (s : State) (t4 : Bool × Int) : Option ((Bool × Int) ⊕ Bool) :=
  bif decide (t4.2 < (s.Plans.length : Int)) then
    (
      bif t4.1 then
        (idx s.Plans (w64 (t4.2 - 1))).bind fun x8 =>
        (idx s.Plans t4.2).bind fun x9 =>
        let ok12 := decide (x8.Id < x9.Id)
        some ok12
      else
        some false).bind fun ok13 =>
    some (.inl (ok13, w64 (t4.2 + 1)))
  else
    some (.inr t4.1)

def dispatchref19_orders_l4 (s : State) (t3 : Bool × Int) : Option ((Bool × Int) ⊕ Bool) :=
  bif decide (t3.2 < (s.Slots.length : Int)) then
    (
      bif t3.1 then
        (idx s.Slots (w64 (t3.2 - 1))).bind fun x6 =>
        (idx s.Slots t3.2).bind fun x7 =>
        let ok9 := decide (x6.Node < x7.Node)
        some ok9
      else
        some false).bind fun ok10 =>
    some (.inl (ok10, w64 (t3.2 + 1)))
  else
    some (.inr t3.1)

def dispatchref19_orders_l3 (s : State) (t2 : Bool × Int) : Option ((Bool × Int) ⊕ Bool) :=
  bif decide (t2.2 < (s.Conts.length : Int)) then
    (
      bif t2.1 then
        (idx s.Conts (w64 (t2.2 - 1))).bind fun x4 =>
        (idx s.Conts t2.2).bind fun x5 =>
        let ok6 := decide (x4.Id < x5.Id)
        some ok6
      else
        some false).bind fun ok7 =>
    some (.inl (ok7, w64 (t2.2 + 1)))
  else
    some (.inr t2.1)

def dispatchref19_orders_l2 (s : State) (t1 : Bool × Int) : Option ((Bool × Int) ⊕ Bool) :=
  bif decide (t1.2 < (s.Apps.length : Int)) then
    (
      bif t1.1 then
        (idx s.Apps (w64 (t1.2 - 1))).bind fun x2 =>
        (idx s.Apps t1.2).bind fun x3 =>
        let ok3 := decide (x2.Id < x3.Id)
        some ok3
      else
        some false).bind fun ok4 =>
    some (.inl (ok4, w64 (t1.2 + 1)))
  else
    some (.inr t1.1)

def dispatchref19_orders_l1 (s : State) (t : Bool × Int) : Option ((Bool × Int) ⊕ Bool) :=
  bif decide (t.2 < (s.Nodes.length : Int)) then
    (
      bif t.1 then
        (idx s.Nodes (w64 (t.2 - 1))).bind fun x =>
        (idx s.Nodes t.2).bind fun x1 =>
        let ok := decide (x.Id < x1.Id)
        some ok
      else
        some false).bind fun ok1 =>
    some (.inl (ok1, w64 (t.2 + 1)))
  else
    some (.inr t.1)

def dispatchref19_orders (s : State) : Option Bool :=
  (
    bif decide ((s.Nodes.length : Int) > 12) then
      some true
    else
      bif decide ((s.Apps.length : Int) > 16) then
        some true
      else
        bif decide ((s.Conts.length : Int) > 200) then
          some true
        else
          some (decide ((s.Plans.length : Int) > 12))).bind fun q =>
  bif q then
    some false
  else
    (loop (dispatchref19_orders_l1 s) (true, 1)).bind fun ok2 =>
    (loop (dispatchref19_orders_l2 s) (ok2, 1)).bind fun ok5 =>
    (loop (dispatchref19_orders_l3 s) (ok5, 1)).bind fun ok8 =>
    (loop (dispatchref19_orders_l4 s) (ok8, 1)).bind fun ok11 =>
    (loop (dispatchref19_orders_l5 s) (ok11, 1)).bind fun ok14 =>
    some ok14
def h17 : Hint := (.s .z (.s (.s (.j [] [(0, [(30, .v .bool [])])] .z) .z) (.s .z (.s (.s .z (.b (.l [(3, .v .bool []), (4, .v (.int .i64) [])] [3, 4] [(2, [(3, .v .bool [])])] (.s .z (.s (.j [3] [(0, [(3, .v .bool [])])] .z) .z))))) (.s (.s .z (.b (.l [(3, .v .bool []), (5, .v (.int .i64) [])] [3, 5] [(4, [(3, .v .bool [])])] (.s .z (.s (.j [3] [(0, [(3, .v .bool [])])] .z) .z))))) (.s (.s .z (.b (.l [(3, .v .bool []), (6, .v (.int .i64) [])] [3, 6] [(6, [(3, .v .bool [])])] (.s .z (.s (.j [3] [(0, [(3, .v .bool [])])] .z) .z))))) (.s (.s .z (.b (.l [(3, .v .bool []), (7, .v (.int .i64) [])] [3, 7] [(8, [(3, .v .bool [])])] (.s .z (.s (.j [3] [(0, [(3, .v .bool [])])] .z) .z))))) (.s (.s .z (.b (.l [(3, .v .bool []), (8, .v (.int .i64) [])] [3, 8] [(10, [(3, .v .bool [])])] (.s .z (.s (.j [3] [(0, [(3, .v .bool [])])] .z) .z))))) .z))))))))
noncomputable def sp17 : Spec fam := ⟨[.v (.st 10) []], [.v .bool []], fun a => dispatchref19_orders a.1⟩

def dispatchref1_Plus (a : Vec) (b : Vec) : Option Vec :=
  some (⟨w64 (a.Mem + b.Mem), w64 (a.Cores + b.Cores)⟩ : Vec)
def h66 : Hint := .z
noncomputable def sp66 : Spec fam := ⟨[.v (.st 3) [], .v (.st 3) []], [.v (.st 3) []], fun a => dispatchref1_Plus a.1 a.2.1⟩

def dispatchref8_Used_l1 (s : State) (id_ : Int) (t : Vec × Int) : Option ((Vec × Int) ⊕ Vec) :=
  bif decide (t.2 < (s.Conts.length : Int)) then
    (
      (idx s.Conts t.2).bind fun x =>
      bif x.Node == id_ then
        (idx s.Conts t.2).bind fun x1 =>
        (dispatchref1_Plus t.1 x1.Size).bind fun x2 =>
        some x2
      else
        some t.1).bind fun v =>
    some (.inl (v, w64 (t.2 + 1)))
  else
    some (.inr t.1)

def dispatchref8_Used (s : State) (id_ : Int) : Option Vec :=
  (loop (dispatchref8_Used_l1 s id_) ((⟨0, 0⟩ : Vec), 0)).bind fun v1 =>
  some v1
def h38 : Hint := (.s .z (.s .z (.s (.s .z (.b (.l [(5, .box (.st 3) []), (6, .v (.int .i64) [])] [5, 6] [(2, [(5, .box (.st 3) [])])] (.s .z (.s (.j [5] [(0, [(5, .box (.st 3) [])])] .z) .z))))) .z)))
noncomputable def sp38 : Spec fam := ⟨[.v (.st 10) [], .v (.int .i64) []], [.v (.st 3) []], fun a => dispatchref8_Used a.1 a.2.1⟩

def dispatchref19_fit_l1 (s : State) (i : Int) : Option (Int ⊕ (Bool ⊕ Unit)) :=
  bif decide (i < (s.Nodes.length : Int)) then
    (idx s.Nodes i).bind fun x =>
    (dispatchref8_Used s x.Id).bind fun x1 =>
    (
      (idx s.Nodes i).bind fun x2 =>
      bif decide (x1.Mem > x2.Cap.Mem) then
        some true
      else
        (idx s.Nodes i).bind fun x3 =>
        some (decide (x1.Cores > x3.Cap.Cores))).bind fun q =>
    bif q then
      some (.inr (.inl false))
    else
      some (.inl (w64 (i + 1)))
  else
    some (.inr (.inr ()))

def dispatchref19_fit (s : State) : Option Bool :=
  (loop (dispatchref19_fit_l1 s) 0).bind fun q0 =>
  match q0 with
  | .inl q1 =>
    some q1
  | .inr _ =>
    some true
def h18 : Hint := (.s .z (.s (.s .z (.b (.l [(3, .v (.int .i64) [])] [2, 3, 4, 41] [(1, [(2, .v .bool [])]), (2, [])] (.s .z (.s (.b (.s .z (.s (.j [] [(0, [(41, .v .bool [])])] .z) .z))) .z))))) .z))
noncomputable def sp18 : Spec fam := ⟨[.v (.st 10) []], [.v .bool []], fun a => dispatchref19_fit a.1⟩

def dispatchref10_Find_l1 (s : State) (id_ : Int) (t : App × Int) : Option ((App × Int) ⊕ ((App × Bool) ⊕ App)) :=
  bif decide (t.2 < (s.Apps.length : Int)) then
    (idx s.Apps t.2).bind fun x =>
    bif x.Id == id_ then
      (idx s.Apps t.2).bind fun x1 =>
      some (.inr (.inl (x1, true)))
    else
      some (.inl (t.1, w64 (t.2 + 1)))
  else
    some (.inr (.inr (t.1)))

def dispatchref10_Find (s : State) (id_ : Int) : Option (App × Bool) :=
  (loop (dispatchref10_Find_l1 s id_) ((⟨0, 0, [], 0, 0, ⟨0, 0⟩, [], 0, 0, [], [], [], []⟩ : App), 0)).bind fun q0 =>
  match q0 with
  | .inl q =>
    some (q.1, q.2)
  | .inr q1 =>
    some ((⟨0, 0, [], 0, 0, ⟨0, 0⟩, [], 0, 0, [], [], [], []⟩ : App), false)
def h19 : Hint := (.s .z (.s (.s .z (.b (.l [(4, .box (.st 6) [7, 10, 11, 12, 13]), (6, .v (.int .i64) [])] [4, 5, 6] [(1, [(4, .box (.st 6) []), (5, .v .bool [])]), (2, [(4, .box (.st 6) [7, 10, 11, 12, 13])])] .z))) .z))
noncomputable def sp19 : Spec fam := ⟨[.v (.st 10) [], .v (.int .i64) []], [.v (.st 6) [], .v .bool []], fun a => dispatchref10_Find a.1 a.2.1⟩

def dispatchref8_Find_l1 (s : State) (id_ : Int) (t : Node × Int) : Option ((Node × Int) ⊕ ((Node × Bool) ⊕ Node)) :=
  bif decide (t.2 < (s.Nodes.length : Int)) then
    (idx s.Nodes t.2).bind fun x =>
    bif x.Id == id_ then
      (idx s.Nodes t.2).bind fun x1 =>
      some (.inr (.inl (x1, true)))
    else
      some (.inl (t.1, w64 (t.2 + 1)))
  else
    some (.inr (.inr (t.1)))

def dispatchref8_Find (s : State) (id_ : Int) : Option (Node × Bool) :=
  (loop (dispatchref8_Find_l1 s id_) ((⟨0, 0, 0, ⟨0, 0⟩, 0, 0, false⟩ : Node), 0)).bind fun q0 =>
  match q0 with
  | .inl q =>
    some (q.1, q.2)
  | .inr q1 =>
    some ((⟨0, 0, 0, ⟨0, 0⟩, 0, 0, false⟩ : Node), false)
def h20 : Hint := (.s .z (.s (.s .z (.b (.l [(4, .box (.st 4) []), (6, .v (.int .i64) [])] [4, 5, 6] [(1, [(4, .box (.st 4) []), (5, .v .bool [])]), (2, [(4, .box (.st 4) [])])] .z))) .z))
noncomputable def sp20 : Spec fam := ⟨[.v (.st 10) [], .v (.int .i64) []], [.v (.st 4) [], .v .bool []], fun a => dispatchref8_Find a.1 a.2.1⟩

def dispatchref10_Live (a : App) : Option Bool :=
  bif a.State == 1 then
    some true
  else
    some (a.State == 2)
def h21 : Hint := .z
noncomputable def sp21 : Spec fam := ⟨[.v (.st 6) []], [.v .bool []], fun a => dispatchref10_Live a.1⟩

def dispatchref19_masters_l1 (s : State) (app_ : Int) (t : Int × Int × Int) : Option ((Int × Int × Int) ⊕ ((Int × Int))) :=
  bif decide (t.2.2 < (s.Conts.length : Int)) then
    (
      (idx s.Conts t.2.2).bind fun x =>
      bif x.App == app_ then
        (idx s.Conts t.2.2).bind fun x1 =>
        bif x1.Master then
          some (w64 (t.1 + 1), w64 (t.2.1 + 1))
        else
          some (t.1, w64 (t.2.1 + 1))
      else
        some (t.1, t.2.1)).bind fun q =>
    some (.inl (q.1, q.2, w64 (t.2.2 + 1)))
  else
    some (.inr (t.1, t.2.1))

def dispatchref19_masters (s : State) (app_ : Int) : Option (Int × Int) :=
  (loop (dispatchref19_masters_l1 s app_) (0, 0, 0)).bind fun q1 =>
  some (q1.1, q1.2)
def h22 : Hint := (.s .z (.s .z (.s (.s .z (.b (.l [(6, .v (.int .i64) []), (7, .v (.int .i64) []), (8, .v (.int .i64) [])] [6, 7, 8] [(2, [(6, .v (.int .i64) []), (7, .v (.int .i64) [])])] (.s .z (.s (.j [6, 7] [(0, [(6, .v (.int .i64) []), (7, .v (.int .i64) [])])] .z) .z))))) .z)))
noncomputable def sp22 : Spec fam := ⟨[.v (.st 10) [], .v (.int .i64) []], [.v (.int .i64) [], .v (.int .i64) []], fun a => dispatchref19_masters a.1 a.2.1⟩

def dispatchref6_Leaf (c : Conf) (path : List UInt8) : Option Bool :=
  (dispatchref6_Find c path).bind fun x =>
  bif x.2 then
    (dispatchref6_Kids c path).bind fun x1 =>
    some ((x1.length : Int) == 0)
  else
    some false
def h23 : Hint := .z
noncomputable def sp23 : Spec fam := ⟨[.v (.st 2) [], .v .str []], [.v .bool []], fun a => dispatchref6_Leaf a.1 a.2.1⟩

def dispatchref19_Sound_l3 (s : State) (i2 : Int) : Option (Int ⊕ (Bool ⊕ Unit)) :=
  bif decide (i2 < (s.Slots.length : Int)) then
    (idx s.Slots i2).bind fun x18 =>
    (dispatchref8_Find s x18.Node).bind fun x19 =>
    (
      bif ! x19.2 then
        some true
      else
        some (! x19.1.Up)).bind fun q5 =>
    bif q5 then
      some (.inr (.inl false))
    else
      some (.inl (w64 (i2 + 1)))
  else
    some (.inr (.inr ()))

def dispatchref19_Sound_l2 (s : State) (i1 : Int) : Option (Int ⊕ (Bool ⊕ Unit)) :=
  bif decide (i1 < (s.Apps.length : Int)) then
    (idx s.Apps i1).bind fun x8 =>
    (dispatchref19_masters s x8.Id).bind fun x9 =>
    (
      bif x8.State == 2 then
        bif x9.1 != 1 then
          some true
        else
          bif x8.State == 1 then
            bif x9.2 != 0 then
              some true
            else
              (dispatchref10_Live x8).bind fun x10 =>
              bif x10 then
                (dispatchref6_Leaf s.Conf x8.Queue).bind fun x11 =>
                some (! x11)
              else
                some false
          else
            (dispatchref10_Live x8).bind fun x12 =>
            bif x12 then
              (dispatchref6_Leaf s.Conf x8.Queue).bind fun x13 =>
              some (! x13)
            else
              some false
      else
        bif x8.State == 1 then
          bif x9.2 != 0 then
            some true
          else
            (dispatchref10_Live x8).bind fun x14 =>
            bif x14 then
              (dispatchref6_Leaf s.Conf x8.Queue).bind fun x15 =>
              some (! x15)
            else
              some false
        else
          (dispatchref10_Live x8).bind fun x16 =>
          bif x16 then
            (dispatchref6_Leaf s.Conf x8.Queue).bind fun x17 =>
            some (! x17)
          else
            some false).bind fun q3 =>
    bif q3 then
      some (.inr (.inl false))
    else
      some (.inl (w64 (i1 + 1)))
  else
    some (.inr (.inr ()))

def dispatchref19_Sound_l1 (s : State) (i : Int) : Option (Int ⊕ (Bool ⊕ Unit)) :=
  bif decide (i < (s.Conts.length : Int)) then
    (idx s.Conts i).bind fun x4 =>
    (dispatchref10_Find s x4.App).bind fun x5 =>
    (dispatchref8_Find s x4.Node).bind fun x6 =>
    (
      bif ! x5.2 then
        some true
      else
        (dispatchref10_Live x5.1).bind fun x7 =>
        bif ! x7 then
          some true
        else
          bif ! x6.2 then
            some true
          else
            bif ! x6.1.Up then
              some true
            else
              bif x6.1.Label != x4.Label then
                some true
              else
                bif decide (x4.Notice < 0) then
                  some true
                else
                  some (decide (x4.Notice > (imax s.Now 1)))).bind fun q1 =>
    bif q1 then
      some (.inr (.inl false))
    else
      some (.inl (w64 (i + 1)))
  else
    some (.inr (.inr ()))

def dispatchref19_Sound (s : State) : Option Bool :=
  (
    (dispatchref6_Check s.Conf).bind fun x =>
    bif x != 0 then
      some true
    else
      (dispatchref19_vecs s).bind fun x1 =>
      bif ! x1 then
        some true
      else
        (dispatchref19_orders s).bind fun x2 =>
        bif ! x2 then
          some true
        else
          (dispatchref19_fit s).bind fun x3 =>
          some (! x3)).bind fun q =>
  bif q then
    some false
  else
    (loop (dispatchref19_Sound_l1 s) 0).bind fun q0 =>
    match q0 with
    | .inl q2 =>
      some q2
    | .inr _ =>
      (loop (dispatchref19_Sound_l2 s) 0).bind fun q0 =>
      match q0 with
      | .inl q4 =>
        some q4
      | .inr _ =>
        (loop (dispatchref19_Sound_l3 s) 0).bind fun q0 =>
        match q0 with
        | .inl q6 =>
          some q6
        | .inr _ =>
          some true
def h8 : Hint := (.s .z (.s (.s (.j [] [(0, [(34, .v .bool [])])] .z) .z) (.s (.s .z (.b (.l [(3, .v (.int .i64) [])] [2, 3, 4, 5, 6, 7, 8, 96] [(1, [(2, .v .bool [])]), (2, [])] (.s .z (.s (.b (.s .z (.s .z (.s .z (.s (.j [] [(0, [(96, .v .bool [])])] .z) .z))))) .z))))) (.s (.s .z (.b (.l [(9, .v (.int .i64) [])] [2, 9, 10, 11, 12, 143] [(1, [(2, .v .bool [])]), (4, [])] (.s .z (.s (.b (.s .z (.s .z (.s (.j [] [(0, [(143, .v .bool [])])] .z) .z)))) .z))))) (.s (.s .z (.b (.l [(13, .v (.int .i64) [])] [2, 13, 14, 168] [(1, [(2, .v .bool [])]), (6, [])] (.s .z (.s (.b (.s .z (.s (.j [] [(0, [(168, .v .bool [])])] .z) .z))) .z))))) .z)))))
noncomputable def sp8 : Spec fam := ⟨[.v (.st 10) []], [.v .bool []], fun a => dispatchref19_Sound a.1⟩

def dispatchlaw12_OrderRatios_l3 (n : Int) (q2 : State × List Int × List Int) (l3 : List (List UInt8)) (k : Int) : Option (Int ⊕ (Bool ⊕ Unit)) :=
  bif decide (k < n) then
    (inb (w64 (k - 1)) l3.length).bind fun i7 =>
    (l3[i7]?).bind fun x14 =>
    (idx x14 5).bind fun ch =>
    (inb k l3.length).bind fun i8 =>
    (l3[i8]?).bind fun x15 =>
    (idx x15 5).bind fun ch1 =>
    let i9 := w64 (IntKind.u8.wrap ((ch.toNat : Int) - 97))
    let j := w64 (IntKind.u8.wrap ((ch1.toNat : Int) - 97))
    (inb i9 4).bind fun i10 =>
    (q2.2.1[i10]?).bind fun x16 =>
    (inb j 4).bind fun i11 =>
    (q2.2.2[i11]?).bind fun x17 =>
    (inb j 4).bind fun i12 =>
    (q2.2.1[i12]?).bind fun x18 =>
    (inb i9 4).bind fun i13 =>
    (q2.2.2[i13]?).bind fun x19 =>
    (
      (
        (inb i9 4).bind fun i14 =>
        (q2.2.1[i14]?).bind fun x20 =>
        bif x20 == 0 then
          some true
        else
          (inb j 4).bind fun i15 =>
          (q2.2.1[i15]?).bind fun x21 =>
          some (x21 == 0)).bind fun q4 =>
      bif q4 then
        (inb i9 4).bind fun i16 =>
        (q2.2.1[i16]?).bind fun x22 =>
        (inb j 4).bind fun i17 =>
        (q2.2.1[i17]?).bind fun x23 =>
        some (imin x22 1, imin x23 1)
      else
        (
          (inb i9 4).bind fun i18 =>
          (q2.2.2[i18]?).bind fun x24 =>
          bif x24 == 0 then
            some true
          else
            (inb j 4).bind fun i19 =>
            (q2.2.2[i19]?).bind fun x25 =>
            some (x25 == 0)).bind fun q5 =>
        bif q5 then
          (inb i9 4).bind fun i20 =>
          (q2.2.2[i20]?).bind fun x26 =>
          (inb j 4).bind fun i21 =>
          (q2.2.2[i21]?).bind fun x27 =>
          let a := w64 (1 - (imin x26 1))
          let b := w64 (1 - (imin x27 1))
          some (a, b)
        else
          some (w64 (x16 * x17), w64 (x18 * x19))).bind fun q6 =>
    (
      bif decide (q6.1 > q6.2) then
        some true
      else
        bif q6.1 == q6.2 then
          some (decide (i9 > j))
        else
          some false).bind fun q7 =>
    bif q7 then
      some (.inr (.inl false))
    else
      some (.inl (w64 (k + 1)))
  else
    some (.inr (.inr ()))

def dispatchlaw12_OrderRatios_l2 (t : State × Int × List Int × List Int × Int × Int) (x8 : Int) (i3 : Nat) (t1 : State × Int × Int) : Option ((State × Int × Int) ⊕ ((State × Int))) :=
  (inb t.2.2.2.2.2 4).bind fun i6 =>
  ((List.set t.2.2.1 i3 x8)[i6]?).bind fun x12 =>
  bif decide (t1.2.2 < x12) then
    (app 72 t1.1.Conts [(⟨w64 (t1.2.1 + 1), t.2.2.2.2.2, 1, ⟨1, 1⟩, 0, 0, t1.2.2 == 0, 0⟩ : Cont)]).bind fun l2 =>
    some (.inl ((⟨⟨t1.1.Conf.Labels, t1.1.Conf.Queues⟩, t1.1.Nodes, t1.1.Apps, l2, t1.1.Slots, t1.1.Plans, t1.1.Now, t1.1.Epoch, t1.1.Seq⟩ : State), w64 (t1.2.1 + 1), w64 (t1.2.2 + 1)))
  else
    some (.inr (t1.1, t1.2.1))

def dispatchlaw12_OrderRatios_l1 (used : List Int) (least : List Int) (n : Int) (t : State × Int × List Int × List Int × Int × Int) : Option ((State × Int × List Int × List Int × Int × Int) ⊕ ((State × List Int × List Int))) :=
  bif decide (t.2.2.2.2.2 < n) then
    (
      (inb t.2.2.2.2.2 4).bind fun i =>
      (t.2.2.2.1[i]?).bind fun x2 =>
      (
        bif decide (t.2.2.2.2.2 < (w64 (n - 1))) then
          (idx least t.2.2.2.2.2).bind fun x3 =>
          (dispatchlaw12_within x3 (w64 ((w64 (Int.tdiv t.2.1 100)) + 1))).bind fun x4 =>
          (inb t.2.2.2.2.2 4).bind fun i1 =>
          ((List.set t.2.2.2.1 i t.2.1)[i1]?).bind fun x5 =>
          some (List.set (List.set t.2.2.2.1 i t.2.1) i1 (w64 (x4 * 100)))
        else
          some (List.set t.2.2.2.1 i t.2.1)).bind fun g =>
      (inb t.2.2.2.2.2 4).bind fun i2 =>
      (g[i2]?).bind fun x6 =>
      (idx used t.2.2.2.2.2).bind fun x7 =>
      (dispatchlaw12_within x7 20).bind fun x8 =>
      (inb t.2.2.2.2.2 4).bind fun i3 =>
      (t.2.2.1[i3]?).bind fun x9 =>
      (cat ([114, 111, 111, 116, 46] : List UInt8) (List.map toB [IntKind.u8.wrap (w64 (97 + t.2.2.2.2.2))])).bind fun s =>
      (inb t.2.2.2.2.2 4).bind fun i4 =>
      (g[i4]?).bind fun x10 =>
      (app 48 t.1.Conf.Queues [(⟨s, [(⟨x10, 10000⟩ : Cap)], 1⟩ : Queue)]).bind fun l =>
      (inb t.2.2.2.2.2 4).bind fun i5 =>
      ((List.set t.2.2.1 i3 x8)[i5]?).bind fun x11 =>
      bif x11 == 0 then
        some ((⟨⟨t.1.Conf.Labels, l⟩, t.1.Nodes, t.1.Apps, t.1.Conts, t.1.Slots, t.1.Plans, t.1.Now, t.1.Epoch, t.1.Seq⟩ : State), w64 (t.2.1 - x6), List.set t.2.2.1 i3 x8, g, t.2.2.2.2.1)
      else
        (app 200 t.1.Apps [(⟨t.2.2.2.2.2, 2, s, 0, 0, ⟨1, 1⟩, [], 0, 0, [], [], [], []⟩ : App)]).bind fun l1 =>
        (loop (dispatchlaw12_OrderRatios_l2 t x8 i3) ((⟨⟨t.1.Conf.Labels, l⟩, t.1.Nodes, l1, t.1.Conts, t.1.Slots, t.1.Plans, t.1.Now, t.1.Epoch, t.1.Seq⟩ : State), t.2.2.2.2.1, 0)).bind fun q =>
        some (q.1, w64 (t.2.1 - x6), List.set t.2.2.1 i3 x8, g, q.2)).bind fun q1 =>
    some (.inl (q1.1, q1.2.1, q1.2.2.1, q1.2.2.2.1, q1.2.2.2.2, w64 (t.2.2.2.2.2 + 1)))
  else
    some (.inr (t.1, t.2.2.1, t.2.2.2.1))

def dispatchlaw12_OrderRatios (used : List Int) (least : List Int) : Option Bool :=
  (dispatchlaw12_known).bind fun x =>
  bif ! x then
    some false
  else
    let n := imin (imin (used.length : Int) (least.length : Int)) 4
    bif decide (n < 2) then
      some true
    else
      (dispatchref19_New).bind fun x1 =>
      (loop (dispatchlaw12_OrderRatios_l1 used least n) ((⟨⟨x1.Conf.Labels, x1.Conf.Queues⟩, [(⟨1, 0, 0, ⟨100, 100⟩, 0, 0, true⟩ : Node)], x1.Apps, x1.Conts, x1.Slots, x1.Plans, x1.Now, x1.Epoch, x1.Seq⟩ : State), 10000, [0, 0, 0, 0], [0, 0, 0, 0], 0, 0)).bind fun q2 =>
      (order_Kids q2.1 ([114, 111, 111, 116] : List UInt8) 0).bind fun l3 =>
      (
        (dispatchref19_Sound q2.1).bind fun x13 =>
        bif ! x13 then
          some true
        else
          some ((l3.length : Int) != n)).bind fun q3 =>
      bif q3 then
        some false
      else
        (loop (dispatchlaw12_OrderRatios_l3 n q2 l3) 1).bind fun q0 =>
        match q0 with
        | .inl q8 =>
          some q8
        | .inr _ =>
          some true
def h3 : Hint := (.s .z (.s .z (.s .z (.s .z (.s .z (.s .z (.s .z (.s .z (.s .z (.s .z (.s (.s .z (.b (.l [(6, .box (.st 10) [0, 1, 2, 3, 4, 5, 6]), (7, .v (.int .i64) []), (9, .row (.int .i64) true), (10, .row (.int .i64) true), (11, .v (.int .i64) []), (12, .v (.int .i64) [])] [6, 7, 9, 10, 11, 12, 13, 14] [(2, [(6, .box (.st 10) [0, 1, 2, 3, 4, 5, 6]), (9, .row (.int .i64) true), (10, .row (.int .i64) true)])] (.s .z (.s (.j [6, 7, 9, 10, 11, 13, 14] [(0, [(6, .box (.st 10) [0, 1, 2, 3, 4, 5, 6]), (7, .v (.int .i64) []), (9, .row (.int .i64) true), (10, .row (.int .i64) true), (11, .v (.int .i64) [])])] (.b (.s .z (.s (.j [10] [(0, [(10, .row (.int .i64) true)])] .z) (.s .z (.s .z (.s .z (.s .z (.s .z (.s .z (.s .z (.b (.l [(6, .box (.st 10) [0, 1, 2, 3, 4, 5, 6]), (11, .v (.int .i64) []), (14, .v (.int .i64) [])] [6, 11, 14] [(4, [(6, .box (.st 10) [0, 1, 2, 3, 4, 5, 6]), (11, .v (.int .i64) [])])] .z))))))))))))) .z))))) (.s .z (.s (.s (.j [] [(0, [(134, .v .bool [])])] .z) .z) (.s (.s .z (.b (.l [(16, .v (.int .i64) [])] [4, 16, 17, 18, 19, 20, 169, 188, 221] [(1, [(4, .v .bool [])]), (6, [])] (.s .z (.s (.b (.s .z (.s .z (.s (.j [19, 20, 169, 188] [(0, [(19, .v (.int .i64) []), (20, .v (.int .i64) [])])] (.b (.s (.j [] [(0, [(169, .v .bool [])])] .z) (.c .z (.s (.j [] [(0, [(188, .v .bool [])])] .z) .z))))) (.s (.j [] [(0, [(221, .v .bool [])])] .z) .z))))) .z))))) .z))))))))))))))
noncomputable def sp3 : Spec fam := ⟨[.v (.slice (.int .i64)) [], .v (.slice (.int .i64)) []], [.v .bool []], fun a => dispatchlaw12_OrderRatios a.1 a.2.1⟩

end
end Go.Fx.D
