/-
  The functions of the program that this law reaches, as functions over plain data (printed by a program). Conditions: none.
-/
import Derived.Test.YteodpoelbdakgaaGreatFxD
import Derived.Test.YteodpoelbdakgaaGreatA
namespace Go.Fx.D
open Go Go.Fx Go.Proofs
set_option linter.unusedVariables false
noncomputable section

def dispatchref19_New : Option State :=
  some (⟨⟨[([] : List UInt8)], [(⟨([114, 111, 111, 116] : List UInt8), [(⟨10000, 10000⟩ : Cap)], 10000⟩ : Queue)]⟩, [], [], [], [], [], 0, 0, 0⟩ : State)
def h37 : Hint := .z
noncomputable def sp37 : Spec fam := ⟨[], [.v (.st 10) [0, 1, 2, 3, 4, 5, 6]], fun _ => dispatchref19_New⟩

def bytealg_LastIndexByteString_l1 (s : List UInt8) (c : Int) (i1 : Int) : Option (Int ⊕ (Int ⊕ Unit)) :=
  bif decide (i1 ≥ 0) then
    (idx s i1).bind fun ch =>
    bif (ch.toNat : Int) == c then
      some (.inr (.inl i1))
    else
      some (.inl (w64 (i1 - 1)))
  else
    some (.inr (.inr ()))

def bytealg_LastIndexByteString (s : List UInt8) (c : Int) : Option Int :=
  let i := w64 ((s.length : Int) - 1)
  (loop (bytealg_LastIndexByteString_l1 s c) i).bind fun q0 =>
  match q0 with
  | .inl q =>
    some q
  | .inr _ =>
    some (-1)
def h328 : Hint := (.s .z (.s (.s .z (.b (.l [(5, .v (.int .i64) [])] [4, 5] [(1, [(4, .v (.int .i64) [])]), (2, [])] .z))) .z))
noncomputable def sp328 : Spec fam := ⟨[.v .str [], .v (.int .u8) []], [.v (.int .i64) []], fun a => bytealg_LastIndexByteString a.1 a.2.1⟩

def bytealg_hashStrRev_string__l2 (t1 : Int × Int × Int) : Option ((Int × Int × Int) ⊕ Int) :=
  bif decide (t1.2.2 > 0) then
    (
      bif (andK .i64 t1.2.2 1) != 0 then
        let pow := IntKind.u32.wrap (t1.1 * t1.2.1)
        some pow
      else
        some t1.1).bind fun pow1 =>
    let sq := IntKind.u32.wrap (t1.2.1 * t1.2.1)
    some (.inl (pow1, sq, shrK .i64 t1.2.2 1))
  else
    some (.inr t1.1)

def bytealg_hashStrRev_string__l1 (sep : List UInt8) (t : Int × Int) : Option ((Int × Int) ⊕ Int) :=
  bif decide (t.2 ≥ 0) then
    (idx sep t.2).bind fun ch =>
    let hash := IntKind.u32.wrap ((IntKind.u32.wrap (t.1 * 16777619)) + (IntKind.u32.wrap (ch.toNat : Int)))
    some (.inl (hash, w64 (t.2 - 1)))
  else
    some (.inr t.1)

def bytealg_hashStrRev_string_ (sep : List UInt8) : Option (Int × Int) :=
  let i := w64 ((sep.length : Int) - 1)
  (loop (bytealg_hashStrRev_string__l1 sep) (0, i)).bind fun hash1 =>
  (loop bytealg_hashStrRev_string__l2 (1, 16777619, (sep.length : Int))).bind fun pow2 =>
  some (hash1, pow2)
def h361 : Hint := (.s .z (.s .z (.s (.s .z (.b (.l [(4, .v (.int .u32) []), (5, .v (.int .i64) [])] [4, 5] [(2, [(4, .v (.int .u32) [])])] .z))) (.s .z (.s (.s .z (.b (.l [(6, .v (.int .u32) []), (7, .v (.int .u32) []), (8, .v (.int .i64) [])] [6, 7, 8] [(4, [(6, .v (.int .u32) [])])] (.s .z (.s (.b (.s (.j [6] [(0, [(6, .v (.int .u32) [])])] .z) .z)) .z))))) .z)))))
noncomputable def sp361 : Spec fam := ⟨[.v .str []], [.v (.int .u32) [], .v (.int .u32) []], fun a => bytealg_hashStrRev_string_ a.1⟩

def bytealg_LastIndexRabinKarp_string__l2 (s : List UInt8) (sep : List UInt8) (x : Int × Int) (t1 : Int × Int) : Option ((Int × Int) ⊕ (Int ⊕ Unit)) :=
  bif decide (t1.2 ≥ 0) then
    (idx s t1.2).bind fun ch1 =>
    let h2 := IntKind.u32.wrap ((IntKind.u32.wrap (t1.1 * 16777619)) + (IntKind.u32.wrap (ch1.toNat : Int)))
    (idx s (w64 (t1.2 + (sep.length : Int)))).bind fun ch2 =>
    let h3 := IntKind.u32.wrap (h2 - (IntKind.u32.wrap (x.2 * (IntKind.u32.wrap (ch2.toNat : Int)))))
    (
      bif h3 == x.1 then
        (slc s t1.2 (w64 (t1.2 + (sep.length : Int)))).bind fun s2 =>
        some (s2 == sep)
      else
        some false).bind fun q1 =>
    bif q1 then
      some (.inr (.inl (t1.2)))
    else
      some (.inl (h3, w64 (t1.2 - 1)))
  else
    some (.inr (.inr ()))

def bytealg_LastIndexRabinKarp_string__l1 (s : List UInt8) (last : Int) (t : Int × Int) : Option ((Int × Int) ⊕ Int) :=
  bif decide (t.2 ≥ last) then
    (idx s t.2).bind fun ch =>
    let h := IntKind.u32.wrap ((IntKind.u32.wrap (t.1 * 16777619)) + (IntKind.u32.wrap (ch.toNat : Int)))
    some (.inl (h, w64 (t.2 - 1)))
  else
    some (.inr t.1)

def bytealg_LastIndexRabinKarp_string_ (s : List UInt8) (sep : List UInt8) : Option Int :=
  (bytealg_hashStrRev_string_ sep).bind fun x =>
  let last := w64 ((s.length : Int) - (sep.length : Int))
  let i := w64 ((s.length : Int) - 1)
  (loop (bytealg_LastIndexRabinKarp_string__l1 s last) (0, i)).bind fun h1 =>
  (
    bif h1 == x.1 then
      (slc s last (s.length : Int)).bind fun s1 =>
      some (s1 == sep)
    else
      some false).bind fun q =>
  bif q then
    some last
  else
    (loop (bytealg_LastIndexRabinKarp_string__l2 s sep x) (h1, w64 (last - 1))).bind fun q0 =>
    match q0 with
    | .inl q2 =>
      some q2
    | .inr _ =>
      some (-1)
def h329 : Hint := (.s .z (.s .z (.s .z (.s .z (.s .z (.s (.s .z (.b (.l [(9, .v (.int .u32) []), (10, .v (.int .i64) [])] [9, 10] [(2, [(9, .v (.int .u32) [])])] .z))) (.s (.s (.j [] [(0, [(47, .v .bool [])])] .z) .z) (.s (.s .z (.b (.l [(9, .v (.int .u32) []), (11, .v (.int .i64) [])] [4, 9, 11, 85] [(1, [(4, .v (.int .i64) [])]), (4, [])] (.s .z (.s (.b (.s .z (.s .z (.s .z (.s (.j [] [(0, [(85, .v .bool [])])] .z) .z))))) .z))))) .z))))))))
noncomputable def sp329 : Spec fam := ⟨[.v .str [], .v .str []], [.v (.int .i64) []], fun a => bytealg_LastIndexRabinKarp_string_ a.1 a.2.1⟩

def strings_LastIndex (s : List UInt8) (substr : List UInt8) : Option Int :=
  bif (substr.length : Int) == 0 then
    some (s.length : Int)
  else
    bif (substr.length : Int) == 1 then
      (idx substr 0).bind fun ch =>
      (bytealg_LastIndexByteString s (ch.toNat : Int)).bind fun x =>
      some x
    else
      bif (substr.length : Int) == (s.length : Int) then
        bif substr == s then
          some 0
        else
          some (-1)
      else
        bif decide ((substr.length : Int) > (s.length : Int)) then
          some (-1)
        else
          (bytealg_LastIndexRabinKarp_string_ s substr).bind fun x1 =>
          some x1
def h275 : Hint := .z
noncomputable def sp275 : Spec fam := ⟨[.v .str [], .v .str []], [.v (.int .i64) []], fun a => strings_LastIndex a.1 a.2.1⟩

def rule_above (path : List UInt8) : Option (List UInt8 × Bool) :=
  (strings_LastIndex path ([46] : List UInt8)).bind fun i =>
  bif decide (i < 0) then
    some (([] : List UInt8), false)
  else
    (slc path 0 i).bind fun s =>
    some (s, true)
def h201 : Hint := .z
noncomputable def sp201 : Spec fam := ⟨[.v .str []], [.v .str [], .v .bool []], fun a => rule_above a.1⟩

def rule_Kids_l1 (c : Conf) (path : List UInt8) (t : List (List UInt8) × Int) : Option ((List (List UInt8) × Int) ⊕ List (List UInt8)) :=
  bif decide (t.2 < (c.Queues.length : Int)) then
    (
      (idx c.Queues t.2).bind fun x =>
      (rule_above x.Path).bind fun x1 =>
      (
        bif x1.2 then
          some (x1.1 == path)
        else
          some false).bind fun q =>
      bif q then
        (app 16 t.1 [x.Path]).bind fun l =>
        some l
      else
        some t.1).bind fun out =>
    some (.inl (out, w64 (t.2 + 1)))
  else
    some (.inr t.1)

def rule_Kids (c : Conf) (path : List UInt8) : Option (List (List UInt8)) :=
  (loop (rule_Kids_l1 c path) ([], 0)).bind fun out1 =>
  some out1
def h120 : Hint := (.s .z (.s .z (.s (.s .z (.b (.l [(5, .v (.slice (.str)) [0]), (13, .v (.int .i64) [])] [5, 7, 8, 9, 13, 28] [(2, [(5, .v (.slice (.str)) [0])])] (.s .z (.s .z (.s (.j [5, 7, 8, 9, 28] [(0, [(5, .v (.slice (.str)) [0])])] (.b (.s .z (.s .z (.s (.j [] [(0, [(28, .v .bool [])])] .z) .z))))) .z)))))) .z)))
noncomputable def sp120 : Spec fam := ⟨[.v (.st 3) [], .v .str []], [.v (.slice (.str)) [0]], fun a => rule_Kids a.1 a.2.1⟩

def rvec_vec_good (v : Vec) : Option Bool :=
  bif decide (v.Mem ≥ 0) then
    bif decide (v.Mem ≤ 1125899906842624) then
      bif decide (v.Cores ≥ 0) then
        some (decide (v.Cores ≤ 1125899906842624))
      else
        some false
    else
      some false
  else
    some false
def h289 : Hint := .z
noncomputable def sp289 : Spec fam := ⟨[.v (.st 0) []], [.v .bool []], fun a => rvec_vec_good a.1⟩

def rvec_over (v : Vec) : Option (Vec × Int) :=
  (rvec_vec_good v).bind fun x =>
  bif ! x then
    some ((⟨0, 0⟩ : Vec), 11)
  else
    some (v, 0)
def h315 : Hint := .z
noncomputable def sp315 : Spec fam := ⟨[.v (.st 0) []], [.v (.st 0) [], .v (.int .i64) []], fun a => rvec_over a.1⟩

def rvec_Add (a : Vec) (b : Vec) : Option (Vec × Int) :=
  (
    (rvec_vec_good a).bind fun x =>
    bif ! x then
      some true
    else
      (rvec_vec_good b).bind fun x1 =>
      some (! x1)).bind fun q =>
  bif q then
    some ((⟨0, 0⟩ : Vec), 1)
  else
    (rvec_over (⟨w64 (a.Mem + b.Mem), w64 (a.Cores + b.Cores)⟩ : Vec)).bind fun x2 =>
    some (x2.1, x2.2)
def h256 : Hint := (.s .z (.s (.s (.j [] [(0, [(13, .v .bool [])])] .z) .z) .z))
noncomputable def sp256 : Spec fam := ⟨[.v (.st 0) [], .v (.st 0) []], [.v (.st 0) [], .v (.int .i64) []], fun a => rvec_Add a.1 a.2.1⟩

def qtree_view_owner_l1 (v : View) (c : Cont) (t : App × Int) : Option ((App × Int) ⊕ ((App × Bool) ⊕ App)) :=
  bif decide (t.2 < (v.s.Apps.length : Int)) then
    (idx v.s.Apps t.2).bind fun x =>
    bif x.Id == c.App then
      some (.inr (.inl (x, true)))
    else
      some (.inl (t.1, w64 (t.2 + 1)))
  else
    some (.inr (.inr (t.1)))

def qtree_view_owner (v : View) (c : Cont) : Option (App × Bool) :=
  (loop (qtree_view_owner_l1 v c) ((⟨0, 0, [], 0, 0, ⟨0, 0⟩, [], 0, 0, [], [], [], []⟩ : App), 0)).bind fun q0 =>
  match q0 with
  | .inl q =>
    some (q.1, q.2)
  | .inr q1 =>
    some ((⟨0, 0, [], 0, 0, ⟨0, 0⟩, [], 0, 0, [], [], [], []⟩ : App), false)
def h276 : Hint := (.s .z (.s (.s .z (.b (.l [(4, .box (.st 6) [7, 10, 11, 12, 13]), (12, .v (.int .i64) [])] [4, 5, 7, 12] [(1, [(4, .box (.st 6) []), (5, .v .bool [])]), (2, [(4, .box (.st 6) [7, 10, 11, 12, 13])])] .z))) .z))
noncomputable def sp276 : Spec fam := ⟨[.v (.st 17) [], .v (.st 7) []], [.v (.st 6) [], .v .bool []], fun a => qtree_view_owner a.1 a.2.1⟩

def stringslite_HasPrefix (s : List UInt8) (prefix_ : List UInt8) : Option Bool :=
  bif decide ((s.length : Int) ≥ (prefix_.length : Int)) then
    (slc s 0 (prefix_.length : Int)).bind fun s1 =>
    some (s1 == prefix_)
  else
    some false
def h362 : Hint := .z
noncomputable def sp362 : Spec fam := ⟨[.v .str [], .v .str []], [.v .bool []], fun a => stringslite_HasPrefix a.1 a.2.1⟩

def strings_HasPrefix (s : List UInt8) (prefix_ : List UInt8) : Option Bool :=
  (stringslite_HasPrefix s prefix_).bind fun x =>
  some x
def h330 : Hint := .z
noncomputable def sp330 : Spec fam := ⟨[.v .str [], .v .str []], [.v .bool []], fun a => strings_HasPrefix a.1 a.2.1⟩

def qtree_view_has (v : View) (a : App) : Option Bool :=
  (
    bif a.Queue == v.path then
      some true
    else
      (cat v.path ([46] : List UInt8)).bind fun s =>
      (strings_HasPrefix a.Queue s).bind fun x =>
      some x).bind fun below =>
  bif below then
    bif v.user == (-1) then
      some true
    else
      some (a.User == v.user)
  else
    some false
def h277 : Hint := (.s .z (.s (.j [] [(0, [(5, .v .bool [])])] .z) .z))
noncomputable def sp277 : Spec fam := ⟨[.v (.st 17) [], .v (.st 6) []], [.v .bool []], fun a => qtree_view_has a.1 a.2.1⟩

def qtree_view_used_l1 (v : View) (t : Vec × Int) : Option ((Vec × Int) ⊕ Vec) :=
  bif decide (t.2 < (v.s.Conts.length : Int)) then
    (
      (idx v.s.Conts t.2).bind fun x =>
      (qtree_view_owner v x).bind fun x1 =>
      (
        bif x1.2 then
          bif x.Label == v.label then
            (qtree_view_has v x1.1).bind fun x2 =>
            some x2
          else
            some false
        else
          some false).bind fun q =>
      bif q then
        (rvec_Add t.1 x.Size).bind fun x3 =>
        some x3.1
      else
        some t.1).bind fun out =>
    some (.inl (out, w64 (t.2 + 1)))
  else
    some (.inr t.1)

def qtree_view_used (v : View) : Option Vec :=
  (loop (qtree_view_used_l1 v) ((⟨0, 0⟩ : Vec), 0)).bind fun out1 =>
  some out1
def h202 : Hint := (.s .z (.s .z (.s .z (.s (.s .z (.b (.l [(3, .box (.st 0) []), (15, .v (.int .i64) [])] [3, 6, 7, 8, 15, 37] [(2, [(3, .box (.st 0) [])])] (.s .z (.s .z (.s (.j [3, 6, 7, 8, 37] [(0, [(3, .box (.st 0) [])])] (.b (.s .z (.s .z (.s (.j [] [(0, [(37, .v .bool [])])] .z) .z))))) .z)))))) .z))))
noncomputable def sp202 : Spec fam := ⟨[.v (.st 17) []], [.v (.st 0) []], fun a => qtree_view_used a.1⟩

def qtree_Used (s : State) (path : List UInt8) (label : Int) : Option Vec :=
  (qtree_view_used (⟨⟨⟨s.Conf.Labels, s.Conf.Queues⟩, s.Nodes, s.Apps, s.Conts, s.Slots, s.Plans, s.Now, s.Epoch, s.Seq⟩, path, label, (-1)⟩ : View)).bind fun x =>
  some x
def h121 : Hint := .z
noncomputable def sp121 : Spec fam := ⟨[.v (.st 10) [], .v .str [], .v (.int .i64) []], [.v (.st 0) []], fun a => qtree_Used a.1 a.2.1 a.2.2.1⟩

def share_sum_l1 (l : List Vec) (t : Vec × Int) : Option ((Vec × Int) ⊕ Vec) :=
  bif decide (t.2 < (l.length : Int)) then
    (idx l t.2).bind fun x =>
    (rvec_Add t.1 x).bind fun x1 =>
    some (.inl (x1.1, w64 (t.2 + 1)))
  else
    some (.inr t.1)

def share_sum (l : List Vec) : Option Vec :=
  (loop (share_sum_l1 l) ((⟨0, 0⟩ : Vec), 0)).bind fun out =>
  some out
def h224 : Hint := (.s .z (.s .z (.s (.s .z (.b (.l [(3, .box (.st 0) []), (8, .v (.int .i64) [])] [3, 5, 8] [(2, [(3, .box (.st 0) [])])] .z))) .z)))
noncomputable def sp224 : Spec fam := ⟨[.v (.slice (.st 0)) []], [.v (.st 0) []], fun a => share_sum a.1⟩

def share_Total_l1 (s : State) (label : Int) (t : List Vec × Int) : Option ((List Vec × Int) ⊕ List Vec) :=
  bif decide (t.2 < (s.Nodes.length : Int)) then
    (
      (idx s.Nodes t.2).bind fun x =>
      (
        bif x.Up then
          some (x.Label == label)
        else
          some false).bind fun q =>
      bif q then
        (app 16 t.1 [x.Cap]).bind fun l =>
        some l
      else
        some t.1).bind fun l1 =>
    some (.inl (l1, w64 (t.2 + 1)))
  else
    some (.inr t.1)

def share_Total (s : State) (label : Int) : Option Vec :=
  (loop (share_Total_l1 s label) ([], 0)).bind fun l2 =>
  (share_sum l2).bind fun x1 =>
  some x1
def h145 : Hint := (.s .z (.s .z (.s (.s .z (.b (.l [(5, .v (.slice (.st 0)) [0]), (11, .v (.int .i64) [])] [5, 7, 11, 22] [(2, [(5, .v (.slice (.st 0)) [0])])] (.s .z (.s .z (.s (.j [5, 7, 22] [(0, [(5, .v (.slice (.st 0)) [0])])] (.b (.s .z (.s (.j [] [(0, [(22, .v .bool [])])] .z) .z)))) .z)))))) .z)))
noncomputable def sp145 : Spec fam := ⟨[.v (.st 10) [], .v (.int .i64) []], [.v (.st 0) []], fun a => share_Total a.1 a.2.1⟩

def rule_Up_l1 (t : List UInt8 × List (List UInt8)) : Option ((List UInt8 × List (List UInt8)) ⊕ List (List UInt8)) :=
  bif ! (t.1 == ([] : List UInt8)) then
    (app 16 t.2 [t.1]).bind fun l =>
    (rule_above t.1).bind fun x =>
    some (.inl (x.1, l))
  else
    some (.inr t.2)

def rule_Up (path : List UInt8) : Option (List (List UInt8)) :=
  (loop rule_Up_l1 (path, [])).bind fun out =>
  some out
def h278 : Hint := (.s .z (.s .z (.s (.b (.l [(0, .v .str []), (3, .v (.slice (.str)) [0])] [0, 3] [(2, [(3, .v (.slice (.str)) [0])])] .z)) .z)))
noncomputable def sp278 : Spec fam := ⟨[.v .str []], [.v (.slice (.str)) [0]], fun a => rule_Up a.1⟩

def api_Cap__ne (s : List Cap) : Option (List Cap) :=
  bif s.isEmpty then
    none
  else
    (app 16 [] s).bind fun l =>
    some l

def api_Cap_ (s : List Cap) : Option (List Cap) := app 16 [] s
def h229 : Hint := .z
noncomputable def sp229 : Spec fam := ⟨[.v (.slice (.st 1)) []], [.v (.slice (.st 1)) [0]], fun a => api_Cap_ a.1⟩

noncomputable def sp229_ne : Spec fam := ⟨[.v (.slice (.st 1)) []], [.v (.slice (.st 1)) [0]], fun a => api_Cap__ne a.1⟩

def api_Queue__l1 (s : List Queue) (f : (TupT fam [.st 2] → Option Bool)) (t : Int) : Option (Int ⊕ (Int ⊕ Unit)) :=
  bif decide (t < (s.length : Int)) then
    (idx s t).bind fun x =>
    (f (x, ())).bind fun r =>
    bif r then
      some (.inr (.inl t))
    else
      some (.inl (w64 (t + 1)))
  else
    some (.inr (.inr ()))

def api_Queue_ (s : List Queue) (f : (TupT fam [.st 2] → Option Bool)) : Option Int :=
  (loop (api_Queue__l1 s f) 0).bind fun q0 =>
  match q0 with
  | .inl q =>
    some q
  | .inr _ =>
    some (-1)
def h331 : Hint := (.s .z (.s (.s .z (.b (.l [(8, .v (.int .i64) [])] [4, 5, 8] [(1, [(4, .v (.int .i64) [])]), (2, [])] .z))) .z))
noncomputable def sp331 : Spec fam := ⟨[.v (.slice (.st 2)) [], .fn [.st 2] .bool], [.v (.int .i64) []], fun a => api_Queue_ a.1 a.2.1⟩

def rule_Find_1 (q : Queue) (p : List UInt8) : Option Bool :=
  some (q.Path == p)
def h332 : Hint := .z
noncomputable def sp332 : Spec fam := ⟨[.v (.st 2) [], .rp .str], [.v .bool []], fun a => rule_Find_1 a.1 a.2.1⟩

def rule_Find (c : Conf) (path : List UInt8) : Option (Queue × Bool) :=
  (api_Queue_ c.Queues (fun a' => rule_Find_1 a'.1 path)).bind fun i =>
  bif decide (i < 0) then
    some ((⟨[], [], 0⟩ : Queue), false)
  else
    (idx c.Queues i).bind fun x =>
    (api_Cap_ x.Caps).bind fun x1 =>
    some ((⟨x.Path, x1, x.User⟩ : Queue), true)
def h279 : Hint := .z
noncomputable def sp279 : Spec fam := ⟨[.v (.st 3) [], .v .str []], [.v (.st 2) [1], .v .bool []], fun a => rule_Find a.1 a.2.1⟩

def bits_Mul64 (x : Int) (y : Int) : Option (Int × Int) :=
  let w0 := IntKind.u64.wrap ((andK .u64 x 4294967295) * (andK .u64 y 4294967295))
  let t := IntKind.u64.wrap ((IntKind.u64.wrap ((shrK .u64 x 32) * (andK .u64 y 4294967295))) + (shrK .u64 w0 32))
  let w1 := IntKind.u64.wrap ((andK .u64 t 4294967295) + (IntKind.u64.wrap ((andK .u64 x 4294967295) * (shrK .u64 y 32))))
  let hi := IntKind.u64.wrap ((IntKind.u64.wrap ((IntKind.u64.wrap ((shrK .u64 x 32) * (shrK .u64 y 32))) + (shrK .u64 t 32))) + (shrK .u64 w1 32))
  some (hi, IntKind.u64.wrap (x * y))
def h340 : Hint := .z
noncomputable def sp340 : Spec fam := ⟨[.v (.int .u64) [], .v (.int .u64) []], [.v (.int .u64) [], .v (.int .u64) []], fun a => bits_Mul64 a.1 a.2.1⟩

def bits_Len64 (x : Int) : Option Int :=
  (
    bif decide (x ≥ 4294967296) then
      some (shrK .u64 x 32, 32)
    else
      some (x, 0)).bind fun q =>
  (
    bif decide (q.1 ≥ 65536) then
      some (shrK .u64 q.1 16, w64 (q.2 + 16))
    else
      some (q.1, q.2)).bind fun q1 =>
  (
    bif decide (q1.1 ≥ 256) then
      some (shrK .u64 q1.1 8, w64 (q1.2 + 8))
    else
      some (q1.1, q1.2)).bind fun q2 =>
  (idx ([0, 1, 2, 2, 3, 3, 3, 3, 4, 4, 4, 4, 4, 4, 4, 4, 5, 5, 5, 5, 5, 5, 5, 5, 5, 5, 5, 5, 5, 5, 5, 5, 6, 6, 6, 6, 6, 6, 6, 6, 6, 6, 6, 6, 6, 6, 6, 6, 6, 6, 6, 6, 6, 6, 6, 6, 6, 6, 6, 6, 6, 6, 6, 6, 7, 7, 7, 7, 7, 7, 7, 7, 7, 7, 7, 7, 7, 7, 7, 7, 7, 7, 7, 7, 7, 7, 7, 7, 7, 7, 7, 7, 7, 7, 7, 7, 7, 7, 7, 7, 7, 7, 7, 7, 7, 7, 7, 7, 7, 7, 7, 7, 7, 7, 7, 7, 7, 7, 7, 7, 7, 7, 7, 7, 7, 7, 7, 7, 8, 8, 8, 8, 8, 8, 8, 8, 8, 8, 8, 8, 8, 8, 8, 8, 8, 8, 8, 8, 8, 8, 8, 8, 8, 8, 8, 8, 8, 8, 8, 8, 8, 8, 8, 8, 8, 8, 8, 8, 8, 8, 8, 8, 8, 8, 8, 8, 8, 8, 8, 8, 8, 8, 8, 8, 8, 8, 8, 8, 8, 8, 8, 8, 8, 8, 8, 8, 8, 8, 8, 8, 8, 8, 8, 8, 8, 8, 8, 8, 8, 8, 8, 8, 8, 8, 8, 8, 8, 8, 8, 8, 8, 8, 8, 8, 8, 8, 8, 8, 8, 8, 8, 8, 8, 8, 8, 8, 8, 8, 8, 8, 8, 8, 8, 8, 8, 8, 8, 8, 8, 8, 8, 8, 8, 8, 8, 8] : List UInt8) (IntKind.u8.wrap q2.1)).bind fun ch =>
  let n := w64 (q2.2 + (w64 (ch.toNat : Int)))
  some n
def h251 : Hint := (.s .z (.s (.j [0, 2] [(0, [(0, .v (.int .u64) []), (2, .v (.int .i64) [])])] .z) (.s (.j [0, 2] [(0, [(0, .v (.int .u64) []), (2, .v (.int .i64) [])])] .z) (.s (.j [0, 2] [(0, [(0, .v (.int .u64) []), (2, .v (.int .i64) [])])] .z) .z))))
noncomputable def sp251 : Spec fam := ⟨[.v (.int .u64) []], [.v (.int .i64) []], fun a => bits_Len64 a.1⟩

def bits_LeadingZeros64 (x : Int) : Option Int :=
  (bits_Len64 x).bind fun x1 =>
  some (w64 (64 - x1))
def h373 : Hint := .z
noncomputable def sp373 : Spec fam := ⟨[.v (.int .u64) []], [.v (.int .i64) []], fun a => bits_LeadingZeros64 a.1⟩

def bits_Div64_l2 (yn1 : Int) (yn0 : Int) (un0 : Int) (t1 : Int × Int) : Option ((Int × Int) ⊕ Int) :=
  (
    bif decide (t1.2 ≥ 4294967296) then
      some true
    else
      some (decide ((IntKind.u64.wrap (t1.2 * yn0)) > (IntKind.u64.wrap ((IntKind.u64.wrap (4294967296 * t1.1)) + un0))))).bind fun q2 =>
  bif q2 then
    bif decide ((IntKind.u64.wrap (t1.1 + yn1)) ≥ 4294967296) then
      some (.inr (IntKind.u64.wrap (t1.2 - 1)))
    else
      some (.inl (IntKind.u64.wrap (t1.1 + yn1), IntKind.u64.wrap (t1.2 - 1)))
  else
    some (.inr t1.2)

def bits_Div64_l1 (yn1 : Int) (yn0 : Int) (un1 : Int) (t : Int × Int) : Option ((Int × Int) ⊕ Int) :=
  (
    bif decide (t.1 ≥ 4294967296) then
      some true
    else
      some (decide ((IntKind.u64.wrap (t.1 * yn0)) > (IntKind.u64.wrap ((IntKind.u64.wrap (4294967296 * t.2)) + un1))))).bind fun q =>
  bif q then
    bif decide ((IntKind.u64.wrap (t.2 + yn1)) ≥ 4294967296) then
      some (.inr (IntKind.u64.wrap (t.1 - 1)))
    else
      some (.inl (IntKind.u64.wrap (t.1 - 1), IntKind.u64.wrap (t.2 + yn1)))
  else
    some (.inr t.1)

def bits_Div64 (hi : Int) (lo : Int) (y : Int) : Option (Int × Int) :=
  bif y == 0 then
    none
  else
    bif decide (y ≤ hi) then
      none
    else
      bif hi == 0 then
        (nz y).bind fun _ =>
        (nz y).bind fun _ =>
        some (IntKind.u64.wrap (Int.tdiv lo y), Int.tmod lo y)
      else
        (bits_LeadingZeros64 y).bind fun x =>
        (nn (IntKind.u64.wrap x)).bind fun _ =>
        let yn1 := shrK .u64 (shlK .u64 y (IntKind.u64.wrap x)) 32
        let yn0 := andK .u64 (shlK .u64 y (IntKind.u64.wrap x)) 4294967295
        (nn (IntKind.u64.wrap x)).bind fun _ =>
        (nn (IntKind.u64.wrap (64 - (IntKind.u64.wrap x)))).bind fun _ =>
        let un32 := orK .u64 (shlK .u64 hi (IntKind.u64.wrap x)) (shrK .u64 lo (IntKind.u64.wrap (64 - (IntKind.u64.wrap x))))
        (nn (IntKind.u64.wrap x)).bind fun _ =>
        let un1 := shrK .u64 (shlK .u64 lo (IntKind.u64.wrap x)) 32
        let un0 := andK .u64 (shlK .u64 lo (IntKind.u64.wrap x)) 4294967295
        (nz yn1).bind fun _ =>
        let rhat := IntKind.u64.wrap (un32 - (IntKind.u64.wrap ((IntKind.u64.wrap (Int.tdiv un32 yn1)) * yn1)))
        (loop (bits_Div64_l1 yn1 yn0 un1) (IntKind.u64.wrap (Int.tdiv un32 yn1), rhat)).bind fun q1 =>
        let un21 := IntKind.u64.wrap ((IntKind.u64.wrap ((IntKind.u64.wrap (un32 * 4294967296)) + un1)) - (IntKind.u64.wrap (q1 * (shlK .u64 y (IntKind.u64.wrap x)))))
        (nz yn1).bind fun _ =>
        let rhat1 := IntKind.u64.wrap (un21 - (IntKind.u64.wrap ((IntKind.u64.wrap (Int.tdiv un21 yn1)) * yn1)))
        (loop (bits_Div64_l2 yn1 yn0 un0) (rhat1, IntKind.u64.wrap (Int.tdiv un21 yn1))).bind fun q0 =>
        (nn (IntKind.u64.wrap x)).bind fun _ =>
        let quo := IntKind.u64.wrap ((IntKind.u64.wrap (q1 * 4294967296)) + q0)
        let rem := shrK .u64 (IntKind.u64.wrap ((IntKind.u64.wrap ((IntKind.u64.wrap (un21 * 4294967296)) + un0)) - (IntKind.u64.wrap (q0 * (shlK .u64 y (IntKind.u64.wrap x)))))) (IntKind.u64.wrap x)
        some (quo, rem)
def h363 : Hint := (.s .z (.s .z (.s .z (.s .z (.s .z (.s .z (.s .z (.s .z (.s .z (.s .z (.s .z (.s .z (.s .z (.s .z (.s (.b (.l [(15, .v (.int .u64) []), (16, .v (.int .u64) [])] [15, 16, 78] [(2, [(15, .v (.int .u64) [])])] (.s (.s (.j [] [(0, [(78, .v .bool [])])] .z) .z) .z))) (.s .z (.s .z (.s .z (.s (.b (.l [(16, .v (.int .u64) []), (18, .v (.int .u64) [])] [16, 18, 113] [(4, [(18, .v (.int .u64) [])])] (.s (.s (.j [] [(0, [(113, .v .bool [])])] .z) .z) .z))) .z)))))))))))))))))))
noncomputable def sp363 : Spec fam := ⟨[.v (.int .u64) [], .v (.int .u64) [], .v (.int .u64) []], [.v (.int .u64) [], .v (.int .u64) []], fun a => bits_Div64 a.1 a.2.1 a.2.2.1⟩

def rvec_part (n : Int) (bp : Int) : Option Int :=
  (bits_Mul64 (IntKind.u64.wrap n) (IntKind.u64.wrap bp)).bind fun x =>
  (bits_Div64 x.1 x.2 10000).bind fun x1 =>
  some (w64 x1.1)
def h333 : Hint := .z
noncomputable def sp333 : Spec fam := ⟨[.v (.int .i64) [], .v (.int .i64) []], [.v (.int .i64) []], fun a => rvec_part a.1 a.2.1⟩

def rvec_Scale (a : Vec) (bp : Int) : Option (Vec × Int) :=
  (
    (rvec_vec_good a).bind fun x =>
    bif ! x then
      some true
    else
      bif decide (bp < 0) then
        some true
      else
        some (decide (bp > 1000000))).bind fun q =>
  bif q then
    some ((⟨0, 0⟩ : Vec), 1)
  else
    (rvec_part a.Mem bp).bind fun x1 =>
    (rvec_part a.Cores bp).bind fun x2 =>
    (rvec_over (⟨x1, x2⟩ : Vec)).bind fun x3 =>
    some (x3.1, x3.2)
def h280 : Hint := (.s .z (.s (.s (.j [] [(0, [(16, .v .bool [])])] .z) .z) .z))
noncomputable def sp280 : Spec fam := ⟨[.v (.st 0) [], .v (.int .i64) []], [.v (.st 0) [], .v (.int .i64) []], fun a => rvec_Scale a.1 a.2.1⟩

def share_down_l1 (s : State) (label : Int) (part : (TupT fam [.st 1] → Option Int)) (up : List (List UInt8)) (t : Vec × Vec × Int) : Option ((Vec × Vec × Int) ⊕ (Vec ⊕ (Vec × Vec))) :=
  bif decide (t.2.2 ≥ 0) then
    (inb t.2.2 up.length).bind fun i1 =>
    (up[i1]?).bind fun x2 =>
    (rule_Find s.Conf x2).bind fun x3 =>
    (
      bif ! x3.2 then
        some true
      else
        bif decide (label < 0) then
          some true
        else
          some (decide (label ≥ (x3.1.Caps.length : Int)))).bind fun q =>
    bif q then
      some (.inr (.inl (⟨0, 0⟩ : Vec)))
    else
      (inb label x3.1.Caps.length).bind fun i2 =>
      (x3.1.Caps[i2]?).bind fun x4 =>
      (part (x4, ())).bind fun r =>
      (rvec_Scale t.2.1 r).bind fun x5 =>
      some (.inl (t.1, x5.1, w64 (t.2.2 - 1)))
  else
    some (.inr (.inr (t.1, t.2.1)))

def share_down (s : State) (path : List UInt8) (label : Int) (part : (TupT fam [.st 1] → Option Int)) : Option Vec :=
  (rule_Up path).bind fun up =>
  (rule_Find s.Conf path).bind fun x =>
  bif ! x.2 then
    some (⟨0, 0⟩ : Vec)
  else
    (share_Total s label).bind fun x1 =>
    let i := w64 ((up.length : Int) - 2)
    (loop (share_down_l1 s label part up) ((⟨0, 0⟩ : Vec), x1, i)).bind fun q0 =>
    match q0 with
    | .inl q1 =>
      some q1
    | .inr q2 =>
      some q2.2
def h203 : Hint := (.s .z (.s .z (.s .z (.s .z (.s (.s .z (.b (.l [(8, .box (.st 0) []), (12, .box (.st 0) []), (13, .v (.int .i64) [])] [8, 12, 13, 14, 60] [(1, [(8, .box (.st 0) [])]), (2, [(8, .box (.st 0) []), (12, .box (.st 0) [])])] (.s .z (.s (.b (.s .z (.s (.s (.j [] [(0, [(60, .v .bool [])])] .z) .z) .z))) .z))))) .z)))))
noncomputable def sp203 : Spec fam := ⟨[.v (.st 10) [], .v .str [], .v (.int .i64) [], .fn [.st 1] (.int .i64)], [.v (.st 0) []], fun a => share_down a.1 a.2.1 a.2.2.1 a.2.2.2.1⟩

def share_capacity_least (c : Cap) : Option Int :=
  some c.Least
def h204 : Hint := .z
noncomputable def sp204 : Spec fam := ⟨[.v (.st 1) []], [.v (.int .i64) []], fun a => share_capacity_least a.1⟩

def share_Least (s : State) (path : List UInt8) (label : Int) : Option Vec :=
  (share_down s path label (fun a' => share_capacity_least a'.1)).bind fun x =>
  some x
def h122 : Hint := .z
noncomputable def sp122 : Spec fam := ⟨[.v (.st 10) [], .v .str [], .v (.int .i64) []], [.v (.st 0) []], fun a => share_Least a.1 a.2.1 a.2.2.1⟩

def order_load_ (s : List Load) (f : (TupT fam [.st 18, .st 18] → Option Int)) : Option (List Load) := sortG (F := fam) (.st 18) f s
def h123 : Hint := .z
noncomputable def sp123 : Spec fam := ⟨[.row (.st 18) false, .fn [.st 18, .st 18] (.int .i64)], [], fun a => order_load_ a.1 a.2.1⟩

def cmp_Or_int__l1 (vals : List Int) (t : Int) : Option (Int ⊕ (Int ⊕ Unit)) :=
  bif decide (t < (vals.length : Int)) then
    (idx vals t).bind fun x =>
    bif x != 0 then
      some (.inr (.inl x))
    else
      some (.inl (w64 (t + 1)))
  else
    some (.inr (.inr ()))

def cmp_Or_int_ (vals : List Int) : Option Int :=
  (loop (cmp_Or_int__l1 vals) 0).bind fun q0 =>
  match q0 with
  | .inl q =>
    some q
  | .inr _ =>
    some 0
def h68 : Hint := (.s .z (.s .z (.s (.s .z (.b (.l [(8, .v (.int .i64) [])] [2, 5, 8] [(1, [(2, .v (.int .i64) [])]), (2, [])] .z))) .z)))
noncomputable def sp68 : Spec fam := ⟨[.v (.slice (.int .i64)) []], [.v (.int .i64) []], fun a => cmp_Or_int_ a.1⟩

def cmp_isNaN_string_ (x : List UInt8) : Option Bool :=
  some (! (x == x))
def h225 : Hint := .z
noncomputable def sp225 : Spec fam := ⟨[.v .str []], [.v .bool []], fun a => cmp_isNaN_string_ a.1⟩

def cmp_Compare_string_ (x : List UInt8) (y : List UInt8) : Option Int :=
  (cmp_isNaN_string_ x).bind fun xNaN =>
  (cmp_isNaN_string_ y).bind fun yNaN =>
  bif xNaN then
    bif yNaN then
      some 0
    else
      some (-1)
  else
    bif yNaN then
      some 1
    else
      bif Op.bytesLess x y then
        some (-1)
      else
        bif ! (strLe x y) then
          some 1
        else
          some 0
def h146 : Hint := .z
noncomputable def sp146 : Spec fam := ⟨[.v .str [], .v .str []], [.v (.int .i64) []], fun a => cmp_Compare_string_ a.1 a.2.1⟩

def rvec_ratio_compare (r : Ratio) (q : Ratio) : Option Int :=
  (
    bif r.of == 0 then
      some (q.of == 0)
    else
      some false).bind fun q1 =>
  bif q1 then
    some 0
  else
    bif r.of == 0 then
      some 1
    else
      bif q.of == 0 then
        some (-1)
      else
        (bits_Mul64 r.n q.of).bind fun x =>
        (bits_Mul64 q.n r.of).bind fun x1 =>
        (
          bif decide (x.1 < x1.1) then
            some true
          else
            bif x.1 == x1.1 then
              some (decide (x.2 < x1.2))
            else
              some false).bind fun q2 =>
        bif q2 then
          some (-1)
        else
          (
            bif x.1 == x1.1 then
              some (x.2 == x1.2)
            else
              some false).bind fun q3 =>
          bif q3 then
            some 0
          else
            some 1
def h291 : Hint := (.s .z (.s (.b (.s (.j [] [(0, [(9, .v .bool [])])] .z) .z)) (.s .z (.s .z (.s (.b (.s (.j [] [(0, [(42, .v .bool [])])] .z) (.c .z (.s (.j [] [(0, [(56, .v .bool [])])] .z) .z)))) .z)))))
noncomputable def sp291 : Spec fam := ⟨[.v (.st 19) [], .v (.st 19) []], [.v (.int .i64) []], fun a => rvec_ratio_compare a.1 a.2.1⟩

def rvec_of (a : Vec) (p : Vec) (get : (TupT fam [.st 0] → Option Int)) : Option Ratio :=
  (get (a, ())).bind fun r =>
  (get (p, ())).bind fun r1 =>
  bif r == 0 then
    some (⟨0, 1⟩ : Ratio)
  else
    some (⟨IntKind.u64.wrap r, IntKind.u64.wrap r1⟩ : Ratio)
def h337 : Hint := .z
noncomputable def sp337 : Spec fam := ⟨[.v (.st 0) [], .v (.st 0) [], .fn [.st 0] (.int .i64)], [.v (.st 19) []], fun a => rvec_of a.1 a.2.1 a.2.2.1⟩

def rvec_vec_mem (v : Vec) : Option Int :=
  some v.Mem
def h338 : Hint := .z
noncomputable def sp338 : Spec fam := ⟨[.v (.st 0) []], [.v (.int .i64) []], fun a => rvec_vec_mem a.1⟩

def rvec_vec_cores (v : Vec) : Option Int :=
  some v.Cores
def h339 : Hint := .z
noncomputable def sp339 : Spec fam := ⟨[.v (.st 0) []], [.v (.int .i64) []], fun a => rvec_vec_cores a.1⟩

def rvec_load (a : Vec) (p : Vec) : Option Ratio :=
  (rvec_of a p (fun a' => rvec_vec_mem a'.1)).bind fun x =>
  (rvec_of a p (fun a' => rvec_vec_cores a'.1)).bind fun x1 =>
  (rvec_ratio_compare x x1).bind fun x2 =>
  bif decide (x2 < 0) then
    some x1
  else
    some x
def h290 : Hint := .z
noncomputable def sp290 : Spec fam := ⟨[.v (.st 0) [], .v (.st 0) []], [.v (.st 19) []], fun a => rvec_load a.1 a.2.1⟩

def rvec_Order (a : Vec) (p : Vec) (b : Vec) (q : Vec) : Option Int :=
  (
    (rvec_vec_good a).bind fun x =>
    bif ! x then
      some true
    else
      (rvec_vec_good p).bind fun x1 =>
      bif ! x1 then
        some true
      else
        (rvec_vec_good b).bind fun x2 =>
        bif ! x2 then
          some true
        else
          (rvec_vec_good q).bind fun x3 =>
          some (! x3)).bind fun q1 =>
  bif q1 then
    some 0
  else
    (rvec_load a p).bind fun x4 =>
    (rvec_load b q).bind fun x5 =>
    (rvec_ratio_compare x4 x5).bind fun x6 =>
    some x6
def h206 : Hint := (.s .z (.s (.s (.j [] [(0, [(26, .v .bool [])])] .z) .z) .z))
noncomputable def sp206 : Spec fam := ⟨[.v (.st 0) [], .v (.st 0) [], .v (.st 0) [], .v (.st 0) []], [.v (.int .i64) []], fun a => rvec_Order a.1 a.2.1 a.2.2.1 a.2.2.2.1⟩

def order_load_compare (a : Load) (b : Load) : Option Int :=
  (rvec_Order a.used a.least b.used b.least).bind fun x =>
  (cmp_Compare_string_ a.path b.path).bind fun x1 =>
  (cmp_Or_int_ [x, x1]).bind fun x2 =>
  some x2
def h124 : Hint := .z
noncomputable def sp124 : Spec fam := ⟨[.v (.st 18) [], .v (.st 18) []], [.v (.int .i64) []], fun a => order_load_compare a.1 a.2.1⟩

def order_Kids_l2 (x4 : List Load) (t1 : List (List UInt8) × Int) : Option ((List (List UInt8) × Int) ⊕ List (List UInt8)) :=
  bif decide (t1.2 < (x4.length : Int)) then
    (inb t1.2 x4.length).bind fun i1 =>
    (x4[i1]?).bind fun x5 =>
    (inS t1.2 (t1.1.length : Int) t1.1.length).bind fun p =>
    some (.inl (cpy t1.1 p.1 p.2 [x5.path], w64 (t1.2 + 1)))
  else
    some (.inr t1.1)

def order_Kids_l1 (s : State) (label : Int) (x : List (List UInt8)) (t : List Load × Int) : Option ((List Load × Int) ⊕ List Load) :=
  bif decide (t.2 < (x.length : Int)) then
    (inb t.2 x.length).bind fun i =>
    (x[i]?).bind fun x1 =>
    (qtree_Used s x1 label).bind fun x2 =>
    (share_Least s x1 label).bind fun x3 =>
    (app 48 t.1 [(⟨x1, ⟨x2.Mem, x2.Cores⟩, ⟨x3.Mem, x3.Cores⟩⟩ : Load)]).bind fun l =>
    some (.inl (l, w64 (t.2 + 1)))
  else
    some (.inr t.1)

def order_Kids (s : State) (path : List UInt8) (label : Int) : Option (List (List UInt8)) :=
  (rule_Kids s.Conf path).bind fun x =>
  (loop (order_Kids_l1 s label x) ([], 0)).bind fun l1 =>
  (order_load_ l1 (fun a' => order_load_compare a'.1 a'.2.1)).bind fun x4 =>
  (mkl 16 (x4.length : Int) (x4.length : Int) []).bind fun l2 =>
  (loop (order_Kids_l2 x4) (l2, 0)).bind fun out =>
  some out
def h59 : Hint := (.s .z (.s .z (.s (.s .z (.b (.l [(7, .v (.slice (.st 18)) [0]), (18, .v (.int .i64) [])] [7, 9, 18, 19, 20, 21, 22, 23, 24, 25, 26, 27, 28, 29, 30, 31, 32, 33, 34, 35] [(2, [(7, .v (.slice (.st 18)) [0])])] .z))) (.s .z (.s .z (.s (.s .z (.b (.l [(10, .row .str false), (43, .v (.int .i64) [])] [10, 11, 12, 43] [(4, [(10, .row .str false)])] .z))) .z))))))
noncomputable def sp59 : Spec fam := ⟨[.v (.st 10) [], .v .str [], .v (.int .i64) []], [.v (.slice (.str)) [0]], fun a => order_Kids a.1 a.2.1 a.2.2.1⟩

def order_below_s_l1 (s : State) (label : Int) (deep : Int) (self : State → (List UInt8) → Int → Int → Option (List (List UInt8))) (kids : List (List UInt8)) (t : List (List UInt8) × Int) : Option ((List (List UInt8) × Int) ⊕ List (List UInt8)) :=
  bif decide (t.2 < (kids.length : Int)) then
    (inb t.2 kids.length).bind fun i =>
    (kids[i]?).bind fun x =>
    (self s x label (w64 (deep + 1))).bind fun x1 =>
    (app 16 t.1 x1).bind fun l =>
    some (.inl (l, w64 (t.2 + 1)))
  else
    some (.inr t.1)

def order_below_s (self : State → (List UInt8) → Int → Int → Option (List (List UInt8))) (s : State) (path : List UInt8) (label : Int) (deep : Int) : Option (List (List UInt8)) :=
  (order_Kids s path label).bind fun kids =>
  (
    bif (kids.length : Int) == 0 then
      some true
    else
      some (decide (deep > 4))).bind fun q =>
  bif q then
    some [path]
  else
    (loop (order_below_s_l1 s label deep self kids) ([], 0)).bind fun out =>
    some out

def order_below_r : Nat → State → (List UInt8) → Int → Int → Option (List (List UInt8))
  | 0 => fun _ _ _ _ => none
  | n + 1 => order_below_s (order_below_r n)

def order_below (a0 : State) (a1 : List UInt8) (a2 : Int) (a3 : Int) : Option (List (List UInt8)) := order_below_r 64 a0 a1 a2 a3
def h119 : Hint := (.s .z (.s .z (.s (.s (.j [17, 18, 19, 20, 21, 22, 23] [(0, [(23, .v .bool [])])] .z) .z) (.s .z (.s (.s .z (.b (.l [(10, .v (.slice (.str)) [0]), (28, .v (.int .i64) [])] [10, 12, 28] [(2, [(10, .v (.slice (.str)) [0])])] .z))) .z)))))
noncomputable def sp119 : Spec fam := ⟨[.v (.st 10) [], .v .str [], .v (.int .i64) [], .v (.int .i64) []], [.v (.slice (.str)) [0]], fun a => order_below a.1 a.2.1 a.2.2.1 a.2.2.2.1⟩

noncomputable def sp119_r (n : Nat) : Spec fam := ⟨[.v (.st 10) [], .v .str [], .v (.int .i64) [], .v (.int .i64) []], [.v (.slice (.str)) [0]], fun a => order_below_r n a.1 a.2.1 a.2.2.1 a.2.2.2.1⟩

def order_Leaves (s : State) (label : Int) : Option (List (List UInt8)) :=
  (order_below s ([114, 111, 111, 116] : List UInt8) label 1).bind fun x =>
  some x
def h58 : Hint := .z
noncomputable def sp58 : Spec fam := ⟨[.v (.st 10) [], .v (.int .i64) []], [.v (.slice (.str)) [0]], fun a => order_Leaves a.1 a.2.1⟩

def dispatchlaw12_known : Option Bool :=
  (dispatchref19_New).bind fun x =>
  (order_Leaves x 0).bind fun l =>
  bif (l.length : Int) == 1 then
    (inb 0 l.length).bind fun i =>
    (l[i]?).bind fun x1 =>
    bif x1 == ([114, 111, 111, 116] : List UInt8) then
      (dispatchref19_New).bind fun x2 =>
      (order_Kids x2 ([114, 111, 111, 116] : List UInt8) 0).bind fun x3 =>
      some ((x3.length : Int) == 0)
    else
      some false
  else
    some false
def h15 : Hint := .z
noncomputable def sp15 : Spec fam := ⟨[], [.v .bool []], fun _ => dispatchlaw12_known⟩

def dispatchlaw7_Script_Few (x : Script) : Option Bool :=
  bif decide ((x.Ns.length : Int) ≤ 30) then
    some (decide ((x.Acts.length : Int) ≤ 80))
  else
    some false
def h16 : Hint := .z
noncomputable def sp16 : Spec fam := ⟨[.v (.st 12) []], [.v .bool []], fun a => dispatchlaw7_Script_Few a.1⟩

def dispatchref8_Find_l1 (s : State) (id_ : Int) (t : Node × Int) : Option ((Node × Int) ⊕ ((Node × Bool) ⊕ Node)) :=
  bif decide (t.2 < (s.Nodes.length : Int)) then
    (idx s.Nodes t.2).bind fun x =>
    bif x.Id == id_ then
      (idx s.Nodes t.2).bind fun x1 =>
      some (.inr (.inl (x1, true)))
    else
      some (.inl (t.1, w64 (t.2 + 1)))
  else
    some (.inr (.inr (t.1)))

def dispatchref8_Find (s : State) (id_ : Int) : Option (Node × Bool) :=
  (loop (dispatchref8_Find_l1 s id_) ((⟨0, 0, 0, ⟨0, 0⟩, 0, 0, false⟩ : Node), 0)).bind fun q0 =>
  match q0 with
  | .inl q =>
    some (q.1, q.2)
  | .inr q1 =>
    some ((⟨0, 0, 0, ⟨0, 0⟩, 0, 0, false⟩ : Node), false)
def h95 : Hint := (.s .z (.s (.s .z (.b (.l [(4, .box (.st 4) []), (6, .v (.int .i64) [])] [4, 5, 6] [(1, [(4, .box (.st 4) []), (5, .v .bool [])]), (2, [(4, .box (.st 4) [])])] .z))) .z))
noncomputable def sp95 : Spec fam := ⟨[.v (.st 10) [], .v (.int .i64) []], [.v (.st 4) [], .v .bool []], fun a => dispatchref8_Find a.1 a.2.1⟩

def dispatchref8_part (n : Int) : Option Bool :=
  bif decide (n ≥ 0) then
    some (decide (n ≤ 1073741824))
  else
    some false
def h171 : Hint := .z
noncomputable def sp171 : Spec fam := ⟨[.v (.int .i64) []], [.v .bool []], fun a => dispatchref8_part a.1⟩

def dispatchref8_put_l1 (s : State) (n : Node) (k : Int) : Option (Int ⊕ Int) :=
  (
    bif decide (k < (s.Nodes.length : Int)) then
      (idx s.Nodes k).bind fun x =>
      some (decide (x.Id < n.Id))
    else
      some false).bind fun q =>
  bif q then
    some (.inl (w64 (k + 1)))
  else
    some (.inr k)

def dispatchref8_put (s : State) (n : Node) : Option State :=
  (loop (dispatchref8_put_l1 s n) 0).bind fun k1 =>
  (slc s.Nodes 0 k1).bind fun l =>
  (app 64 [] l).bind fun l1 =>
  (app 64 l1 [n]).bind fun l2 =>
  (
    (
      bif decide (k1 < (s.Nodes.length : Int)) then
        (idx s.Nodes k1).bind fun x1 =>
        some (x1.Id == n.Id)
      else
        some false).bind fun q1 =>
    bif q1 then
      some (w64 (k1 + 1))
    else
      some k1).bind fun k2 =>
  (slc s.Nodes k2 (s.Nodes.length : Int)).bind fun l3 =>
  (app 64 l2 l3).bind fun l4 =>
  some (⟨⟨s.Conf.Labels, s.Conf.Queues⟩, l4, s.Apps, s.Conts, s.Slots, s.Plans, s.Now, s.Epoch, s.Seq⟩ : State)
def h172 : Hint := (.s .z (.s .z (.s (.b (.l [(5, .v (.int .i64) [])] [5, 22] [(2, [(5, .v (.int .i64) [])])] (.s (.s (.j [] [(0, [(22, .v .bool [])])] .z) .z) .z))) (.s .z (.s .z (.s (.j [5, 50] [(0, [(5, .v (.int .i64) [])])] (.s (.j [] [(0, [(50, .v .bool [])])] .z) .z)) .z))))))
noncomputable def sp172 : Spec fam := ⟨[.v (.st 10) [], .v (.st 4) []], [.v (.st 10) [2]], fun a => dispatchref8_put a.1 a.2.1⟩

def dispatchref8_Register (s : State) (n : Node) : Option (State × Int) :=
  (
    bif decide (n.Id < 0) then
      some true
    else
      bif decide (n.Id > 999) then
        some true
      else
        bif decide (n.Label < 0) then
          some true
        else
          bif decide (n.Label ≥ (s.Conf.Labels.length : Int)) then
            some true
          else
            bif decide (n.Rack < 0) then
              some true
            else
              bif decide (n.Rack > 99) then
                some true
              else
                (dispatchref8_part n.Cap.Mem).bind fun x =>
                bif ! x then
                  some true
                else
                  (dispatchref8_part n.Cap.Cores).bind fun x1 =>
                  some (! x1)).bind fun q =>
  bif q then
    some (s, 1)
  else
    (dispatchref8_Find s n.Id).bind fun x2 =>
    (
      bif x2.2 then
        some x2.1.Up
      else
        some false).bind fun q1 =>
    bif q1 then
      some (s, 7)
    else
      (
        bif ! x2.2 then
          some (decide ((s.Nodes.length : Int) ≥ 12))
        else
          some false).bind fun q2 =>
      bif q2 then
        some (s, 4)
      else
        (dispatchref8_put s (⟨n.Id, n.Label, n.Rack, ⟨n.Cap.Mem, n.Cap.Cores⟩, s.Now, 0, true⟩ : Node)).bind fun x3 =>
        some (x3, 0)
def h101 : Hint := (.s .z (.s (.s (.j [] [(0, [(53, .v .bool [])])] .z) .z) (.s .z (.s (.s (.j [] [(0, [(66, .v .bool [])])] .z) .z) (.s (.s (.j [] [(0, [(75, .v .bool [])])] .z) .z) .z)))))
noncomputable def sp101 : Spec fam := ⟨[.v (.st 10) [], .v (.st 4) []], [.v (.st 10) [], .v (.int .i64) []], fun a => dispatchref8_Register a.1 a.2.1⟩

def dispatchref10_Find_l1 (s : State) (id_ : Int) (t : App × Int) : Option ((App × Int) ⊕ ((App × Bool) ⊕ App)) :=
  bif decide (t.2 < (s.Apps.length : Int)) then
    (idx s.Apps t.2).bind fun x =>
    bif x.Id == id_ then
      (idx s.Apps t.2).bind fun x1 =>
      some (.inr (.inl (x1, true)))
    else
      some (.inl (t.1, w64 (t.2 + 1)))
  else
    some (.inr (.inr (t.1)))

def dispatchref10_Find (s : State) (id_ : Int) : Option (App × Bool) :=
  (loop (dispatchref10_Find_l1 s id_) ((⟨0, 0, [], 0, 0, ⟨0, 0⟩, [], 0, 0, [], [], [], []⟩ : App), 0)).bind fun q0 =>
  match q0 with
  | .inl q =>
    some (q.1, q.2)
  | .inr q1 =>
    some ((⟨0, 0, [], 0, 0, ⟨0, 0⟩, [], 0, 0, [], [], [], []⟩ : App), false)
def h20 : Hint := (.s .z (.s (.s .z (.b (.l [(4, .box (.st 6) [7, 10, 11, 12, 13]), (6, .v (.int .i64) [])] [4, 5, 6] [(1, [(4, .box (.st 6) []), (5, .v .bool [])]), (2, [(4, .box (.st 6) [7, 10, 11, 12, 13])])] .z))) .z))
noncomputable def sp20 : Spec fam := ⟨[.v (.st 10) [], .v (.int .i64) []], [.v (.st 6) [], .v .bool []], fun a => dispatchref10_Find a.1 a.2.1⟩

def dispatchref10_Live (a : App) : Option Bool :=
  bif a.State == 1 then
    some true
  else
    some (a.State == 2)
def h21 : Hint := .z
noncomputable def sp21 : Spec fam := ⟨[.v (.st 6) []], [.v .bool []], fun a => dispatchref10_Live a.1⟩

def dispatchref6_Find_l1 (c : Conf) (path : List UInt8) (t : Queue × Int) : Option ((Queue × Int) ⊕ ((Queue × Bool) ⊕ Queue)) :=
  bif decide (t.2 < (c.Queues.length : Int)) then
    (idx c.Queues t.2).bind fun x =>
    bif x.Path == path then
      (idx c.Queues t.2).bind fun x1 =>
      (app 16 [] x1.Caps).bind fun l =>
      some (.inr (.inl ((⟨x1.Path, l, x1.User⟩ : Queue), true)))
    else
      some (.inl (t.1, w64 (t.2 + 1)))
  else
    some (.inr (.inr (t.1)))

def dispatchref6_Find (c : Conf) (path : List UInt8) : Option (Queue × Bool) :=
  (loop (dispatchref6_Find_l1 c path) ((⟨[], [], 0⟩ : Queue), 0)).bind fun q0 =>
  match q0 with
  | .inl q =>
    some (q.1, q.2)
  | .inr q1 =>
    some ((⟨[], [], 0⟩ : Queue), false)
def h111 : Hint := (.s .z (.s (.s .z (.b (.l [(4, .box (.st 2) [1]), (6, .v (.int .i64) [])] [4, 5, 6, 7] [(1, [(4, .box (.st 2) [1]), (5, .v .bool [])]), (2, [(4, .box (.st 2) [1])])] .z))) .z))
noncomputable def sp111 : Spec fam := ⟨[.v (.st 3) [], .v .str []], [.v (.st 2) [1], .v .bool []], fun a => dispatchref6_Find a.1 a.2.1⟩

def dispatchref6_above_l1 (path : List UInt8) (k1 : Int) : Option (Int ⊕ Int) :=
  (
    bif decide (k1 ≥ 0) then
      (idx path k1).bind fun ch =>
      some ((ch.toNat : Int) != 46)
    else
      some false).bind fun q =>
  bif q then
    some (.inl (w64 (k1 - 1)))
  else
    some (.inr k1)

def dispatchref6_above (path : List UInt8) : Option (List UInt8) :=
  let k := w64 ((path.length : Int) - 1)
  (loop (dispatchref6_above_l1 path) k).bind fun k2 =>
  bif decide (k2 < 0) then
    some ([] : List UInt8)
  else
    (slc path 0 k2).bind fun s =>
    some s
def h113 : Hint := (.s .z (.s .z (.s (.b (.l [(3, .v (.int .i64) [])] [3, 14] [(2, [(3, .v (.int .i64) [])])] (.s (.s (.j [] [(0, [(14, .v .bool [])])] .z) .z) .z))) .z)))
noncomputable def sp113 : Spec fam := ⟨[.v .str []], [.v .str []], fun a => dispatchref6_above a.1⟩

def dispatchref6_Kids_l1 (c : Conf) (path : List UInt8) (t : List (List UInt8) × Int) : Option ((List (List UInt8) × Int) ⊕ List (List UInt8)) :=
  bif decide (t.2 < (c.Queues.length : Int)) then
    (
      (
        bif ! (path == ([] : List UInt8)) then
          (idx c.Queues t.2).bind fun x =>
          (dispatchref6_above x.Path).bind fun x1 =>
          some (x1 == path)
        else
          some false).bind fun q =>
      bif q then
        (idx c.Queues t.2).bind fun x2 =>
        (app 16 t.1 [x2.Path]).bind fun l =>
        some l
      else
        some t.1).bind fun l1 =>
    some (.inl (l1, w64 (t.2 + 1)))
  else
    some (.inr t.1)

def dispatchref6_Kids (c : Conf) (path : List UInt8) : Option (List (List UInt8)) :=
  (loop (dispatchref6_Kids_l1 c path) ([], 0)).bind fun l2 =>
  some l2
def h135 : Hint := (.s .z (.s .z (.s (.s .z (.b (.l [(5, .v (.slice (.str)) [0]), (6, .v (.int .i64) [])] [5, 6, 26] [(2, [(5, .v (.slice (.str)) [0])])] (.s .z (.s (.j [5, 26] [(0, [(5, .v (.slice (.str)) [0])])] (.b (.s (.j [] [(0, [(26, .v .bool [])])] .z) .z))) .z))))) .z)))
noncomputable def sp135 : Spec fam := ⟨[.v (.st 3) [], .v .str []], [.v (.slice (.str)) [0]], fun a => dispatchref6_Kids a.1 a.2.1⟩

def dispatchref6_Leaf (c : Conf) (path : List UInt8) : Option Bool :=
  (dispatchref6_Find c path).bind fun x =>
  bif x.2 then
    (dispatchref6_Kids c path).bind fun x1 =>
    some ((x1.length : Int) == 0)
  else
    some false
def h64 : Hint := .z
noncomputable def sp64 : Spec fam := ⟨[.v (.st 3) [], .v .str []], [.v .bool []], fun a => dispatchref6_Leaf a.1 a.2.1⟩

def dispatchref10_Put_l1 (s : State) (a : App) (k : Int) : Option (Int ⊕ Int) :=
  (
    bif decide (k < (s.Apps.length : Int)) then
      (idx s.Apps k).bind fun x =>
      some (decide (x.Id < a.Id))
    else
      some false).bind fun q =>
  bif q then
    some (.inl (w64 (k + 1)))
  else
    some (.inr k)

def dispatchref10_Put (s : State) (a : App) : Option State :=
  (loop (dispatchref10_Put_l1 s a) 0).bind fun k1 =>
  (slc s.Apps 0 k1).bind fun l =>
  (app 200 [] l).bind fun l1 =>
  (app 200 l1 [a]).bind fun l2 =>
  (
    (
      bif decide (k1 < (s.Apps.length : Int)) then
        (idx s.Apps k1).bind fun x1 =>
        some (x1.Id == a.Id)
      else
        some false).bind fun q1 =>
    bif q1 then
      some (w64 (k1 + 1))
    else
      some k1).bind fun k2 =>
  (slc s.Apps k2 (s.Apps.length : Int)).bind fun l3 =>
  (app 200 l2 l3).bind fun l4 =>
  some (⟨⟨s.Conf.Labels, s.Conf.Queues⟩, s.Nodes, l4, s.Conts, s.Slots, s.Plans, s.Now, s.Epoch, s.Seq⟩ : State)
def h100 : Hint := (.s .z (.s .z (.s (.b (.l [(5, .v (.int .i64) [])] [5, 22] [(2, [(5, .v (.int .i64) [])])] (.s (.s (.j [] [(0, [(22, .v .bool [])])] .z) .z) .z))) (.s .z (.s .z (.s (.j [5, 50] [(0, [(5, .v (.int .i64) [])])] (.s (.j [] [(0, [(50, .v .bool [])])] .z) .z)) .z))))))
noncomputable def sp100 : Spec fam := ⟨[.v (.st 10) [], .v (.st 6) []], [.v (.st 10) [3]], fun a => dispatchref10_Put a.1 a.2.1⟩

def dispatchref10_part (n : Int) : Option Bool :=
  bif decide (n ≥ 1) then
    some (decide (n ≤ 1073741824))
  else
    some false
def h173 : Hint := .z
noncomputable def sp173 : Spec fam := ⟨[.v (.int .i64) []], [.v .bool []], fun a => dispatchref10_part a.1⟩

def dispatchref10_forget_l1 (s : State) (t : List App × Bool × Int) : Option ((List App × Bool × Int) ⊕ List App) :=
  bif decide (t.2.2 < (s.Apps.length : Int)) then
    (
      (
        bif ! t.2.1 then
          (idx s.Apps t.2.2).bind fun x =>
          (dispatchref10_Live x).bind fun x1 =>
          some (! x1)
        else
          some false).bind fun q =>
      bif q then
        some (t.1, true)
      else
        (idx s.Apps t.2.2).bind fun x2 =>
        (app 200 t.1 [x2]).bind fun l =>
        some (l, t.2.1)).bind fun q1 =>
    some (.inl (q1.1, q1.2, w64 (t.2.2 + 1)))
  else
    some (.inr t.1)

def dispatchref10_forget (s : State) : Option State :=
  (loop (dispatchref10_forget_l1 s) ([], false, 0)).bind fun l1 =>
  some (⟨⟨s.Conf.Labels, s.Conf.Queues⟩, s.Nodes, l1, s.Conts, s.Slots, s.Plans, s.Now, s.Epoch, s.Seq⟩ : State)
def h174 : Hint := (.s .z (.s .z (.s .z (.s (.s .z (.b (.l [(3, .v (.slice (.st 6)) [0]), (4, .v .bool []), (5, .v (.int .i64) [])] [3, 4, 5, 23] [(2, [(3, .v (.slice (.st 6)) [0])])] (.s .z (.s (.j [3, 4, 23] [(0, [(3, .v (.slice (.st 6)) [0]), (4, .v .bool [])])] (.b (.s (.s (.j [] [(0, [(23, .v .bool [])])] .z) .z) .z))) .z))))) .z))))
noncomputable def sp174 : Spec fam := ⟨[.v (.st 10) []], [.v (.st 10) [3]], fun a => dispatchref10_forget a.1⟩

def dispatchref10_first (a : App) : Option (List Ask) :=
  some [(⟨0, 0, ⟨a.Master.Mem, a.Master.Cores⟩, 1, (-1), (-1), 0⟩ : Ask)]
def h175 : Hint := .z
noncomputable def sp175 : Spec fam := ⟨[.v (.st 6) []], [.v (.slice (.st 5)) [0]], fun a => dispatchref10_first a.1⟩

def dispatchref10_Submit_l1 (s : State) (t : Int × Int) : Option ((Int × Int) ⊕ Int) :=
  bif decide (t.2 < (s.Apps.length : Int)) then
    (
      (idx s.Apps t.2).bind fun x3 =>
      (dispatchref10_Live x3).bind fun x4 =>
      bif x4 then
        some (w64 (t.1 + 1))
      else
        some t.1).bind fun live =>
    some (.inl (live, w64 (t.2 + 1)))
  else
    some (.inr t.1)

def dispatchref10_Submit (s : State) (a : App) : Option (State × Int) :=
  (
    bif decide (a.Id < 0) then
      some true
    else
      bif decide (a.Id > 9999) then
        some true
      else
        bif decide (a.User < 0) then
          some true
        else
          bif decide (a.User > 99) then
            some true
          else
            bif decide (a.Prio < 0) then
              some true
            else
              bif decide (a.Prio > 9) then
                some true
              else
                (dispatchref10_part a.Master.Mem).bind fun x =>
                bif ! x then
                  some true
                else
                  (dispatchref10_part a.Master.Cores).bind fun x1 =>
                  some (! x1)).bind fun q =>
  bif q then
    some (s, 1)
  else
    (dispatchref10_Find s a.Id).bind fun x2 =>
    bif x2.2 then
      some (s, 7)
    else
      (loop (dispatchref10_Submit_l1 s) (0, 0)).bind fun live1 =>
      bif decide (live1 ≥ 16) then
        some (s, 4)
      else
        (dispatchref6_Leaf s.Conf a.Queue).bind fun x5 =>
        bif ! x5 then
          some (s, 19)
        else
          (
            bif decide ((s.Apps.length : Int) ≥ 16) then
              (dispatchref10_forget s).bind fun x6 =>
              some x6
            else
              some s).bind fun s1 =>
          (dispatchref10_first a).bind fun x7 =>
          (dispatchref10_Put s1 (⟨a.Id, 1, a.Queue, a.User, a.Prio, ⟨a.Master.Mem, a.Master.Cores⟩, x7, s1.Now, 0, [], [], [], []⟩ : App)).bind fun x8 =>
          some (x8, 0)
def h102 : Hint := (.s .z (.s (.s (.j [] [(0, [(51, .v .bool [])])] .z) .z) (.s .z (.s .z (.s .z (.s (.s .z (.b (.l [(8, .v (.int .i64) []), (9, .v (.int .i64) [])] [8, 9] [(2, [(8, .v (.int .i64) [])])] (.s .z (.s (.j [8] [(0, [(8, .v (.int .i64) [])])] .z) .z))))) (.s .z (.s .z (.s (.j [2] [(0, [(2, .box (.st 10) [])])] .z) .z)))))))))
noncomputable def sp102 : Spec fam := ⟨[.v (.st 10) [], .v (.st 6) []], [.v (.st 10) [], .v (.int .i64) []], fun a => dispatchref10_Submit a.1 a.2.1⟩

def dispatchref6_Name_l1 (s : List UInt8) (i : Int) : Option (Int ⊕ (Bool ⊕ Unit)) :=
  bif decide (i < (s.length : Int)) then
    (idx s i).bind fun ch =>
    (
      bif decide ((ch.toNat : Int) < 97) then
        bif decide ((ch.toNat : Int) < 48) then
          some ((ch.toNat : Int) != 45)
        else
          bif decide ((ch.toNat : Int) > 57) then
            some ((ch.toNat : Int) != 45)
          else
            some false
      else
        bif decide ((ch.toNat : Int) > 122) then
          bif decide ((ch.toNat : Int) < 48) then
            some ((ch.toNat : Int) != 45)
          else
            bif decide ((ch.toNat : Int) > 57) then
              some ((ch.toNat : Int) != 45)
            else
              some false
        else
          some false).bind fun q1 =>
    bif q1 then
      some (.inr (.inl false))
    else
      some (.inl (w64 (i + 1)))
  else
    some (.inr (.inr ()))

def dispatchref6_Name (s : List UInt8) : Option Bool :=
  (
    bif decide ((s.length : Int) < 1) then
      some true
    else
      some (decide ((s.length : Int) > 12))).bind fun q =>
  bif q then
    some false
  else
    (loop (dispatchref6_Name_l1 s) 0).bind fun q0 =>
    match q0 with
    | .inl q2 =>
      some q2
    | .inr _ =>
      some true
def h252 : Hint := (.s .z (.s (.s (.j [] [(0, [(12, .v .bool [])])] .z) .z) (.s (.s .z (.b (.l [(3, .v (.int .i64) [])] [2, 3, 39] [(1, [(2, .v .bool [])]), (2, [])] (.s .z (.s (.b (.s .z (.s (.j [] [(0, [(39, .v .bool [])])] .z) .z))) .z))))) .z)))
noncomputable def sp252 : Spec fam := ⟨[.v .str []], [.v .bool []], fun a => dispatchref6_Name a.1⟩

def dispatchref6_labels_l3 (c : Conf) (i1 : Int) (k : Int) : Option (Int ⊕ (Int ⊕ Unit)) :=
  bif decide (k < i1) then
    (idx c.Labels i1).bind fun x3 =>
    (idx c.Labels k).bind fun x4 =>
    bif x3 == x4 then
      some (.inr (.inl 7))
    else
      some (.inl (w64 (k + 1)))
  else
    some (.inr (.inr ()))

def dispatchref6_labels_l2 (c : Conf) (i1 : Int) : Option (Int ⊕ (Int ⊕ Unit)) :=
  bif decide (i1 < (c.Labels.length : Int)) then
    (loop (dispatchref6_labels_l3 c i1) 1).bind fun q0 =>
    match q0 with
    | .inl q2 =>
      some (.inr (.inl q2))
    | .inr _ =>
      some (.inl (w64 (i1 + 1)))
  else
    some (.inr (.inr ()))

def dispatchref6_labels_l1 (c : Conf) (i : Int) : Option (Int ⊕ (Int ⊕ Unit)) :=
  bif decide (i < (c.Labels.length : Int)) then
    (idx c.Labels i).bind fun x1 =>
    (dispatchref6_Name x1).bind fun x2 =>
    bif ! x2 then
      some (.inr (.inl 12))
    else
      some (.inl (w64 (i + 1)))
  else
    some (.inr (.inr ()))

def dispatchref6_labels (c : Conf) : Option Int :=
  (
    bif decide ((c.Labels.length : Int) < 1) then
      some true
    else
      bif decide ((c.Labels.length : Int) > 3) then
        some true
      else
        some (decide ((c.Queues.length : Int) > 16))).bind fun q =>
  bif q then
    some 4
  else
    (idx c.Labels 0).bind fun x =>
    bif ! (x == ([] : List UInt8)) then
      some 12
    else
      (loop (dispatchref6_labels_l1 c) 1).bind fun q0 =>
      match q0 with
      | .inl q1 =>
        some q1
      | .inr _ =>
        (loop (dispatchref6_labels_l2 c) 1).bind fun q0 =>
        match q0 with
        | .inl q3 =>
          some q3
        | .inr _ =>
          some 0
def h167 : Hint := (.s .z (.s (.s (.j [] [(0, [(21, .v .bool [])])] .z) .z) (.s .z (.s (.s .z (.b (.l [(3, .v (.int .i64) [])] [2, 3] [(1, [(2, .v (.int .i64) [])]), (2, [])] .z))) (.s (.s .z (.b (.l [(4, .v (.int .i64) [])] [2, 4, 5] [(1, [(2, .v (.int .i64) [])]), (4, [])] (.s .z (.s (.b (.s .z (.b (.l [(5, .v (.int .i64) [])] [2, 5] [(1, [(2, .v (.int .i64) [])]), (6, [])] .z)))) .z))))) .z)))))
noncomputable def sp167 : Spec fam := ⟨[.v (.st 3) []], [.v (.int .i64) []], fun a => dispatchref6_labels a.1⟩

def dispatchref6_isPath_l1 (s : List UInt8) (t : Int × Int × Int) : Option ((Int × Int × Int) ⊕ (Bool ⊕ Int)) :=
  bif decide (t.2.2 ≤ (s.length : Int)) then
    (
      (
        bif decide (t.2.2 < (s.length : Int)) then
          (idx s t.2.2).bind fun ch =>
          some ((ch.toNat : Int) != 46)
        else
          some false).bind fun q =>
      bif q then
        some (.inl (t.1, t.2.1))
      else
        (
          (slc s t.1 t.2.2).bind fun s1 =>
          (dispatchref6_Name s1).bind fun x =>
          bif ! x then
            some true
          else
            bif t.2.1 == 0 then
              (slc s t.1 t.2.2).bind fun s2 =>
              some (! (s2 == ([114, 111, 111, 116] : List UInt8)))
            else
              some false).bind fun q1 =>
        bif q1 then
          some (.inr false)
        else
          some (.inl (w64 (t.2.2 + 1), w64 (t.2.1 + 1))) : Option ((Int × Int) ⊕ Bool)).bind fun q0 =>
    match q0 with
    | .inl q2 =>
      some (.inl (q2.1, q2.2, w64 (t.2.2 + 1)))
    | .inr q3 =>
      some (.inr (.inl q3))
  else
    some (.inr (.inr (t.2.1)))

def dispatchref6_isPath (s : List UInt8) : Option Bool :=
  (loop (dispatchref6_isPath_l1 s) (0, 0, 0)).bind fun q0 =>
  match q0 with
  | .inl q4 =>
    some q4
  | .inr n =>
    some (decide (n ≤ 4))
def h253 : Hint := (.s .z (.s .z (.s (.s .z (.b (.l [(3, .v (.int .i64) []), (4, .v (.int .i64) []), (5, .v (.int .i64) [])] [2, 3, 4, 5, 21, 38] [(1, [(2, .v .bool [])]), (2, [(4, .v (.int .i64) [])])] (.s .z (.s (.j [2, 3, 4, 21, 38] [(0, [(3, .v (.int .i64) []), (4, .v (.int .i64) [])]), (1, [(2, .v .bool [])])] (.b (.s (.s (.j [] [(0, [(21, .v .bool [])])] .z) .z) (.s (.s (.j [] [(0, [(38, .v .bool [])])] .z) .z) .z)))) .z))))) .z)))
noncomputable def sp253 : Spec fam := ⟨[.v .str []], [.v .bool []], fun a => dispatchref6_isPath a.1⟩

def dispatchref6_queue_l1 (x : Queue) (k : Int) : Option (Int ⊕ (Int ⊕ Unit)) :=
  bif decide (k < (x.Caps.length : Int)) then
    (idx x.Caps k).bind fun x5 =>
    (
      bif decide (x5.Least < 0) then
        some true
      else
        bif decide (x5.Least > 10000) then
          some true
        else
          bif decide (x5.Most < 0) then
            some true
          else
            bif decide (x5.Most > 10000) then
              some true
            else
              some (decide (x5.Least > x5.Most))).bind fun q3 =>
    bif q3 then
      some (.inr (.inl 1))
    else
      some (.inl (w64 (k + 1)))
  else
    some (.inr (.inr ()))

def dispatchref6_queue (c : Conf) (i : Int) : Option Int :=
  (idx c.Queues i).bind fun x =>
  (dispatchref6_isPath x.Path).bind fun x1 =>
  bif ! x1 then
    some 12
  else
    (
      bif decide (i > 0) then
        (idx c.Queues (w64 (i - 1))).bind fun x2 =>
        some (strLe x.Path x2.Path)
      else
        some false).bind fun q =>
    bif q then
      some 7
    else
      (dispatchref6_above x.Path).bind fun x3 =>
      (dispatchref6_Find c x3).bind fun x4 =>
      (
        bif decide (i > 0) then
          some (! x4.2)
        else
          some false).bind fun q1 =>
      bif q1 then
        some 12
      else
        (
          bif decide (x.User < 1) then
            some true
          else
            bif decide (x.User > 1000000) then
              some true
            else
              some ((x.Caps.length : Int) != (c.Labels.length : Int))).bind fun q2 =>
        bif q2 then
          some 1
        else
          (loop (dispatchref6_queue_l1 x) 0).bind fun q0 =>
          match q0 with
          | .inl q4 =>
            some q4
          | .inr _ =>
            some 0
def h168 : Hint := (.s .z (.s .z (.s .z (.s (.s (.j [] [(0, [(32, .v .bool [])])] .z) .z) (.s .z (.s (.s (.j [] [(0, [(46, .v .bool [])])] .z) .z) (.s (.s (.j [] [(0, [(63, .v .bool [])])] .z) .z) (.s (.s .z (.b (.l [(8, .v (.int .i64) [])] [4, 8, 9, 100] [(1, [(4, .v (.int .i64) [])]), (2, [])] (.s .z (.s (.b (.s .z (.s (.j [] [(0, [(100, .v .bool [])])] .z) .z))) .z))))) .z))))))))
noncomputable def sp168 : Spec fam := ⟨[.v (.st 3) [], .v (.int .i64) []], [.v (.int .i64) []], fun a => dispatchref6_queue a.1 a.2.1⟩

def dispatchref6_sums_l3 (c : Conf) (kids : List (List UInt8)) (k : Int) (t : Int × Int) : Option ((Int × Int) ⊕ Int) :=
  bif decide (t.2 < (kids.length : Int)) then
    (inb t.2 kids.length).bind fun i1 =>
    (kids[i1]?).bind fun x1 =>
    (dispatchref6_Find c x1).bind fun x2 =>
    (inb k x2.1.Caps.length).bind fun i2 =>
    (x2.1.Caps[i2]?).bind fun x3 =>
    let n := w64 (t.1 + x3.Least)
    some (.inl (n, w64 (t.2 + 1)))
  else
    some (.inr t.1)

def dispatchref6_sums_l2 (c : Conf) (kids : List (List UInt8)) (k : Int) : Option (Int ⊕ (Bool ⊕ Unit)) :=
  (
    bif decide (k < (c.Labels.length : Int)) then
      some (decide ((kids.length : Int) > 0))
    else
      some false).bind fun q =>
  bif q then
    (loop (dispatchref6_sums_l3 c kids k) (0, 0)).bind fun n1 =>
    bif n1 != 10000 then
      some (.inr (.inl false))
    else
      some (.inl (w64 (k + 1)))
  else
    some (.inr (.inr ()))

def dispatchref6_sums_l1 (c : Conf) (i : Int) : Option (Int ⊕ (Bool ⊕ Unit)) :=
  bif decide (i < (c.Queues.length : Int)) then
    (idx c.Queues i).bind fun x =>
    (dispatchref6_Kids c x.Path).bind fun kids =>
    (loop (dispatchref6_sums_l2 c kids) 0).bind fun q0 =>
    match q0 with
    | .inl q1 =>
      some (.inr (.inl q1))
    | .inr _ =>
      some (.inl (w64 (i + 1)))
  else
    some (.inr (.inr ()))

def dispatchref6_sums (c : Conf) : Option Bool :=
  (loop (dispatchref6_sums_l1 c) 0).bind fun q0 =>
  match q0 with
  | .inl q2 =>
    some q2
  | .inr _ =>
    some true
def h169 : Hint := (.s .z (.s (.s .z (.b (.l [(3, .v (.int .i64) [])] [2, 3, 4, 5, 6, 7, 8, 34] [(1, [(2, .v .bool [])]), (2, [])] (.s .z (.s (.b (.s .z (.s .z (.b (.l [(5, .v (.int .i64) [])] [2, 5, 6, 7, 8, 34] [(1, [(2, .v .bool [])]), (4, [])] (.s (.s (.j [] [(0, [(34, .v .bool [])])] .z) .z) (.s (.b (.s .z (.s (.s .z (.b (.l [(6, .v (.int .i64) []), (7, .v (.int .i64) [])] [6, 7, 8] [(6, [(6, .v (.int .i64) [])])] .z))) .z))) .z))))))) .z))))) .z))
noncomputable def sp169 : Spec fam := ⟨[.v (.st 3) []], [.v .bool []], fun a => dispatchref6_sums a.1⟩

def dispatchref6_Check_l2 (c : Conf) (k : Int) : Option (Int ⊕ (Int ⊕ Unit)) :=
  bif decide (k < (c.Labels.length : Int)) then
    (idx c.Queues 0).bind fun x5 =>
    (idx x5.Caps k).bind fun x6 =>
    bif ! ((x6.Least == 10000) && (x6.Most == 10000)) then
      some (.inr (.inl 13))
    else
      some (.inl (w64 (k + 1)))
  else
    some (.inr (.inr ()))

def dispatchref6_Check_l1 (c : Conf) (i : Int) : Option (Int ⊕ (Int ⊕ Unit)) :=
  bif decide (i < (c.Queues.length : Int)) then
    (dispatchref6_queue c i).bind fun x3 =>
    bif x3 != 0 then
      (dispatchref6_queue c i).bind fun x4 =>
      some (.inr (.inl x4))
    else
      some (.inl (w64 (i + 1)))
  else
    some (.inr (.inr ()))

def dispatchref6_Check (c : Conf) : Option Int :=
  (dispatchref6_labels c).bind fun x =>
  bif x != 0 then
    (dispatchref6_labels c).bind fun x1 =>
    some x1
  else
    (
      bif (c.Queues.length : Int) == 0 then
        some true
      else
        (idx c.Queues 0).bind fun x2 =>
        some (! (x2.Path == ([114, 111, 111, 116] : List UInt8)))).bind fun q =>
    bif q then
      some 12
    else
      (loop (dispatchref6_Check_l1 c) 0).bind fun q0 =>
      match q0 with
      | .inl q1 =>
        some q1
      | .inr _ =>
        (loop (dispatchref6_Check_l2 c) 0).bind fun q0 =>
        match q0 with
        | .inl q2 =>
          some q2
        | .inr _ =>
          (dispatchref6_sums c).bind fun x7 =>
          bif ! x7 then
            some 13
          else
            some 0
def h91 : Hint := (.s .z (.s .z (.s (.s (.j [] [(0, [(21, .v .bool [])])] .z) .z) (.s (.s .z (.b (.l [(3, .v (.int .i64) [])] [2, 3] [(1, [(2, .v (.int .i64) [])]), (2, [])] .z))) (.s (.s .z (.b (.l [(4, .v (.int .i64) [])] [2, 4] [(1, [(2, .v (.int .i64) [])]), (4, [])] .z))) .z)))))
noncomputable def sp91 : Spec fam := ⟨[.v (.st 3) []], [.v (.int .i64) []], fun a => dispatchref6_Check a.1⟩

def dispatchref19_bad (s : State) (e : Int) : Option (State × Output) :=
  some (s, (⟨e, [], [], [], 0⟩ : Output))
def h132 : Hint := .z
noncomputable def sp132 : Spec fam := ⟨[.v (.st 10) [], .v (.int .i64) []], [.v (.st 10) [], .v (.st 13) [1, 2, 3]], fun a => dispatchref19_bad a.1 a.2.1⟩

def dispatchref5_cut_l1 (s : List UInt8) (c : Int) (t : List (List UInt8) × Int × Int) : Option ((List (List UInt8) × Int × Int) ⊕ ((List (List UInt8) × Int))) :=
  bif decide (t.2.2 < (s.length : Int)) then
    (
      (idx s t.2.2).bind fun ch =>
      bif (ch.toNat : Int) == c then
        (slc s t.2.1 t.2.2).bind fun s1 =>
        (app 16 t.1 [s1]).bind fun l =>
        some (l, w64 (t.2.2 + 1))
      else
        some (t.1, t.2.1)).bind fun q =>
    some (.inl (q.1, q.2, w64 (t.2.2 + 1)))
  else
    some (.inr (t.1, t.2.1))

def dispatchref5_cut (s : List UInt8) (c : Int) : Option (List (List UInt8)) :=
  (loop (dispatchref5_cut_l1 s c) ([], 0, 0)).bind fun q1 =>
  (
    bif decide (q1.2 < (s.length : Int)) then
      (slc s q1.2 (s.length : Int)).bind fun s2 =>
      (app 16 q1.1 [s2]).bind fun l1 =>
      some l1
    else
      some q1.1).bind fun l2 =>
  some l2
def h292 : Hint := (.s .z (.s .z (.s .z (.s (.s .z (.b (.l [(5, .v (.slice (.str)) [0]), (6, .v (.int .i64) []), (7, .v (.int .i64) [])] [5, 6, 7] [(2, [(5, .v (.slice (.str)) [0]), (6, .v (.int .i64) [])])] (.s .z (.s (.j [5, 6] [(0, [(5, .v (.slice (.str)) [0]), (6, .v (.int .i64) [])])] .z) .z))))) (.s (.j [5] [(0, [(5, .v (.slice (.str)) [0])])] .z) .z)))))
noncomputable def sp292 : Spec fam := ⟨[.v .str [], .v (.int .u8) []], [.v (.slice (.str)) [0]], fun a => dispatchref5_cut a.1 a.2.1⟩

def dispatchref5_words_l1 (l : List (List UInt8)) (t : List (List UInt8) × Int) : Option ((List (List UInt8) × Int) ⊕ List (List UInt8)) :=
  bif decide (t.2 < (l.length : Int)) then
    (
      (inb t.2 l.length).bind fun i =>
      (l[i]?).bind fun x =>
      bif ! (x == ([] : List UInt8)) then
        (inb t.2 l.length).bind fun i1 =>
        (l[i1]?).bind fun x1 =>
        (app 16 t.1 [x1]).bind fun l1 =>
        some l1
      else
        some t.1).bind fun out =>
    some (.inl (out, w64 (t.2 + 1)))
  else
    some (.inr t.1)

def dispatchref5_words (s : List UInt8) : Option (List (List UInt8)) :=
  (dispatchref5_cut s 32).bind fun l =>
  (loop (dispatchref5_words_l1 l) ([], 0)).bind fun out1 =>
  some out1
def h293 : Hint := (.s .z (.s .z (.s .z (.s (.s .z (.b (.l [(3, .v (.slice (.str)) [0]), (5, .v (.int .i64) [])] [3, 5] [(2, [(3, .v (.slice (.str)) [0])])] (.s .z (.s (.j [3] [(0, [(3, .v (.slice (.str)) [0])])] .z) .z))))) .z))))
noncomputable def sp293 : Spec fam := ⟨[.v .str []], [.v (.slice (.str)) [0]], fun a => dispatchref5_words a.1⟩

def dispatchref5_number_l1 (s : List UInt8) (t : Int × Int) : Option ((Int × Int) ⊕ ((Int × Bool) ⊕ Int)) :=
  bif decide (t.2 < (s.length : Int)) then
    (
      (idx s t.2).bind fun ch1 =>
      bif decide ((ch1.toNat : Int) < 48) then
        some true
      else
        (idx s t.2).bind fun ch2 =>
        some (decide ((ch2.toNat : Int) > 57))).bind fun q1 =>
    bif q1 then
      some (.inr (.inl (0, false)))
    else
      (idx s t.2).bind fun ch3 =>
      let n := w64 ((w64 (t.1 * 10)) + (w64 (IntKind.u8.wrap ((ch3.toNat : Int) - 48))))
      some (.inl (n, w64 (t.2 + 1)))
  else
    some (.inr (.inr (t.1)))

def dispatchref5_number (s : List UInt8) : Option (Int × Bool) :=
  (
    bif decide ((s.length : Int) < 1) then
      some true
    else
      bif decide ((s.length : Int) > 7) then
        some true
      else
        (idx s 0).bind fun ch =>
        bif (ch.toNat : Int) == 48 then
          some (decide ((s.length : Int) > 1))
        else
          some false).bind fun q =>
  bif q then
    some (0, false)
  else
    (loop (dispatchref5_number_l1 s) (0, 0)).bind fun q0 =>
    match q0 with
    | .inl q2 =>
      some (q2.1, q2.2)
    | .inr n1 =>
      some (n1, true)
def h341 : Hint := (.s .z (.s (.s (.j [] [(0, [(23, .v .bool [])])] .z) .z) (.s .z (.s (.s .z (.b (.l [(4, .v (.int .i64) []), (5, .v (.int .i64) [])] [2, 3, 4, 5, 39] [(1, [(2, .v (.int .i64) []), (3, .v .bool [])]), (2, [(4, .v (.int .i64) [])])] (.s .z (.s (.b (.s (.s (.j [] [(0, [(39, .v .bool [])])] .z) .z) .z)) .z))))) .z))))
noncomputable def sp341 : Spec fam := ⟨[.v .str []], [.v (.int .i64) [], .v .bool []], fun a => dispatchref5_number a.1⟩

def dispatchref5_share_l1 (s : List UInt8) (k : Int) : Option (Int ⊕ Int) :=
  (
    bif decide (k < (s.length : Int)) then
      (idx s k).bind fun ch =>
      some ((ch.toNat : Int) != 47)
    else
      some false).bind fun q =>
  bif q then
    some (.inl (w64 (k + 1)))
  else
    some (.inr k)

def dispatchref5_share (s : List UInt8) : Option (Cap × Bool) :=
  (loop (dispatchref5_share_l1 s) 0).bind fun k1 =>
  bif k1 == (s.length : Int) then
    some ((⟨0, 0⟩ : Cap), false)
  else
    (slc s 0 k1).bind fun s1 =>
    (dispatchref5_number s1).bind fun x =>
    (slc s (w64 (k1 + 1)) (s.length : Int)).bind fun s2 =>
    (dispatchref5_number s2).bind fun x1 =>
    bif x.2 then
      some ((⟨x.1, x1.1⟩ : Cap), x1.2)
    else
      some ((⟨x.1, x1.1⟩ : Cap), false)
def h342 : Hint := (.s .z (.s .z (.s (.b (.l [(4, .v (.int .i64) [])] [4, 18] [(2, [(4, .v (.int .i64) [])])] (.s (.s (.j [] [(0, [(18, .v .bool [])])] .z) .z) .z))) .z)))
noncomputable def sp342 : Spec fam := ⟨[.v .str []], [.v (.st 1) [], .v .bool []], fun a => dispatchref5_share a.1⟩

def dispatchref5_queue_l1 (w : List (List UInt8)) (t : Bool × Queue × Int) : Option ((Bool × Queue × Int) ⊕ ((Bool × Queue))) :=
  (
    bif decide (t.2.2 < (w.length : Int)) then
      some t.1
    else
      some false).bind fun q1 =>
  bif q1 then
    (idx w t.2.2).bind fun x4 =>
    (dispatchref5_share x4).bind fun x5 =>
    (app 16 t.2.1.Caps [x5.1]).bind fun l =>
    some (.inl (x5.2, (⟨t.2.1.Path, l, t.2.1.User⟩ : Queue), w64 (t.2.2 + 1)))
  else
    some (.inr (t.1, t.2.1))

def dispatchref5_queue (w : List (List UInt8)) (labels : Int) : Option (Queue × Bool) :=
  (
    bif (w.length : Int) != (w64 (3 + labels)) then
      some true
    else
      (idx w 0).bind fun x =>
      some (! (x == ([113, 117, 101, 117, 101] : List UInt8)))).bind fun q =>
  bif q then
    some ((⟨[], [], 0⟩ : Queue), false)
  else
    (idx w 2).bind fun x1 =>
    (dispatchref5_number x1).bind fun x2 =>
    (idx w 1).bind fun x3 =>
    (loop (dispatchref5_queue_l1 w) (x2.2, (⟨x3, [], x2.1⟩ : Queue), 3)).bind fun q2 =>
    some (q2.2, q2.1)
def h294 : Hint := (.s .z (.s (.s (.j [] [(0, [(21, .v .bool [])])] .z) .z) (.s .z (.s .z (.s (.s .z (.b (.l [(7, .v .bool []), (8, .box (.st 2) [1]), (9, .v (.int .i64) [])] [7, 8, 9, 10, 41] [(2, [(7, .v .bool []), (8, .box (.st 2) [1])])] (.s (.s (.j [] [(0, [(41, .v .bool [])])] .z) .z) .z)))) .z)))))
noncomputable def sp294 : Spec fam := ⟨[.v (.slice (.str)) [], .v (.int .i64) []], [.v (.st 2) [1], .v .bool []], fun a => dispatchref5_queue a.1 a.2.1⟩

def dispatchref5_Parse_l2 (t : Conf × Conf × Bool × Int) (x3 : Queue × Bool) (k : Int) : Option (Int ⊕ Int) :=
  (
    bif decide (k < (t.2.1.Queues.length : Int)) then
      (inb k t.2.1.Queues.length).bind fun i3 =>
      (t.2.1.Queues[i3]?).bind fun x4 =>
      some (Op.bytesLess x4.Path x3.1.Path)
    else
      some false).bind fun q1 =>
  bif q1 then
    some (.inl (w64 (k + 1)))
  else
    some (.inr k)

def dispatchref5_Parse_l1 (l : List (List UInt8)) (t : Conf × Conf × Bool × Int) : Option ((Conf × Conf × Bool × Int) ⊕ ((Conf × Int) ⊕ (Conf × Conf × Bool))) :=
  bif decide (t.2.2.2 < (l.length : Int)) then
    (
      (inb t.2.2.2 l.length).bind fun i =>
      (l[i]?).bind fun x =>
      (dispatchref5_words x).bind fun w =>
      bif (w.length : Int) == 0 then
        some (.inl (t.1, t.2.1, t.2.2.1))
      else
        bif (t.2.1.Labels.length : Int) == 0 then
          (inb 0 w.length).bind fun i1 =>
          (w[i1]?).bind fun x1 =>
          bif ! (x1 == ([108, 97, 98, 101, 108, 115] : List UInt8)) then
            some (.inr ((⟨[], []⟩ : Conf), 6))
          else
            bif decide ((w.length : Int) > 3) then
              some (.inr ((⟨[], []⟩ : Conf), 4))
            else
              (inS 1 (w.length : Int) w.length).bind fun p =>
              (app 16 [([] : List UInt8)] (sub w p.1 p.2)).bind fun l1 =>
              some (.inl (t.1, (⟨l1, t.2.1.Queues⟩ : Conf), t.2.2.1))
        else
          (
            bif (t.2.1.Queues.length : Int) == 16 then
              (inb 0 w.length).bind fun i2 =>
              (w[i2]?).bind fun x2 =>
              some (x2 == ([113, 117, 101, 117, 101] : List UInt8))
            else
              some false).bind fun q =>
          bif q then
            some (.inr ((⟨[], []⟩ : Conf), 4))
          else
            (dispatchref5_queue w (t.2.1.Labels.length : Int)).bind fun x3 =>
            bif ! x3.2 then
              some (.inr ((⟨[], []⟩ : Conf), 6))
            else
              (loop (dispatchref5_Parse_l2 t x3) 0).bind fun k1 =>
              (
                bif t.2.2.1 then
                  some true
                else
                  bif decide (k1 < (t.2.1.Queues.length : Int)) then
                    (inb k1 t.2.1.Queues.length).bind fun i4 =>
                    (t.2.1.Queues[i4]?).bind fun x5 =>
                    let twice := x5.Path == x3.1.Path
                    some twice
                  else
                    some false).bind fun twice1 =>
              (inS 0 k1 t.2.1.Queues.length).bind fun p1 =>
              (app 48 [] (sub t.2.1.Queues p1.1 p1.2)).bind fun l2 =>
              (app 48 l2 [x3.1]).bind fun l3 =>
              (inS k1 (t.2.1.Queues.length : Int) t.2.1.Queues.length).bind fun p2 =>
              (app 48 l3 (sub t.2.1.Queues p2.1 p2.2)).bind fun l4 =>
              some (.inl (t.1, (⟨t.2.1.Labels, l4⟩ : Conf), twice1)) : Option ((Conf × Conf × Bool) ⊕ (Conf × Int))).bind fun q0 =>
    match q0 with
    | .inl q2 =>
      some (.inl (q2.1, q2.2.1, q2.2.2, w64 (t.2.2.2 + 1)))
    | .inr q3 =>
      some (.inr (.inl (q3.1, q3.2)))
  else
    some (.inr (.inr (t.1, t.2.1, t.2.2.1)))

def dispatchref5_Parse (s : List UInt8) : Option (Conf × Int) :=
  bif decide ((s.length : Int) > 2000) then
    some ((⟨[], []⟩ : Conf), 5)
  else
    (dispatchref5_cut s 10).bind fun l =>
    (loop (dispatchref5_Parse_l1 l) ((⟨[], []⟩ : Conf), (⟨[], []⟩ : Conf), false, 0)).bind fun q0 =>
    match q0 with
    | .inl q4 =>
      some (q4.1, q4.2)
    | .inr q5 =>
      bif (q5.2.1.Labels.length : Int) == 0 then
        some ((⟨[], []⟩ : Conf), 6)
      else
        bif q5.2.2 then
          some ((⟨[], []⟩ : Conf), 7)
        else
          some (q5.2.1, 0)
def h207 : Hint := (.s .z (.s .z (.s .z (.s .z (.s .z (.s (.s .z (.b (.l [(2, .box (.st 3) [0, 1]), (4, .box (.st 3) [0, 1]), (5, .v .bool []), (7, .v (.int .i64) [])] [2, 3, 4, 5, 7, 8, 9, 10, 11, 61, 89] [(1, [(2, .box (.st 3) [0, 1]), (3, .v (.int .i64) [])]), (2, [(2, .box (.st 3) [0, 1]), (4, .box (.st 3) [0, 1]), (5, .v .bool [])])] (.s .z (.s (.j [2, 3, 4, 5, 8, 9, 10, 11, 61, 89] [(0, [(2, .box (.st 3) [0, 1]), (4, .box (.st 3) [0, 1]), (5, .v .bool [])]), (1, [(2, .box (.st 3) [0, 1]), (3, .v (.int .i64) [])])] (.b (.s .z (.s .z (.s .z (.s (.s (.j [] [(0, [(61, .v .bool [])])] .z) .z) (.s .z (.s .z (.s .z (.s (.b (.l [(11, .v (.int .i64) [])] [11, 89] [(4, [(11, .v (.int .i64) [])])] (.s (.s (.j [] [(0, [(89, .v .bool [])])] .z) .z) .z))) (.s (.j [5] [(0, [(5, .v .bool [])])] .z) .z))))))))))) .z))))) .z))))))
noncomputable def sp207 : Spec fam := ⟨[.v .str []], [.v (.st 3) [0, 1], .v (.int .i64) []], fun a => dispatchref5_Parse a.1⟩

def dispatchref19_config_l2 (s : State) (x : Conf × Int) (t1 : State × Output × Int) : Option ((State × Output × Int) ⊕ ((State × Output) ⊕ (State × Output))) :=
  bif decide (t1.2.2 < (s.Apps.length : Int)) then
    (
      (idx s.Apps t1.2.2).bind fun x6 =>
      (dispatchref10_Live x6).bind fun x7 =>
      bif x7 then
        (idx s.Apps t1.2.2).bind fun x8 =>
        (dispatchref6_Leaf x.1 x8.Queue).bind fun x9 =>
        some (! x9)
      else
        some false).bind fun q2 =>
    bif q2 then
      (dispatchref19_bad s 14).bind fun x10 =>
      some (.inr (.inl (x10.1, x10.2)))
    else
      some (.inl (t1.1, t1.2.1, w64 (t1.2.2 + 1)))
  else
    some (.inr (.inr (t1.1, t1.2.1)))

def dispatchref19_config_l1 (s : State) (x : Conf × Int) (t : State × Output × Int) : Option ((State × Output × Int) ⊕ ((State × Output) ⊕ (State × Output))) :=
  bif decide (t.2.2 < (s.Conf.Labels.length : Int)) then
    (inb t.2.2 x.1.Labels.length).bind fun i =>
    (x.1.Labels[i]?).bind fun x3 =>
    (idx s.Conf.Labels t.2.2).bind fun x4 =>
    bif ! (x3 == x4) then
      (dispatchref19_bad s 14).bind fun x5 =>
      some (.inr (.inl (x5.1, x5.2)))
    else
      some (.inl (t.1, t.2.1, w64 (t.2.2 + 1)))
  else
    some (.inr (.inr (t.1, t.2.1)))

def dispatchref19_config (s : State) (text : List UInt8) : Option (State × Output) :=
  (dispatchref5_Parse text).bind fun x =>
  (
    bif x.2 == 0 then
      (dispatchref6_Check x.1).bind fun e =>
      some e
    else
      some x.2).bind fun e1 =>
  bif e1 != 0 then
    (dispatchref19_bad s e1).bind fun x1 =>
    some (x1.1, x1.2)
  else
    bif decide ((x.1.Labels.length : Int) < (s.Conf.Labels.length : Int)) then
      (dispatchref19_bad s 14).bind fun x2 =>
      some (x2.1, x2.2)
    else
      (loop (dispatchref19_config_l1 s x) ((⟨⟨[], []⟩, [], [], [], [], [], 0, 0, 0⟩ : State), (⟨0, [], [], [], 0⟩ : Output), 0)).bind fun q0 =>
      match q0 with
      | .inl q =>
        some (q.1, q.2)
      | .inr q1 =>
        (loop (dispatchref19_config_l2 s x) (q1.1, q1.2, 0)).bind fun q0 =>
        match q0 with
        | .inl q3 =>
          some (q3.1, q3.2)
        | .inr q4 =>
          some ((⟨⟨x.1.Labels, x.1.Queues⟩, s.Nodes, s.Apps, s.Conts, s.Slots, s.Plans, s.Now, s.Epoch, s.Seq⟩ : State), (⟨0, [], [], [], 0⟩ : Output))
def h125 : Hint := (.s .z (.s .z (.s (.j [7] [(0, [(7, .v (.int .i64) [])])] .z) (.s .z (.s .z (.s (.s .z (.b (.l [(4, .box (.st 10) [0, 1, 2, 3, 4, 5, 6]), (5, .box (.st 13) [1, 2, 3]), (8, .v (.int .i64) [])] [4, 5, 8] [(1, [(4, .box (.st 10) []), (5, .box (.st 13) [1, 2, 3])]), (2, [(4, .box (.st 10) [0, 1, 2, 3, 4, 5, 6]), (5, .box (.st 13) [1, 2, 3])])] .z))) (.s (.s .z (.b (.l [(4, .box (.st 10) [0, 1, 2, 3, 4, 5, 6]), (5, .box (.st 13) [1, 2, 3]), (9, .v (.int .i64) [])] [4, 5, 9, 85] [(1, [(4, .box (.st 10) []), (5, .box (.st 13) [1, 2, 3])]), (4, [(4, .box (.st 10) [0, 1, 2, 3, 4, 5, 6]), (5, .box (.st 13) [1, 2, 3])])] (.s .z (.s (.b (.s (.j [] [(0, [(85, .v .bool [])])] .z) .z)) .z))))) .z)))))))
noncomputable def sp125 : Spec fam := ⟨[.v (.st 10) [], .v .str []], [.v (.st 10) [], .v (.st 13) [1, 2, 3]], fun a => dispatchref19_config a.1 a.2.1⟩

def dispatchref10_Cont_l1 (s : State) (id_ : Int) (t : Cont × Int) : Option ((Cont × Int) ⊕ ((Cont × Bool) ⊕ Cont)) :=
  bif decide (t.2 < (s.Conts.length : Int)) then
    (idx s.Conts t.2).bind fun x =>
    bif x.Id == id_ then
      (idx s.Conts t.2).bind fun x1 =>
      some (.inr (.inl (x1, true)))
    else
      some (.inl (t.1, w64 (t.2 + 1)))
  else
    some (.inr (.inr (t.1)))

def dispatchref10_Cont (s : State) (id_ : Int) : Option (Cont × Bool) :=
  (loop (dispatchref10_Cont_l1 s id_) ((⟨0, 0, 0, ⟨0, 0⟩, 0, 0, false, 0⟩ : Cont), 0)).bind fun q0 =>
  match q0 with
  | .inl q =>
    some (q.1, q.2)
  | .inr q1 =>
    some ((⟨0, 0, 0, ⟨0, 0⟩, 0, 0, false, 0⟩ : Cont), false)
def h31 : Hint := (.s .z (.s (.s .z (.b (.l [(4, .box (.st 7) []), (6, .v (.int .i64) [])] [4, 5, 6] [(1, [(4, .box (.st 7) []), (5, .v .bool [])]), (2, [(4, .box (.st 7) [])])] .z))) .z))
noncomputable def sp31 : Spec fam := ⟨[.v (.st 10) [], .v (.int .i64) []], [.v (.st 7) [], .v .bool []], fun a => dispatchref10_Cont a.1 a.2.1⟩

def dispatchref14_slot_l1 (s : State) (node : Int) (t : Slot × Int) : Option ((Slot × Int) ⊕ ((Slot × Bool) ⊕ Slot)) :=
  bif decide (t.2 < (s.Slots.length : Int)) then
    (idx s.Slots t.2).bind fun x =>
    bif x.Node == node then
      (idx s.Slots t.2).bind fun x1 =>
      some (.inr (.inl (x1, true)))
    else
      some (.inl (t.1, w64 (t.2 + 1)))
  else
    some (.inr (.inr (t.1)))

def dispatchref14_slot (s : State) (node : Int) : Option (Slot × Bool) :=
  (loop (dispatchref14_slot_l1 s node) ((⟨0, 0, 0⟩ : Slot), 0)).bind fun q0 =>
  match q0 with
  | .inl q =>
    some (q.1, q.2)
  | .inr q1 =>
    some ((⟨0, 0, 0⟩ : Slot), false)
def h116 : Hint := (.s .z (.s (.s .z (.b (.l [(4, .box (.st 8) []), (6, .v (.int .i64) [])] [4, 5, 6] [(1, [(4, .box (.st 8) []), (5, .v .bool [])]), (2, [(4, .box (.st 8) [])])] .z))) .z))
noncomputable def sp116 : Spec fam := ⟨[.v (.st 10) [], .v (.int .i64) []], [.v (.st 8) [], .v .bool []], fun a => dispatchref14_slot a.1 a.2.1⟩

def dispatchref1_Fits (a : Vec) (b : Vec) : Option Bool :=
  bif decide (a.Mem ≤ b.Mem) then
    some (decide (a.Cores ≤ b.Cores))
  else
    some false
def h42 : Hint := .z
noncomputable def sp42 : Spec fam := ⟨[.v (.st 0) [], .v (.st 0) []], [.v .bool []], fun a => dispatchref1_Fits a.1 a.2.1⟩

def dispatchref1_Less (a : Vec) (b : Vec) : Option Vec :=
  some (⟨imax (w64 (a.Mem - b.Mem)) 0, imax (w64 (a.Cores - b.Cores)) 0⟩ : Vec)
def h107 : Hint := .z
noncomputable def sp107 : Spec fam := ⟨[.v (.st 0) [], .v (.st 0) []], [.v (.st 0) []], fun a => dispatchref1_Less a.1 a.2.1⟩

def dispatchref1_Plus (a : Vec) (b : Vec) : Option Vec :=
  some (⟨w64 (a.Mem + b.Mem), w64 (a.Cores + b.Cores)⟩ : Vec)
def h109 : Hint := .z
noncomputable def sp109 : Spec fam := ⟨[.v (.st 0) [], .v (.st 0) []], [.v (.st 0) []], fun a => dispatchref1_Plus a.1 a.2.1⟩

def dispatchref8_Used_l1 (s : State) (id_ : Int) (t : Vec × Int) : Option ((Vec × Int) ⊕ Vec) :=
  bif decide (t.2 < (s.Conts.length : Int)) then
    (
      (idx s.Conts t.2).bind fun x =>
      bif x.Node == id_ then
        (idx s.Conts t.2).bind fun x1 =>
        (dispatchref1_Plus t.1 x1.Size).bind fun x2 =>
        some x2
      else
        some t.1).bind fun v =>
    some (.inl (v, w64 (t.2 + 1)))
  else
    some (.inr t.1)

def dispatchref8_Used (s : State) (id_ : Int) : Option Vec :=
  (loop (dispatchref8_Used_l1 s id_) ((⟨0, 0⟩ : Vec), 0)).bind fun v1 =>
  some v1
def h108 : Hint := (.s .z (.s .z (.s (.s .z (.b (.l [(5, .box (.st 0) []), (6, .v (.int .i64) [])] [5, 6] [(2, [(5, .box (.st 0) [])])] (.s .z (.s (.j [5] [(0, [(5, .box (.st 0) [])])] .z) .z))))) .z)))
noncomputable def sp108 : Spec fam := ⟨[.v (.st 10) [], .v (.int .i64) []], [.v (.st 0) []], fun a => dispatchref8_Used a.1 a.2.1⟩

def dispatchref8_Free (s : State) (id_ : Int) : Option Vec :=
  (dispatchref8_Find s id_).bind fun x =>
  (
    bif ! x.2 then
      some true
    else
      some (! x.1.Up)).bind fun q =>
  bif q then
    some (⟨0, 0⟩ : Vec)
  else
    (dispatchref8_Used s id_).bind fun x1 =>
    (dispatchref1_Less x.1.Cap x1).bind fun x2 =>
    some x2
def h43 : Hint := (.s .z (.s .z (.s (.s (.j [] [(0, [(19, .v .bool [])])] .z) .z) .z)))
noncomputable def sp43 : Spec fam := ⟨[.v (.st 10) [], .v (.int .i64) []], [.v (.st 0) []], fun a => dispatchref8_Free a.1 a.2.1⟩

def dispatchref6_Up_l1 (t : List UInt8 × List (List UInt8)) : Option ((List UInt8 × List (List UInt8)) ⊕ List (List UInt8)) :=
  bif ! (t.1 == ([] : List UInt8)) then
    (app 16 t.2 [t.1]).bind fun l =>
    (dispatchref6_above t.1).bind fun path1 =>
    some (.inl (path1, l))
  else
    some (.inr t.2)

def dispatchref6_Up (path : List UInt8) : Option (List (List UInt8)) :=
  (loop dispatchref6_Up_l1 (path, [])).bind fun l1 =>
  some l1
def h47 : Hint := (.s .z (.s .z (.s (.b (.l [(0, .v .str []), (3, .v (.slice (.str)) [0])] [0, 3] [(2, [(3, .v (.slice (.str)) [0])])] .z)) .z)))
noncomputable def sp47 : Spec fam := ⟨[.v .str []], [.v (.slice (.str)) [0]], fun a => dispatchref6_Up a.1⟩

def dispatchref11_below_l1 (path : List UInt8) (up : List (List UInt8)) (i : Int) : Option (Int ⊕ (Bool ⊕ Unit)) :=
  bif decide (i < (up.length : Int)) then
    (inb i up.length).bind fun i1 =>
    (up[i1]?).bind fun x =>
    bif x == path then
      some (.inr (.inl true))
    else
      some (.inl (w64 (i + 1)))
  else
    some (.inr (.inr ()))

def dispatchref11_below (leaf : List UInt8) (path : List UInt8) : Option Bool :=
  (dispatchref6_Up leaf).bind fun up =>
  (loop (dispatchref11_below_l1 path up) 0).bind fun q0 =>
  match q0 with
  | .inl q =>
    some q
  | .inr _ =>
    some false
def h114 : Hint := (.s .z (.s .z (.s (.s .z (.b (.l [(6, .v (.int .i64) [])] [4, 6] [(1, [(4, .v .bool [])]), (2, [])] .z))) .z)))
noncomputable def sp114 : Spec fam := ⟨[.v .str [], .v .str []], [.v .bool []], fun a => dispatchref11_below a.1 a.2.1⟩

def dispatchref11_used_l1 (s : State) (path : List UInt8) (label : Int) (all : Bool) (user : Int) (t : Vec × Int) : Option ((Vec × Int) ⊕ Vec) :=
  bif decide (t.2 < (s.Conts.length : Int)) then
    (
      (idx s.Conts t.2).bind fun x =>
      (dispatchref10_Find s x.App).bind fun x1 =>
      (
        bif x1.2 then
          (idx s.Conts t.2).bind fun x2 =>
          bif x2.Label == label then
            (dispatchref11_below x1.1.Queue path).bind fun x3 =>
            bif x3 then
              bif all then
                some true
              else
                some (x1.1.User == user)
            else
              some false
          else
            some false
        else
          some false).bind fun q =>
      bif q then
        (idx s.Conts t.2).bind fun x4 =>
        (dispatchref1_Plus t.1 x4.Size).bind fun x5 =>
        some x5
      else
        some t.1).bind fun v =>
    some (.inl (v, w64 (t.2 + 1)))
  else
    some (.inr t.1)

def dispatchref11_used (s : State) (path : List UInt8) (label : Int) (all : Bool) (user : Int) : Option Vec :=
  (loop (dispatchref11_used_l1 s path label all user) ((⟨0, 0⟩ : Vec), 0)).bind fun v1 =>
  some v1
def h97 : Hint := (.s .z (.s .z (.s (.s .z (.b (.l [(11, .box (.st 0) []), (12, .v (.int .i64) [])] [11, 12, 13, 59] [(2, [(11, .box (.st 0) [])])] (.s .z (.s (.j [11, 13, 59] [(0, [(11, .box (.st 0) [])])] (.b (.s .z (.s (.j [] [(0, [(59, .v .bool [])])] .z) .z)))) .z))))) .z)))
noncomputable def sp97 : Spec fam := ⟨[.v (.st 10) [], .v .str [], .v (.int .i64) [], .v .bool [], .v (.int .i64) []], [.v (.st 0) []], fun a => dispatchref11_used a.1 a.2.1 a.2.2.1 a.2.2.2.1 a.2.2.2.2.1⟩

def dispatchref11_Used (s : State) (path : List UInt8) (label : Int) : Option Vec :=
  (dispatchref11_used s path label true 0).bind fun x =>
  some x
def h32 : Hint := .z
noncomputable def sp32 : Spec fam := ⟨[.v (.st 10) [], .v .str [], .v (.int .i64) []], [.v (.st 0) []], fun a => dispatchref11_Used a.1 a.2.1 a.2.2.1⟩

def dispatchref7_Total_l1 (s : State) (label : Int) (t : Vec × Int) : Option ((Vec × Int) ⊕ Vec) :=
  bif decide (t.2 < (s.Nodes.length : Int)) then
    (
      (
        (idx s.Nodes t.2).bind fun x =>
        bif x.Up then
          (idx s.Nodes t.2).bind fun x1 =>
          some (x1.Label == label)
        else
          some false).bind fun q =>
      bif q then
        (idx s.Nodes t.2).bind fun x2 =>
        (dispatchref1_Plus t.1 x2.Cap).bind fun x3 =>
        some x3
      else
        some t.1).bind fun v =>
    some (.inl (v, w64 (t.2 + 1)))
  else
    some (.inr t.1)

def dispatchref7_Total (s : State) (label : Int) : Option Vec :=
  (loop (dispatchref7_Total_l1 s label) ((⟨0, 0⟩ : Vec), 0)).bind fun v1 =>
  some v1
def h75 : Hint := (.s .z (.s .z (.s (.s .z (.b (.l [(5, .box (.st 0) []), (6, .v (.int .i64) [])] [5, 6, 30] [(2, [(5, .box (.st 0) [])])] (.s .z (.s (.j [5, 30] [(0, [(5, .box (.st 0) [])])] (.b (.s (.j [] [(0, [(30, .v .bool [])])] .z) .z))) .z))))) .z)))
noncomputable def sp75 : Spec fam := ⟨[.v (.st 10) [], .v (.int .i64) []], [.v (.st 0) []], fun a => dispatchref7_Total a.1 a.2.1⟩

def dispatchref1_part (n : Int) : Option Bool :=
  bif decide (n ≥ 0) then
    some (decide (n ≤ 1125899906842624))
  else
    some false
def h268 : Hint := .z
noncomputable def sp268 : Spec fam := ⟨[.v (.int .i64) []], [.v .bool []], fun a => dispatchref1_part a.1⟩

def dispatchref1_may (a : Vec) : Option Bool :=
  (dispatchref1_part a.Mem).bind fun x =>
  bif x then
    (dispatchref1_part a.Cores).bind fun x1 =>
    some x1
  else
    some false
def h190 : Hint := .z
noncomputable def sp190 : Spec fam := ⟨[.v (.st 0) []], [.v .bool []], fun a => dispatchref1_may a.1⟩

def dispatchref1_scale (n : Int) (bp : Int) : Option Int :=
  some (w64 ((w64 ((w64 (Int.tdiv n 10000)) * bp)) + (w64 (Int.tdiv (w64 ((Int.tmod n 10000) * bp)) 10000))))
def h191 : Hint := .z
noncomputable def sp191 : Spec fam := ⟨[.v (.int .i64) [], .v (.int .i64) []], [.v (.int .i64) []], fun a => dispatchref1_scale a.1 a.2.1⟩

def dispatchref1_Scale (a : Vec) (bp : Int) : Option (Vec × Int) :=
  (
    (dispatchref1_may a).bind fun x =>
    bif ! x then
      some true
    else
      bif decide (bp < 0) then
        some true
      else
        some (decide (bp > 1000000))).bind fun q =>
  bif q then
    some ((⟨0, 0⟩ : Vec), 1)
  else
    (dispatchref1_scale a.Mem bp).bind fun x1 =>
    (dispatchref1_scale a.Cores bp).bind fun x2 =>
    (dispatchref1_may (⟨x1, x2⟩ : Vec)).bind fun x3 =>
    bif ! x3 then
      some ((⟨0, 0⟩ : Vec), 11)
    else
      some ((⟨x1, x2⟩ : Vec), 0)
def h112 : Hint := (.s .z (.s (.s (.j [] [(0, [(17, .v .bool [])])] .z) .z) .z))
noncomputable def sp112 : Spec fam := ⟨[.v (.st 0) [], .v (.int .i64) []], [.v (.st 0) [], .v (.int .i64) []], fun a => dispatchref1_Scale a.1 a.2.1⟩

def dispatchref7_down_l1 (s : State) (label : Int) (least : Bool) (up : List (List UInt8)) (t : Vec × Int) : Option ((Vec × Int) ⊕ Vec) :=
  bif decide (t.2 ≥ 0) then
    (inb t.2 up.length).bind fun i1 =>
    (up[i1]?).bind fun x2 =>
    (dispatchref6_Find s.Conf x2).bind fun x3 =>
    (inb label x3.1.Caps.length).bind fun i2 =>
    (x3.1.Caps[i2]?).bind fun x4 =>
    (
      bif least then
        (inb label x3.1.Caps.length).bind fun i3 =>
        (x3.1.Caps[i3]?).bind fun x5 =>
        some x5.Least
      else
        some x4.Most).bind fun bp =>
    (dispatchref1_Scale t.1 bp).bind fun x6 =>
    some (.inl (x6.1, w64 (t.2 - 1)))
  else
    some (.inr t.1)

def dispatchref7_down (s : State) (path : List UInt8) (label : Int) (least : Bool) : Option Vec :=
  (dispatchref6_Find s.Conf path).bind fun x =>
  (
    bif ! x.2 then
      some true
    else
      bif decide (label < 0) then
        some true
      else
        some (decide (label ≥ (s.Conf.Labels.length : Int)))).bind fun q =>
  bif q then
    some (⟨0, 0⟩ : Vec)
  else
    (dispatchref7_Total s label).bind fun x1 =>
    (dispatchref6_Up path).bind fun up =>
    let i := w64 ((up.length : Int) - 2)
    (loop (dispatchref7_down_l1 s label least up) (x1, i)).bind fun v =>
    some v
def h98 : Hint := (.s .z (.s .z (.s (.s (.j [] [(0, [(37, .v .bool [])])] .z) .z) (.s .z (.s .z (.s (.s .z (.b (.l [(11, .box (.st 0) []), (13, .v (.int .i64) [])] [11, 13, 14, 15, 16] [(2, [(11, .box (.st 0) [])])] (.s .z (.s (.b (.s .z (.s .z (.s (.j [16] [(0, [(16, .v (.int .i64) [])])] .z) .z)))) .z))))) .z))))))
noncomputable def sp98 : Spec fam := ⟨[.v (.st 10) [], .v .str [], .v (.int .i64) [], .v .bool []], [.v (.st 0) []], fun a => dispatchref7_down a.1 a.2.1 a.2.2.1 a.2.2.2.1⟩

def dispatchref7_Most (s : State) (path : List UInt8) (label : Int) : Option Vec :=
  (dispatchref7_down s path label false).bind fun x =>
  some x
def h48 : Hint := .z
noncomputable def sp48 : Spec fam := ⟨[.v (.st 10) [], .v .str [], .v (.int .i64) []], [.v (.st 0) []], fun a => dispatchref7_Most a.1 a.2.1 a.2.2.1⟩

def dispatchref7_Kept_l1 (s : State) (label : Int) (t : Vec × Int) : Option ((Vec × Int) ⊕ Vec) :=
  bif decide (t.2 < (s.Plans.length : Int)) then
    (
      (idx s.Plans t.2).bind fun x =>
      (
        bif x.Label == label then
          bif decide (x.From ≤ s.Now) then
            some (decide (s.Now < x.Until))
          else
            some false
        else
          some false).bind fun q =>
      bif q then
        (dispatchref1_Plus t.1 x.Need).bind fun x1 =>
        some x1
      else
        some t.1).bind fun v =>
    some (.inl (v, w64 (t.2 + 1)))
  else
    some (.inr t.1)

def dispatchref7_Kept (s : State) (label : Int) : Option Vec :=
  (loop (dispatchref7_Kept_l1 s label) ((⟨0, 0⟩ : Vec), 0)).bind fun v1 =>
  some v1
def h110 : Hint := (.s .z (.s .z (.s (.s .z (.b (.l [(5, .box (.st 0) []), (6, .v (.int .i64) [])] [5, 6, 7, 38] [(2, [(5, .box (.st 0) [])])] (.s .z (.s (.j [5, 7, 38] [(0, [(5, .box (.st 0) [])])] (.b (.s .z (.s (.j [] [(0, [(38, .v .bool [])])] .z) .z)))) .z))))) .z)))
noncomputable def sp110 : Spec fam := ⟨[.v (.st 10) [], .v (.int .i64) []], [.v (.st 0) []], fun a => dispatchref7_Kept a.1 a.2.1⟩

def dispatchref11_Room_l1 (s : State) (label : Int) (size : Vec) (up : List (List UInt8)) (i : Int) : Option (Int ⊕ (Bool ⊕ Unit)) :=
  bif decide (i < (up.length : Int)) then
    (inb i up.length).bind fun i1 =>
    (up[i1]?).bind fun x =>
    (dispatchref11_Used s x label).bind fun x1 =>
    (dispatchref1_Plus x1 size).bind fun x2 =>
    (inb i up.length).bind fun i2 =>
    (up[i2]?).bind fun x3 =>
    (dispatchref7_Most s x3 label).bind fun x4 =>
    (dispatchref1_Fits x2 x4).bind fun x5 =>
    bif ! x5 then
      some (.inr (.inl false))
    else
      (
        (inb i up.length).bind fun i3 =>
        (up[i3]?).bind fun x6 =>
        bif x6 == ([114, 111, 111, 116] : List UInt8) then
          (dispatchref7_Total s label).bind fun x7 =>
          (dispatchref7_Kept s label).bind fun x8 =>
          (dispatchref1_Less x7 x8).bind fun x9 =>
          (dispatchref1_Fits x2 x9).bind fun x10 =>
          some (! x10)
        else
          some false).bind fun q =>
      bif q then
        some (.inr (.inl false))
      else
        some (.inl (w64 (i + 1)))
  else
    some (.inr (.inr ()))

def dispatchref11_Room (s : State) (path : List UInt8) (label : Int) (size : Vec) : Option Bool :=
  (dispatchref6_Up path).bind fun up =>
  (loop (dispatchref11_Room_l1 s label size up) 0).bind fun q0 =>
  match q0 with
  | .inl q1 =>
    some q1
  | .inr _ =>
    some true
def h44 : Hint := (.s .z (.s .z (.s (.s .z (.b (.l [(10, .v (.int .i64) [])] [8, 10, 11, 55] [(1, [(8, .v .bool [])]), (2, [])] (.s .z (.s (.b (.s .z (.s .z (.s (.j [] [(0, [(55, .v .bool [])])] .z) .z)))) .z))))) .z)))
noncomputable def sp44 : Spec fam := ⟨[.v (.st 10) [], .v .str [], .v (.int .i64) [], .v (.st 0) []], [.v .bool []], fun a => dispatchref11_Room a.1 a.2.1 a.2.2.1 a.2.2.2.1⟩

def dispatchref9_Get_l1 (l : List Ask) (prio : Int) (t : Ask × Int) : Option ((Ask × Int) ⊕ ((Ask × Bool) ⊕ Ask)) :=
  bif decide (t.2 < (l.length : Int)) then
    (idx l t.2).bind fun x =>
    bif x.Prio == prio then
      (idx l t.2).bind fun x1 =>
      some (.inr (.inl (x1, true)))
    else
      some (.inl (t.1, w64 (t.2 + 1)))
  else
    some (.inr (.inr (t.1)))

def dispatchref9_Get (l : List Ask) (prio : Int) : Option (Ask × Bool) :=
  (loop (dispatchref9_Get_l1 l prio) ((⟨0, 0, ⟨0, 0⟩, 0, 0, 0, 0⟩ : Ask), 0)).bind fun q0 =>
  match q0 with
  | .inl q =>
    some (q.1, q.2)
  | .inr q1 =>
    some ((⟨0, 0, ⟨0, 0⟩, 0, 0, 0, 0⟩ : Ask), false)
def h192 : Hint := (.s .z (.s (.s .z (.b (.l [(4, .box (.st 5) []), (6, .v (.int .i64) [])] [4, 5, 6] [(1, [(4, .box (.st 5) []), (5, .v .bool [])]), (2, [(4, .box (.st 5) [])])] .z))) .z))
noncomputable def sp192 : Spec fam := ⟨[.v (.slice (.st 5)) [], .v (.int .i64) []], [.v (.st 5) [], .v .bool []], fun a => dispatchref9_Get a.1 a.2.1⟩

def dispatchref13_Level (a : Ask) (n : Node) : Option Int :=
  (
    bif ! n.Up then
      some true
    else
      some (n.Label != a.Label)).bind fun q =>
  bif q then
    some 4
  else
    (
      bif a.Rack == (-1) then
        some true
      else
        bif a.Node == n.Id then
          some true
        else
          bif a.Node == (-1) then
            some (a.Rack == n.Rack)
          else
            some false).bind fun q1 =>
    bif q1 then
      some 1
    else
      bif a.Rack == n.Rack then
        some 2
      else
        some 3
def h269 : Hint := (.s .z (.s (.b (.s (.j [] [(0, [(5, .v .bool [])])] .z) (.c .z (.s (.j [] [(0, [(16, .v .bool [])])] .z) .z)))) .z))
noncomputable def sp269 : Spec fam := ⟨[.v (.st 5) [], .v (.st 4) []], [.v (.int .i64) []], fun a => dispatchref13_Level a.1 a.2.1⟩

def dispatchref13_May (a : Ask) (n : Node) : Option Bool :=
  (dispatchref13_Level a n).bind fun x =>
  bif x == 1 then
    some true
  else
    bif x == 2 then
      some (decide (a.Missed ≥ 2))
    else
      bif x == 3 then
        some (decide (a.Missed ≥ 4))
      else
        some false
def h193 : Hint := .z
noncomputable def sp193 : Spec fam := ⟨[.v (.st 5) [], .v (.st 4) []], [.v .bool []], fun a => dispatchref13_May a.1 a.2.1⟩

def dispatchref7_Least (s : State) (path : List UInt8) (label : Int) : Option Vec :=
  (dispatchref7_down s path label true).bind fun x =>
  some x
def h35 : Hint := .z
noncomputable def sp35 : Spec fam := ⟨[.v (.st 10) [], .v .str [], .v (.int .i64) []], [.v (.st 0) []], fun a => dispatchref7_Least a.1 a.2.1 a.2.2.1⟩

def dispatchref14_due (s : State) (leaf : List UInt8) (a : Ask) : Option Bool :=
  (dispatchref11_Used s leaf a.Label).bind fun x =>
  (dispatchref1_Plus x a.Size).bind fun x1 =>
  (dispatchref7_Least s leaf a.Label).bind fun x2 =>
  (dispatchref1_Fits x1 x2).bind fun x3 =>
  some x3
def h194 : Hint := .z
noncomputable def sp194 : Spec fam := ⟨[.v (.st 10) [], .v .str [], .v (.st 5) []], [.v .bool []], fun a => dispatchref14_due a.1 a.2.1 a.2.2.1⟩

def dispatchref11_UserUsed (s : State) (path : List UInt8) (label : Int) (user : Int) : Option Vec :=
  (dispatchref11_used s path label false user).bind fun x =>
  some x
def h45 : Hint := .z
noncomputable def sp45 : Spec fam := ⟨[.v (.st 10) [], .v .str [], .v (.int .i64) [], .v (.int .i64) []], [.v (.st 0) []], fun a => dispatchref11_UserUsed a.1 a.2.1 a.2.2.1 a.2.2.2.1⟩

def dispatchref7_User (s : State) (path : List UInt8) (label : Int) : Option Vec :=
  (dispatchref6_Find s.Conf path).bind fun x =>
  bif ! x.2 then
    some (⟨0, 0⟩ : Vec)
  else
    (dispatchref7_Least s path label).bind fun x1 =>
    (dispatchref1_Scale x1 x.1.User).bind fun x2 =>
    some x2.1
def h46 : Hint := .z
noncomputable def sp46 : Spec fam := ⟨[.v (.st 10) [], .v .str [], .v (.int .i64) []], [.v (.st 0) []], fun a => dispatchref7_User a.1 a.2.1 a.2.2.1⟩

def dispatchref14_more (s : State) (leaf : List UInt8) (label : Int) (user : Int) : Option Bool :=
  (dispatchref11_UserUsed s leaf label user).bind fun x =>
  (dispatchref7_User s leaf label).bind fun x1 =>
  (dispatchref1_Fits x x1).bind fun x2 =>
  some x2
def h195 : Hint := .z
noncomputable def sp195 : Spec fam := ⟨[.v (.st 10) [], .v .str [], .v (.int .i64) [], .v (.int .i64) []], [.v .bool []], fun a => dispatchref14_more a.1 a.2.1 a.2.2.1 a.2.2.2.1⟩

def dispatchref14_NoSlot_l1 (s : State) (node : Int) (t : List Slot × Int) : Option ((List Slot × Int) ⊕ List Slot) :=
  bif decide (t.2 < (s.Slots.length : Int)) then
    (
      (idx s.Slots t.2).bind fun x =>
      bif x.Node != node then
        (idx s.Slots t.2).bind fun x1 =>
        (app 24 t.1 [x1]).bind fun l =>
        some l
      else
        some t.1).bind fun l1 =>
    some (.inl (l1, w64 (t.2 + 1)))
  else
    some (.inr t.1)

def dispatchref14_NoSlot (s : State) (node : Int) : Option State :=
  (loop (dispatchref14_NoSlot_l1 s node) ([], 0)).bind fun l2 =>
  some (⟨⟨s.Conf.Labels, s.Conf.Queues⟩, s.Nodes, s.Apps, s.Conts, l2, s.Plans, s.Now, s.Epoch, s.Seq⟩ : State)
def h196 : Hint := (.s .z (.s .z (.s (.s .z (.b (.l [(5, .v (.slice (.st 8)) [0]), (6, .v (.int .i64) [])] [5, 6] [(2, [(5, .v (.slice (.st 8)) [0])])] (.s .z (.s (.j [5] [(0, [(5, .v (.slice (.st 8)) [0])])] .z) .z))))) .z)))
noncomputable def sp196 : Spec fam := ⟨[.v (.st 10) [], .v (.int .i64) []], [.v (.st 10) [5]], fun a => dispatchref14_NoSlot a.1 a.2.1⟩

def dispatchref9_Take_l1 (l : List Ask) (prio : Int) (t : List Ask × Bool × Int) : Option ((List Ask × Bool × Int) ⊕ ((List Ask × Bool))) :=
  bif decide (t.2.2 < (l.length : Int)) then
    (
      (idx l t.2.2).bind fun x =>
      (
        bif x.Prio == prio then
          bif decide ((w64 (x.Count - 1)) ≤ 0) then
            some (.inr true)
          else
            some (.inl (true, (⟨x.Prio, x.Label, ⟨x.Size.Mem, x.Size.Cores⟩, w64 (x.Count - 1), x.Node, x.Rack, 0⟩ : Ask)))
        else
          some (.inl (t.2.1, x)) : Option ((Bool × Ask) ⊕ Bool)).bind fun q0 =>
      match q0 with
      | .inl q =>
        (app 64 t.1 [q.2]).bind fun l1 =>
        some (l1, q.1)
      | .inr is =>
        some (t.1, is)).bind fun q1 =>
    some (.inl (q1.1, q1.2, w64 (t.2.2 + 1)))
  else
    some (.inr (t.1, t.2.1))

def dispatchref9_Take (l : List Ask) (prio : Int) : Option (List Ask × Bool) :=
  (loop (dispatchref9_Take_l1 l prio) ([], false, 0)).bind fun q2 =>
  some (q2.1, q2.2)
def h270 : Hint := (.s .z (.s .z (.s .z (.s (.s .z (.b (.l [(6, .v (.slice (.st 5)) [0]), (7, .v .bool []), (8, .v (.int .i64) [])] [6, 7, 8, 9] [(2, [(6, .v (.slice (.st 5)) [0]), (7, .v .bool [])])] (.s .z (.s (.j [6, 7, 9] [(0, [(6, .v (.slice (.st 5)) [0]), (7, .v .bool [])])] (.b (.s .z (.s (.j [7, 9] [(0, [(7, .v .bool []), (9, .box (.st 5) [])]), (3, [(7, .v .bool [])])] .z) .z)))) .z))))) .z))))
noncomputable def sp270 : Spec fam := ⟨[.v (.slice (.st 5)) [], .v (.int .i64) []], [.v (.slice (.st 5)) [0], .v .bool []], fun a => dispatchref9_Take a.1 a.2.1⟩

def dispatchref14_grant_l1 (s : State) (k : Int) : Option (Int ⊕ Int) :=
  (
    bif decide (k < (s.Conts.length : Int)) then
      (idx s.Conts k).bind fun x2 =>
      some (decide (x2.Id < (w64 ((shlK .i64 s.Epoch 20) + (w64 (s.Seq + 1))))))
    else
      some false).bind fun q =>
  bif q then
    some (.inl (w64 (k + 1)))
  else
    some (.inr k)

def dispatchref14_grant (s : State) (n : Node) (a : App) (x : Ask) : Option (State × Cont) :=
  (dispatchref9_Take a.Asks x.Prio).bind fun x1 =>
  (
    bif a.State == 1 then
      some (⟨a.Id, 2, a.Queue, a.User, a.Prio, ⟨a.Master.Mem, a.Master.Cores⟩, [], s.Now, 0, a.Grants, a.Kills, a.Told, a.Lost⟩ : App)
    else
      (app 8 [] a.Grants).bind fun l =>
      (app 8 l [w64 ((shlK .i64 s.Epoch 20) + (w64 (s.Seq + 1)))]).bind fun l1 =>
      some (⟨a.Id, a.State, a.Queue, a.User, a.Prio, ⟨a.Master.Mem, a.Master.Cores⟩, x1.1, a.Seen, a.Beat, l1, a.Kills, a.Told, a.Lost⟩ : App)).bind fun a1 =>
  (loop (dispatchref14_grant_l1 s) 0).bind fun k1 =>
  (slc s.Conts 0 k1).bind fun l2 =>
  (app 72 [] l2).bind fun l3 =>
  (app 72 l3 [(⟨w64 ((shlK .i64 s.Epoch 20) + (w64 (s.Seq + 1))), a.Id, n.Id, ⟨x.Size.Mem, x.Size.Cores⟩, x.Prio, n.Label, a.State == 1, 0⟩ : Cont)]).bind fun l4 =>
  (slc s.Conts k1 (s.Conts.length : Int)).bind fun l5 =>
  (app 72 l4 l5).bind fun l6 =>
  (dispatchref10_Put (⟨⟨s.Conf.Labels, s.Conf.Queues⟩, s.Nodes, s.Apps, l6, s.Slots, s.Plans, s.Now, s.Epoch, w64 (s.Seq + 1)⟩ : State) a1).bind fun x3 =>
  some (x3, (⟨w64 ((shlK .i64 s.Epoch 20) + (w64 (s.Seq + 1))), a.Id, n.Id, ⟨x.Size.Mem, x.Size.Cores⟩, x.Prio, n.Label, a.State == 1, 0⟩ : Cont))
def h197 : Hint := (.s .z (.s .z (.s .z (.s .z (.s (.j [6] [(0, [(6, .box (.st 6) [7])])] .z) (.s .z (.s (.b (.l [(11, .v (.int .i64) [])] [11, 78] [(2, [(11, .v (.int .i64) [])])] (.s (.s (.j [] [(0, [(78, .v .bool [])])] .z) .z) .z))) .z)))))))
noncomputable def sp197 : Spec fam := ⟨[.v (.st 10) [], .v (.st 4) [], .v (.st 6) [], .v (.st 5) []], [.v (.st 10) [3], .v (.st 7) []], fun a => dispatchref14_grant a.1 a.2.1 a.2.2.1 a.2.2.2.1⟩

def dispatchref14_kept (s : State) (n : Node) (x : Slot) : Option (State × Int × Cont × Bool) :=
  (dispatchref10_Find s x.App).bind fun x1 =>
  (dispatchref9_Get x1.1.Asks x.Prio).bind fun x2 =>
  (
    bif ! x1.2 then
      some true
    else
      (dispatchref10_Live x1.1).bind fun x3 =>
      bif ! x3 then
        some true
      else
        bif ! x2.2 then
          some true
        else
          (dispatchref13_May x2.1 n).bind fun x4 =>
          bif ! x4 then
            some true
          else
            (dispatchref1_Fits x2.1.Size n.Cap).bind fun x5 =>
            bif ! x5 then
              some true
            else
              (dispatchref14_due s x1.1.Queue x2.1).bind fun x6 =>
              bif ! x6 then
                some true
              else
                (dispatchref14_more s x1.1.Queue n.Label x1.1.User).bind fun x7 =>
                some (! x7)).bind fun q =>
  bif q then
    (dispatchref14_NoSlot s n.Id).bind fun x8 =>
    some (x8, 0, (⟨0, 0, 0, ⟨0, 0⟩, 0, 0, false, 0⟩ : Cont), false)
  else
    (
      (dispatchref8_Free s n.Id).bind fun x9 =>
      (dispatchref1_Fits x2.1.Size x9).bind fun x10 =>
      bif ! x10 then
        some true
      else
        (dispatchref11_Room s x1.1.Queue n.Label x2.1.Size).bind fun x11 =>
        some (! x11)).bind fun q1 =>
    bif q1 then
      some (s, 3, (⟨0, 0, 0, ⟨0, 0⟩, 0, 0, false, 0⟩ : Cont), true)
    else
      (dispatchref14_NoSlot s n.Id).bind fun x12 =>
      (dispatchref14_grant x12 n x1.1 x2.1).bind fun x13 =>
      some (x13.1, 1, x13.2, true)
def h117 : Hint := (.s .z (.s .z (.s .z (.s (.s (.j [] [(0, [(74, .v .bool [])])] .z) .z) (.s (.s (.j [] [(0, [(98, .v .bool [])])] .z) .z) .z)))))
noncomputable def sp117 : Spec fam := ⟨[.v (.st 10) [], .v (.st 4) [], .v (.st 8) []], [.v (.st 10) [], .v (.int .i64) [], .v (.st 7) [], .v .bool []], fun a => dispatchref14_kept a.1 a.2.1 a.2.2.1⟩

def dispatchref1_wide (a : Int) (b : Int) : Option (Int × Int) :=
  let mid := w64 ((w64 ((shrK .i64 a 25) * (andK .i64 b 33554431))) + (w64 ((andK .i64 a 33554431) * (shrK .i64 b 25))))
  let low := w64 ((w64 ((andK .i64 a 33554431) * (andK .i64 b 33554431))) + (shlK .i64 (andK .i64 mid 33554431) 25))
  some (w64 ((w64 ((w64 ((shrK .i64 a 25) * (shrK .i64 b 25))) + (shrK .i64 mid 25))) + (shrK .i64 low 50)), andK .i64 low 1125899906842623)
def h384 : Hint := .z
noncomputable def sp384 : Spec fam := ⟨[.v (.int .i64) [], .v (.int .i64) []], [.v (.int .i64) [], .v (.int .i64) []], fun a => dispatchref1_wide a.1 a.2.1⟩

def dispatchref1_order (x : Frac) (y : Frac) : Option Int :=
  (
    bif x.A == 0 then
      some (⟨x.A, 1⟩ : Frac)
    else
      some x).bind fun x1 =>
  (
    bif y.A == 0 then
      some (⟨y.A, 1⟩ : Frac)
    else
      some y).bind fun y1 =>
  (
    bif x1.P == 0 then
      some true
    else
      some (y1.P == 0)).bind fun q =>
  bif q then
    (
      bif x1.P == 0 then
        some (y1.P == 0)
      else
        some false).bind fun q1 =>
    bif q1 then
      some 0
    else
      bif x1.P == 0 then
        some 1
      else
        some (-1)
  else
    (dispatchref1_wide x1.A y1.P).bind fun x2 =>
    (dispatchref1_wide y1.A x1.P).bind fun x3 =>
    (
      bif decide (x2.1 < x3.1) then
        some true
      else
        bif x2.1 == x3.1 then
          some (decide (x2.2 < x3.2))
        else
          some false).bind fun q2 =>
    bif q2 then
      some (-1)
    else
      (
        bif x2.1 == x3.1 then
          some (x2.2 == x3.2)
        else
          some false).bind fun q3 =>
      bif q3 then
        some 0
      else
        some 1
def h379 : Hint := (.s .z (.s (.j [2] [(0, [(2, .box (.st 14) [])])] .z) (.s (.j [3] [(0, [(3, .box (.st 14) [])])] .z) (.s (.s (.j [] [(0, [(24, .v .bool [])])] .z) (.c (.s (.b (.s (.j [] [(0, [(25, .v .bool [])])] .z) .z)) .z) .z)) (.s .z (.s .z (.s (.b (.s (.j [] [(0, [(54, .v .bool [])])] .z) (.c .z (.s (.j [] [(0, [(68, .v .bool [])])] .z) .z)))) .z)))))))
noncomputable def sp379 : Spec fam := ⟨[.v (.st 14) [], .v (.st 14) []], [.v (.int .i64) []], fun a => dispatchref1_order a.1 a.2.1⟩

def dispatchref1_load (a : Vec) (p : Vec) : Option Frac :=
  (dispatchref1_order (⟨a.Mem, p.Mem⟩ : Frac) (⟨a.Cores, p.Cores⟩ : Frac)).bind fun x =>
  bif decide (x < 0) then
    some (⟨a.Cores, p.Cores⟩ : Frac)
  else
    some (⟨a.Mem, p.Mem⟩ : Frac)
def h380 : Hint := .z
noncomputable def sp380 : Spec fam := ⟨[.v (.st 0) [], .v (.st 0) []], [.v (.st 14) []], fun a => dispatchref1_load a.1 a.2.1⟩

def dispatchref1_Order (a : Vec) (p : Vec) (b : Vec) (q : Vec) : Option Int :=
  (
    (dispatchref1_may a).bind fun x =>
    bif ! x then
      some true
    else
      (dispatchref1_may p).bind fun x1 =>
      bif ! x1 then
        some true
      else
        (dispatchref1_may b).bind fun x2 =>
        bif ! x2 then
          some true
        else
          (dispatchref1_may q).bind fun x3 =>
          some (! x3)).bind fun q1 =>
  bif q1 then
    some 0
  else
    (dispatchref1_load a p).bind fun x4 =>
    (dispatchref1_load b q).bind fun x5 =>
    (dispatchref1_order x4 x5).bind fun x6 =>
    some x6
def h372 : Hint := (.s .z (.s (.s (.j [] [(0, [(26, .v .bool [])])] .z) .z) .z))
noncomputable def sp372 : Spec fam := ⟨[.v (.st 0) [], .v (.st 0) [], .v (.st 0) [], .v (.st 0) []], [.v (.int .i64) []], fun a => dispatchref1_Order a.1 a.2.1 a.2.2.1 a.2.2.2.1⟩

def dispatchref12_ahead (s : State) (a : List UInt8) (b : List UInt8) (label : Int) : Option Bool :=
  (dispatchref11_Used s a label).bind fun x =>
  (dispatchref7_Least s a label).bind fun x1 =>
  (dispatchref11_Used s b label).bind fun x2 =>
  (dispatchref7_Least s b label).bind fun x3 =>
  (dispatchref1_Order x x1 x2 x3).bind fun o =>
  bif decide (o < 0) then
    some true
  else
    bif o == 0 then
      some (Op.bytesLess a b)
    else
      some false
def h360 : Hint := .z
noncomputable def sp360 : Spec fam := ⟨[.v (.st 10) [], .v .str [], .v .str [], .v (.int .i64) []], [.v .bool []], fun a => dispatchref12_ahead a.1 a.2.1 a.2.2.1 a.2.2.2.1⟩

def dispatchref12_Kids_l2 (s : State) (label : Int) (l : List (List UInt8)) (t : List (List UInt8) × Int) (k : Int) : Option (Int ⊕ Int) :=
  (
    bif decide (k < (t.1.length : Int)) then
      (inb t.2 l.length).bind fun i =>
      (l[i]?).bind fun x =>
      (inb k t.1.length).bind fun i1 =>
      (t.1[i1]?).bind fun x1 =>
      (dispatchref12_ahead s x x1 label).bind fun x2 =>
      some (! x2)
    else
      some false).bind fun q =>
  bif q then
    some (.inl (w64 (k + 1)))
  else
    some (.inr k)

def dispatchref12_Kids_l1 (s : State) (label : Int) (l : List (List UInt8)) (t : List (List UInt8) × Int) : Option ((List (List UInt8) × Int) ⊕ List (List UInt8)) :=
  bif decide (t.2 < (l.length : Int)) then
    (loop (dispatchref12_Kids_l2 s label l t) 0).bind fun k1 =>
    (inS 0 k1 t.1.length).bind fun p =>
    (app 16 [] (sub t.1 p.1 p.2)).bind fun l1 =>
    (inb t.2 l.length).bind fun i2 =>
    (l[i2]?).bind fun x3 =>
    (app 16 l1 [x3]).bind fun l2 =>
    (inS k1 (t.1.length : Int) t.1.length).bind fun p1 =>
    (app 16 l2 (sub t.1 p1.1 p1.2)).bind fun l3 =>
    some (.inl (l3, w64 (t.2 + 1)))
  else
    some (.inr t.1)

def dispatchref12_Kids (s : State) (path : List UInt8) (label : Int) : Option (List (List UInt8)) :=
  (dispatchref6_Kids s.Conf path).bind fun l =>
  (loop (dispatchref12_Kids_l1 s label l) ([], 0)).bind fun out =>
  some out
def h327 : Hint := (.s .z (.s .z (.s .z (.s (.s .z (.b (.l [(8, .v (.slice (.str)) [0]), (9, .v (.int .i64) [])] [8, 9, 10, 39] [(2, [(8, .v (.slice (.str)) [0])])] (.s .z (.s (.b (.s .z (.s (.b (.l [(10, .v (.int .i64) [])] [10, 39] [(4, [(10, .v (.int .i64) [])])] (.s (.s (.j [] [(0, [(39, .v .bool [])])] .z) .z) .z))) .z))) .z))))) .z))))
noncomputable def sp327 : Spec fam := ⟨[.v (.st 10) [], .v .str [], .v (.int .i64) []], [.v (.slice (.str)) [0]], fun a => dispatchref12_Kids a.1 a.2.1 a.2.2.1⟩

def dispatchref12_leaves_s_l1 (s : State) (label : Int) (self : State → (List UInt8) → Int → Option (List (List UInt8))) (l : List (List UInt8)) (t : List (List UInt8) × Int) : Option ((List (List UInt8) × Int) ⊕ List (List UInt8)) :=
  bif decide (t.2 < (l.length : Int)) then
    (inb t.2 l.length).bind fun i =>
    (l[i]?).bind fun x =>
    (self s x label).bind fun x1 =>
    (app 16 t.1 x1).bind fun l1 =>
    some (.inl (l1, w64 (t.2 + 1)))
  else
    some (.inr t.1)

def dispatchref12_leaves_s (self : State → (List UInt8) → Int → Option (List (List UInt8))) (s : State) (path : List UInt8) (label : Int) : Option (List (List UInt8)) :=
  (dispatchref12_Kids s path label).bind fun l =>
  bif (l.length : Int) == 0 then
    some [path]
  else
    (loop (dispatchref12_leaves_s_l1 s label self l) ([], 0)).bind fun out =>
    some out

def dispatchref12_leaves_r : Nat → State → (List UInt8) → Int → Option (List (List UInt8))
  | 0 => fun _ _ _ => none
  | n + 1 => dispatchref12_leaves_s (dispatchref12_leaves_r n)

def dispatchref12_leaves (a0 : State) (a1 : List UInt8) (a2 : Int) : Option (List (List UInt8)) := dispatchref12_leaves_r 64 a0 a1 a2
def h271 : Hint := (.s .z (.s .z (.s .z (.s .z (.s (.s .z (.b (.l [(8, .v (.slice (.str)) [0]), (9, .v (.int .i64) [])] [8, 9] [(2, [(8, .v (.slice (.str)) [0])])] .z))) .z)))))
noncomputable def sp271 : Spec fam := ⟨[.v (.st 10) [], .v .str [], .v (.int .i64) []], [.v (.slice (.str)) [0]], fun a => dispatchref12_leaves a.1 a.2.1 a.2.2.1⟩

noncomputable def sp271_r (n : Nat) : Spec fam := ⟨[.v (.st 10) [], .v .str [], .v (.int .i64) []], [.v (.slice (.str)) [0]], fun a => dispatchref12_leaves_r n a.1 a.2.1 a.2.2.1⟩

def dispatchref12_Leaves (s : State) (label : Int) : Option (List (List UInt8)) :=
  (dispatchref12_leaves s ([114, 111, 111, 116] : List UInt8) label).bind fun x =>
  some x
def h198 : Hint := .z
noncomputable def sp198 : Spec fam := ⟨[.v (.st 10) [], .v (.int .i64) []], [.v (.slice (.str)) [0]], fun a => dispatchref12_Leaves a.1 a.2.1⟩

def dispatchref12_Apps_l3 (out1 : List App) (t1 : List Int × Int) : Option ((List Int × Int) ⊕ List Int) :=
  bif decide (t1.2 < (out1.length : Int)) then
    (inb t1.2 out1.length).bind fun i1 =>
    (out1[i1]?).bind fun x3 =>
    (app 8 t1.1 [x3.Id]).bind fun l3 =>
    some (.inl (l3, w64 (t1.2 + 1)))
  else
    some (.inr t1.1)

def dispatchref12_Apps_l2 (t : List App × Int) (x : App) (k : Int) : Option (Int ⊕ Int) :=
  (
    bif decide (k < (t.1.length : Int)) then
      (inb k t.1.length).bind fun i =>
      (t.1[i]?).bind fun x2 =>
      some (decide (x2.Prio ≥ x.Prio))
    else
      some false).bind fun q1 =>
  bif q1 then
    some (.inl (w64 (k + 1)))
  else
    some (.inr k)

def dispatchref12_Apps_l1 (s : State) (queue : List UInt8) (t : List App × Int) : Option ((List App × Int) ⊕ List App) :=
  bif decide (t.2 < (s.Apps.length : Int)) then
    (
      (idx s.Apps t.2).bind fun x =>
      (
        (dispatchref10_Live x).bind fun x1 =>
        bif ! x1 then
          some true
        else
          some (! (x.Queue == queue))).bind fun q =>
      bif q then
        some t.1
      else
        (loop (dispatchref12_Apps_l2 t x) 0).bind fun k1 =>
        (inS 0 k1 t.1.length).bind fun p =>
        (app 200 [] (sub t.1 p.1 p.2)).bind fun l =>
        (app 200 l [x]).bind fun l1 =>
        (inS k1 (t.1.length : Int) t.1.length).bind fun p1 =>
        (app 200 l1 (sub t.1 p1.1 p1.2)).bind fun l2 =>
        some l2).bind fun out =>
    some (.inl (out, w64 (t.2 + 1)))
  else
    some (.inr t.1)

def dispatchref12_Apps (s : State) (queue : List UInt8) : Option (List Int) :=
  (loop (dispatchref12_Apps_l1 s queue) ([], 0)).bind fun out1 =>
  (loop (dispatchref12_Apps_l3 out1) ([], 0)).bind fun l4 =>
  some l4
def h199 : Hint := (.s .z (.s .z (.s (.s .z (.b (.l [(5, .v (.slice (.st 6)) [0]), (6, .v (.int .i64) [])] [5, 6, 7, 8, 9, 32, 46] [(2, [(5, .v (.slice (.st 6)) [0])])] (.s .z (.s (.j [5, 7, 8, 9, 32, 46] [(0, [(5, .v (.slice (.st 6)) [0])])] (.b (.s .z (.s (.s (.j [] [(0, [(32, .v .bool [])])] .z) .z) (.s .z (.s (.b (.l [(8, .v (.int .i64) [])] [8, 46] [(4, [(8, .v (.int .i64) [])])] (.s (.s (.j [] [(0, [(46, .v .bool [])])] .z) .z) .z))) .z)))))) .z))))) (.s .z (.s (.s .z (.b (.l [(10, .v (.slice (.int .i64)) [0]), (11, .v (.int .i64) [])] [10, 11] [(6, [(10, .v (.slice (.int .i64)) [0])])] .z))) .z)))))
noncomputable def sp199 : Spec fam := ⟨[.v (.st 10) [], .v .str []], [.v (.slice (.int .i64)) [0]], fun a => dispatchref12_Apps a.1 a.2.1⟩

def dispatchref9_Miss_l1 (prio : Int) (t : List Ask × Int) : Option ((List Ask × Int) ⊕ List Ask) :=
  bif decide (t.2 < (t.1.length : Int)) then
    (
      (inb t.2 t.1.length).bind fun i =>
      (t.1[i]?).bind fun x =>
      bif x.Prio == prio then
        (inb t.2 t.1.length).bind fun i1 =>
        (t.1[i1]?).bind fun x1 =>
        (inb t.2 t.1.length).bind fun i2 =>
        (t.1[i2]?).bind fun x2 =>
        some (List.set t.1 i2 (⟨x2.Prio, x2.Label, ⟨x2.Size.Mem, x2.Size.Cores⟩, x2.Count, x2.Node, x2.Rack, imin (w64 (x1.Missed + 1)) 100⟩ : Ask))
      else
        some t.1).bind fun out =>
    some (.inl (out, w64 (t.2 + 1)))
  else
    some (.inr t.1)

def dispatchref9_Miss (l : List Ask) (prio : Int) : Option (List Ask) :=
  (app 64 [] l).bind fun l1 =>
  (loop (dispatchref9_Miss_l1 prio) (l1, 0)).bind fun out1 =>
  some out1
def h272 : Hint := (.s .z (.s .z (.s (.s .z (.b (.l [(5, .row (.st 5) false), (6, .v (.int .i64) [])] [5, 6] [(2, [(5, .row (.st 5) false)])] (.s .z (.s (.j [5] [(0, [(5, .row (.st 5) false)])] .z) .z))))) .z)))
noncomputable def sp272 : Spec fam := ⟨[.v (.slice (.st 5)) [], .v (.int .i64) []], [.v (.slice (.st 5)) [0]], fun a => dispatchref9_Miss a.1 a.2.1⟩

def dispatchref14_keeps_l1 (s : State) (app_ : Int) (prio : Int) (i : Int) : Option (Int ⊕ (Bool ⊕ Unit)) :=
  bif decide (i < (s.Slots.length : Int)) then
    (
      (idx s.Slots i).bind fun x =>
      bif x.App == app_ then
        (idx s.Slots i).bind fun x1 =>
        some (x1.Prio == prio)
      else
        some false).bind fun q =>
    bif q then
      some (.inr (.inl true))
    else
      some (.inl (w64 (i + 1)))
  else
    some (.inr (.inr ()))

def dispatchref14_keeps (s : State) (app_ : Int) (prio : Int) : Option Bool :=
  (loop (dispatchref14_keeps_l1 s app_ prio) 0).bind fun q0 =>
  match q0 with
  | .inl q1 =>
    some q1
  | .inr _ =>
    some false
def h273 : Hint := (.s .z (.s (.s .z (.b (.l [(7, .v (.int .i64) [])] [6, 7, 32] [(1, [(6, .v .bool [])]), (2, [])] (.s .z (.s (.b (.s (.j [] [(0, [(32, .v .bool [])])] .z) .z)) .z))))) .z))
noncomputable def sp273 : Spec fam := ⟨[.v (.st 10) [], .v (.int .i64) [], .v (.int .i64) []], [.v .bool []], fun a => dispatchref14_keeps a.1 a.2.1 a.2.2.1⟩

def dispatchref14_hold_l1 (s : State) (x : Slot) (k : Int) : Option (Int ⊕ Int) :=
  (
    bif decide (k < (s.Slots.length : Int)) then
      (idx s.Slots k).bind fun x1 =>
      some (decide (x1.Node < x.Node))
    else
      some false).bind fun q =>
  bif q then
    some (.inl (w64 (k + 1)))
  else
    some (.inr k)

def dispatchref14_hold (s : State) (x : Slot) : Option State :=
  (loop (dispatchref14_hold_l1 s x) 0).bind fun k1 =>
  (slc s.Slots 0 k1).bind fun l =>
  (app 24 [] l).bind fun l1 =>
  (app 24 l1 [x]).bind fun l2 =>
  (slc s.Slots k1 (s.Slots.length : Int)).bind fun l3 =>
  (app 24 l2 l3).bind fun l4 =>
  some (⟨⟨s.Conf.Labels, s.Conf.Queues⟩, s.Nodes, s.Apps, s.Conts, l4, s.Plans, s.Now, s.Epoch, s.Seq⟩ : State)
def h274 : Hint := (.s .z (.s .z (.s (.b (.l [(5, .v (.int .i64) [])] [5, 22] [(2, [(5, .v (.int .i64) [])])] (.s (.s (.j [] [(0, [(22, .v .bool [])])] .z) .z) .z))) .z)))
noncomputable def sp274 : Spec fam := ⟨[.v (.st 10) [], .v (.st 8) []], [.v (.st 10) [5]], fun a => dispatchref14_hold a.1 a.2.1⟩

def dispatchref14_ask (s : State) (n : Node) (a : App) (x : Ask) (first : Bool) : Option (State × Int × Cont) :=
  (dispatchref14_due s a.Queue x).bind fun is =>
  (
    (dispatchref13_Level x n).bind fun x1 =>
    bif x1 == 4 then
      some true
    else
      (dispatchref1_Fits x.Size n.Cap).bind fun x2 =>
      bif ! x2 then
        some true
      else
        bif first then
          some (! is)
        else
          some false).bind fun q =>
  bif q then
    some (s, 0, (⟨0, 0, 0, ⟨0, 0⟩, 0, 0, false, 0⟩ : Cont))
  else
    (dispatchref13_May x n).bind fun x3 =>
    bif ! x3 then
      (
        bif first == is then
          (dispatchref9_Miss a.Asks x.Prio).bind fun x4 =>
          (dispatchref10_Put s (⟨a.Id, a.State, a.Queue, a.User, a.Prio, ⟨a.Master.Mem, a.Master.Cores⟩, x4, a.Seen, a.Beat, a.Grants, a.Kills, a.Told, a.Lost⟩ : App)).bind fun x5 =>
          some x5
        else
          some s).bind fun s1 =>
      some (s1, 0, (⟨0, 0, 0, ⟨0, 0⟩, 0, 0, false, 0⟩ : Cont))
    else
      (dispatchref11_Room s a.Queue n.Label x.Size).bind fun x6 =>
      bif ! x6 then
        some (s, 0, (⟨0, 0, 0, ⟨0, 0⟩, 0, 0, false, 0⟩ : Cont))
      else
        (dispatchref8_Free s n.Id).bind fun x7 =>
        (dispatchref1_Fits x.Size x7).bind fun x8 =>
        bif x8 then
          (dispatchref14_grant s n a x).bind fun x9 =>
          some (x9.1, 1, x9.2)
        else
          (
            bif first then
              (dispatchref14_keeps s a.Id x.Prio).bind fun x10 =>
              some (! x10)
            else
              some false).bind fun q1 =>
          bif q1 then
            (dispatchref14_hold s (⟨n.Id, a.Id, x.Prio⟩ : Slot)).bind fun x11 =>
            some (x11, 2, (⟨0, 0, 0, ⟨0, 0⟩, 0, 0, false, 0⟩ : Cont))
          else
            some (s, 0, (⟨0, 0, 0, ⟨0, 0⟩, 0, 0, false, 0⟩ : Cont))
def h200 : Hint := (.s .z (.s .z (.s (.s (.j [] [(0, [(39, .v .bool [])])] .z) .z) (.s (.s .z (.c (.s (.j [5, 7] [(0, [(5, .box (.st 10) [])])] .z) .z) .z)) (.s .z (.s .z (.s (.s (.j [] [(0, [(97, .v .bool [])])] .z) .z) .z)))))))
noncomputable def sp200 : Spec fam := ⟨[.v (.st 10) [], .v (.st 4) [], .v (.st 6) [], .v (.st 5) [], .v .bool []], [.v (.st 10) [], .v (.int .i64) [], .v (.st 7) []], fun a => dispatchref14_ask a.1 a.2.1 a.2.2.1 a.2.2.2.1 a.2.2.2.2.1⟩

def dispatchref14_round_l3 (n : Node) (first : Bool) (ids : List Int) (t1 : State × State × Cont × Int) (x2 : App × Bool) (t2 : State × State × Cont × Int) : Option ((State × State × Cont × Int) ⊕ ((State × Int × Cont) ⊕ (State × State × Cont))) :=
  bif decide (t2.2.2.2 < (x2.1.Asks.length : Int)) then
    (inb t1.2.2.2 ids.length).bind fun i3 =>
    (ids[i3]?).bind fun x5 =>
    (dispatchref10_Find t2.1 x5).bind fun x6 =>
    (idx x2.1.Asks t2.2.2.2).bind fun x7 =>
    (dispatchref14_ask t2.1 n x6.1 x7 first).bind fun x8 =>
    bif x8.2.1 != 0 then
      some (.inr (.inl (x8.1, x8.2.1, x8.2.2)))
    else
      some (.inl (x8.1, t2.2.1, t2.2.2.1, w64 (t2.2.2.2 + 1)))
  else
    some (.inr (.inr (t2.1, t2.2.1, t2.2.2.1)))

def dispatchref14_round_l2 (n : Node) (first : Bool) (leaves : List (List UInt8)) (t : State × State × Cont × Int) (ids : List Int) (t1 : State × State × Cont × Int) : Option ((State × State × Cont × Int) ⊕ ((State × Int × Cont) ⊕ (State × State × Cont))) :=
  bif decide (t1.2.2.2 < (ids.length : Int)) then
    (
      (inb t1.2.2.2 ids.length).bind fun i1 =>
      (ids[i1]?).bind fun x1 =>
      (dispatchref10_Find t1.1 x1).bind fun x2 =>
      (inb t.2.2.2 leaves.length).bind fun i2 =>
      (leaves[i2]?).bind fun x3 =>
      (dispatchref14_more t1.1 x3 n.Label x2.1.User).bind fun x4 =>
      bif ! x4 then
        some (.inl (t1.1, t1.2.1, t1.2.2.1))
      else
        (loop (dispatchref14_round_l3 n first ids t1 x2) (t1.1, t1.2.1, t1.2.2.1, 0)).bind fun q0 =>
        match q0 with
        | .inl q =>
          some (.inr (q.1, q.2.1, q.2.2))
        | .inr q1 =>
          some (.inl (q1.1, q1.2.1, q1.2.2)) : Option ((State × State × Cont) ⊕ (State × Int × Cont))).bind fun q0 =>
    match q0 with
    | .inl q2 =>
      some (.inl (q2.1, q2.2.1, q2.2.2, w64 (t1.2.2.2 + 1)))
    | .inr q3 =>
      some (.inr (.inl (q3.1, q3.2.1, q3.2.2)))
  else
    some (.inr (.inr (t1.1, t1.2.1, t1.2.2.1)))

def dispatchref14_round_l1 (n : Node) (first : Bool) (leaves : List (List UInt8)) (t : State × State × Cont × Int) : Option ((State × State × Cont × Int) ⊕ ((State × Int × Cont) ⊕ (State × State × Cont))) :=
  bif decide (t.2.2.2 < (leaves.length : Int)) then
    (inb t.2.2.2 leaves.length).bind fun i =>
    (leaves[i]?).bind fun x =>
    (dispatchref12_Apps t.1 x).bind fun ids =>
    (loop (dispatchref14_round_l2 n first leaves t ids) (t.1, t.2.1, t.2.2.1, 0)).bind fun q0 =>
    match q0 with
    | .inl q4 =>
      some (.inr (.inl (q4.1, q4.2.1, q4.2.2)))
    | .inr q5 =>
      some (.inl (q5.1, q5.2.1, q5.2.2, w64 (t.2.2.2 + 1)))
  else
    some (.inr (.inr (t.1, t.2.1, t.2.2.1)))

def dispatchref14_round (s : State) (n : Node) (first : Bool) : Option (State × Int × Cont) :=
  (dispatchref12_Leaves s n.Label).bind fun leaves =>
  (loop (dispatchref14_round_l1 n first leaves) (s, (⟨⟨[], []⟩, [], [], [], [], [], 0, 0, 0⟩ : State), (⟨0, 0, 0, ⟨0, 0⟩, 0, 0, false, 0⟩ : Cont), 0)).bind fun q0 =>
  match q0 with
  | .inl q6 =>
    some (q6.1, q6.2.1, q6.2.2)
  | .inr q7 =>
    some (q7.1, 0, (⟨0, 0, 0, ⟨0, 0⟩, 0, 0, false, 0⟩ : Cont))
def h118 : Hint := (.s .z (.s .z (.s (.s .z (.b (.l [(3, .box (.st 10) []), (6, .box (.st 10) [0, 1, 2, 3, 4, 5, 6]), (8, .box (.st 7) []), (10, .v (.int .i64) [])] [3, 6, 7, 8, 10, 11, 12, 13, 14, 15, 16, 17, 18, 19, 20] [(1, [(6, .box (.st 10) []), (7, .v (.int .i64) []), (8, .box (.st 7) [])]), (2, [(3, .box (.st 10) []), (6, .box (.st 10) [0, 1, 2, 3, 4, 5, 6]), (8, .box (.st 7) [])])] (.s .z (.s (.b (.s .z (.s .z (.b (.l [(3, .box (.st 10) []), (6, .box (.st 10) [0, 1, 2, 3, 4, 5, 6]), (8, .box (.st 7) []), (12, .v (.int .i64) [])] [3, 6, 7, 8, 12, 13, 14, 15, 16, 17, 18, 19, 20] [(1, [(6, .box (.st 10) []), (7, .v (.int .i64) []), (8, .box (.st 7) [])]), (4, [(3, .box (.st 10) []), (6, .box (.st 10) [0, 1, 2, 3, 4, 5, 6]), (8, .box (.st 7) [])])] (.s .z (.s (.j [3, 6, 7, 8, 13, 14, 15, 16, 17, 18, 19, 20] [(0, [(3, .box (.st 10) []), (6, .box (.st 10) [0, 1, 2, 3, 4, 5, 6]), (8, .box (.st 7) [])]), (1, [(6, .box (.st 10) []), (7, .v (.int .i64) []), (8, .box (.st 7) [])])] (.b (.s .z (.s .z (.s .z (.b (.l [(3, .box (.st 10) []), (6, .box (.st 10) [0, 1, 2, 3, 4, 5, 6]), (8, .box (.st 7) []), (15, .v (.int .i64) [])] [3, 6, 7, 8, 15, 16, 17, 18, 19, 20] [(1, [(6, .box (.st 10) []), (7, .v (.int .i64) []), (8, .box (.st 7) [])]), (6, [(3, .box (.st 10) []), (6, .box (.st 10) [0, 1, 2, 3, 4, 5, 6]), (8, .box (.st 7) [])])] .z))))))) .z))))))) .z))))) .z)))
noncomputable def sp118 : Spec fam := ⟨[.v (.st 10) [], .v (.st 4) [], .v .bool []], [.v (.st 10) [], .v (.int .i64) [], .v (.st 7) []], fun a => dispatchref14_round a.1 a.2.1 a.2.2.1⟩

def dispatchref14_One (s : State) (node : Int) : Option (State × Int × Cont) :=
  (dispatchref8_Find s node).bind fun x =>
  (
    bif ! x.2 then
      some true
    else
      bif ! x.1.Up then
        some true
      else
        bif decide ((s.Conts.length : Int) ≥ 200) then
          some true
        else
          some (decide (s.Seq ≥ 1048575))).bind fun q =>
  bif q then
    some (s, 0, (⟨0, 0, 0, ⟨0, 0⟩, 0, 0, false, 0⟩ : Cont))
  else
    (dispatchref14_slot s node).bind fun x1 =>
    (
      bif x1.2 then
        (dispatchref14_kept s x.1 x1.1).bind fun x2 =>
        bif x2.2.2.2 then
          some (.inr (x2.1, x2.2.1, x2.2.2.1))
        else
          some (.inl (x2.1, (⟨⟨[], []⟩, [], [], [], [], [], 0, 0, 0⟩ : State), (⟨0, 0, 0, ⟨0, 0⟩, 0, 0, false, 0⟩ : Cont)))
      else
        some (.inl (s, (⟨⟨[], []⟩, [], [], [], [], [], 0, 0, 0⟩ : State), (⟨0, 0, 0, ⟨0, 0⟩, 0, 0, false, 0⟩ : Cont))) : Option ((State × State × Cont) ⊕ (State × Int × Cont))).bind fun q0 =>
    match q0 with
    | .inl q1 =>
      (dispatchref14_round q1.1 x.1 true).bind fun x3 =>
      bif x3.2.1 != 0 then
        some (x3.1, x3.2.1, x3.2.2)
      else
        (dispatchref14_round x3.1 x.1 false).bind fun x4 =>
        some (x4.1, x4.2.1, x4.2.2)
    | .inr q2 =>
      some (q2.1, q2.2.1, q2.2.2)
def h54 : Hint := (.s .z (.s .z (.s (.s (.j [] [(0, [(40, .v .bool [])])] .z) .z) (.s .z (.s (.j [2, 4, 5, 6, 11, 12, 13, 14] [(0, [(2, .box (.st 10) []), (4, .box (.st 10) [0, 1, 2, 3, 4, 5, 6]), (6, .box (.st 7) [])]), (1, [(4, .box (.st 10) []), (5, .v (.int .i64) []), (6, .box (.st 7) [])])] .z) .z)))))
noncomputable def sp54 : Spec fam := ⟨[.v (.st 10) [], .v (.int .i64) []], [.v (.st 10) [], .v (.int .i64) [], .v (.st 7) []], fun a => dispatchref14_One a.1 a.2.1⟩

def dispatchref14_Beat_l1 (node : Int) (t : State × List Cont × Int) : Option ((State × List Cont × Int) ⊕ ((State × List Cont))) :=
  bif decide (t.2.2 < 3) then
    (dispatchref14_One t.1 node).bind fun x =>
    bif x.2.1 != 1 then
      some (.inr (x.1, t.2.1))
    else
      (app 72 t.2.1 [x.2.2]).bind fun l =>
      some (.inl (x.1, l, w64 (t.2.2 + 1)))
  else
    some (.inr (t.1, t.2.1))

def dispatchref14_Beat (s : State) (node : Int) : Option (State × List Cont) :=
  (loop (dispatchref14_Beat_l1 node) (s, [], 0)).bind fun q =>
  some (q.1, q.2)
def h56 : Hint := (.s .z (.s .z (.s (.s .z (.b (.l [(2, .box (.st 10) []), (6, .v (.slice (.st 7)) [0]), (7, .v (.int .i64) [])] [2, 6, 7, 8, 9, 10] [(2, [(2, .box (.st 10) []), (6, .v (.slice (.st 7)) [0])])] .z))) .z)))
noncomputable def sp56 : Spec fam := ⟨[.v (.st 10) [], .v (.int .i64) []], [.v (.st 10) [], .v (.slice (.st 7)) [0]], fun a => dispatchref14_Beat a.1 a.2.1⟩

def dispatchref10_Away_l1 (s : State) (id_ : Int) (t : List Cont × Int) : Option ((List Cont × Int) ⊕ List Cont) :=
  bif decide (t.2 < (s.Conts.length : Int)) then
    (
      (idx s.Conts t.2).bind fun x =>
      bif x.Id != id_ then
        (idx s.Conts t.2).bind fun x1 =>
        (app 72 t.1 [x1]).bind fun l =>
        some l
      else
        some t.1).bind fun l1 =>
    some (.inl (l1, w64 (t.2 + 1)))
  else
    some (.inr t.1)

def dispatchref10_Away (s : State) (id_ : Int) : Option State :=
  (loop (dispatchref10_Away_l1 s id_) ([], 0)).bind fun l2 =>
  some (⟨⟨s.Conf.Labels, s.Conf.Queues⟩, s.Nodes, s.Apps, l2, s.Slots, s.Plans, s.Now, s.Epoch, s.Seq⟩ : State)
def h53 : Hint := (.s .z (.s .z (.s (.s .z (.b (.l [(5, .v (.slice (.st 7)) [0]), (6, .v (.int .i64) [])] [5, 6] [(2, [(5, .v (.slice (.st 7)) [0])])] (.s .z (.s (.j [5] [(0, [(5, .v (.slice (.st 7)) [0])])] .z) .z))))) .z)))
noncomputable def sp53 : Spec fam := ⟨[.v (.st 10) [], .v (.int .i64) []], [.v (.st 10) [4]], fun a => dispatchref10_Away a.1 a.2.1⟩

def dispatchref10_shed_l2 (s : State) (id_ : Int) (t1 : List Slot × Int) : Option ((List Slot × Int) ⊕ List Slot) :=
  bif decide (t1.2 < (s.Slots.length : Int)) then
    (
      (idx s.Slots t1.2).bind fun x3 =>
      bif x3.App != id_ then
        (idx s.Slots t1.2).bind fun x4 =>
        (app 24 t1.1 [x4]).bind fun l2 =>
        some l2
      else
        some t1.1).bind fun slots =>
    some (.inl (slots, w64 (t1.2 + 1)))
  else
    some (.inr t1.1)

def dispatchref10_shed_l1 (s : State) (id_ : Int) (t : List Cont × List Int × Int) : Option ((List Cont × List Int × Int) ⊕ ((List Cont × List Int))) :=
  bif decide (t.2.2 < (s.Conts.length : Int)) then
    (
      (idx s.Conts t.2.2).bind fun x =>
      bif x.App == id_ then
        (idx s.Conts t.2.2).bind fun x1 =>
        (app 8 t.2.1 [x1.Id]).bind fun l =>
        some (t.1, l)
      else
        (idx s.Conts t.2.2).bind fun x2 =>
        (app 72 t.1 [x2]).bind fun l1 =>
        some (l1, t.2.1)).bind fun q =>
    some (.inl (q.1, q.2, w64 (t.2.2 + 1)))
  else
    some (.inr (t.1, t.2.1))

def dispatchref10_shed (s : State) (id_ : Int) : Option (State × List Int) :=
  (loop (dispatchref10_shed_l1 s id_) ([], [], 0)).bind fun q1 =>
  (loop (dispatchref10_shed_l2 s id_) ([], 0)).bind fun slots1 =>
  some ((⟨⟨s.Conf.Labels, s.Conf.Queues⟩, s.Nodes, s.Apps, q1.1, slots1, s.Plans, s.Now, s.Epoch, s.Seq⟩ : State), q1.2)
def h99 : Hint := (.s .z (.s .z (.s .z (.s .z (.s (.s .z (.b (.l [(6, .v (.slice (.st 7)) [0]), (8, .v (.slice (.int .i64)) [0]), (9, .v (.int .i64) [])] [6, 8, 9] [(2, [(6, .v (.slice (.st 7)) [0]), (8, .v (.slice (.int .i64)) [0])])] (.s .z (.s (.j [6, 8] [(0, [(6, .v (.slice (.st 7)) [0]), (8, .v (.slice (.int .i64)) [0])])] .z) .z))))) (.s (.s .z (.b (.l [(7, .v (.slice (.st 8)) [0]), (10, .v (.int .i64) [])] [7, 10] [(4, [(7, .v (.slice (.st 8)) [0])])] (.s .z (.s (.j [7] [(0, [(7, .v (.slice (.st 8)) [0])])] .z) .z))))) .z))))))
noncomputable def sp99 : Spec fam := ⟨[.v (.st 10) [], .v (.int .i64) []], [.v (.st 10) [4, 5], .v (.slice (.int .i64)) [0]], fun a => dispatchref10_shed a.1 a.2.1⟩

def dispatchref10_Without_l1 (l : List Int) (n : Int) (t : List Int × Int) : Option ((List Int × Int) ⊕ List Int) :=
  bif decide (t.2 < (l.length : Int)) then
    (
      (idx l t.2).bind fun x =>
      bif x != n then
        (idx l t.2).bind fun x1 =>
        (app 8 t.1 [x1]).bind fun l1 =>
        some l1
      else
        some t.1).bind fun out =>
    some (.inl (out, w64 (t.2 + 1)))
  else
    some (.inr t.1)

def dispatchref10_Without (l : List Int) (n : Int) : Option (List Int × Bool) :=
  (loop (dispatchref10_Without_l1 l n) ([], 0)).bind fun out1 =>
  some (out1, decide ((out1.length : Int) < (l.length : Int)))
def h213 : Hint := (.s .z (.s .z (.s (.s .z (.b (.l [(6, .v (.slice (.int .i64)) [0]), (7, .v (.int .i64) [])] [6, 7] [(2, [(6, .v (.slice (.int .i64)) [0])])] (.s .z (.s (.j [6] [(0, [(6, .v (.slice (.int .i64)) [0])])] .z) .z))))) .z)))
noncomputable def sp213 : Spec fam := ⟨[.v (.slice (.int .i64)) [], .v (.int .i64) []], [.v (.slice (.int .i64)) [0], .v .bool []], fun a => dispatchref10_Without a.1 a.2.1⟩

def dispatchref10_Lose_l1 (ids : List Int) (t : State × Int) : Option ((State × Int) ⊕ State) :=
  bif decide (t.2 < (ids.length : Int)) then
    (
      (idx ids t.2).bind fun x =>
      (dispatchref10_Cont t.1 x).bind fun x1 =>
      bif ! x1.2 then
        some t.1
      else
        (dispatchref10_Find t.1 x1.1.App).bind fun x2 =>
        bif x1.1.Master then
          (dispatchref10_first x2.1).bind fun x3 =>
          (dispatchref10_Put t.1 (⟨x2.1.Id, 1, x2.1.Queue, x2.1.User, x2.1.Prio, ⟨x2.1.Master.Mem, x2.1.Master.Cores⟩, x3, t.1.Now, 0, [], [], [], []⟩ : App)).bind fun x4 =>
          (dispatchref10_shed x4 x1.1.App).bind fun x5 =>
          some x5.1
        else
          (dispatchref10_Away t.1 x1.1.Id).bind fun x6 =>
          (dispatchref10_Without x2.1.Grants x1.1.Id).bind fun x7 =>
          (
            bif ! x7.2 then
              (app 8 [] x2.1.Kills).bind fun l =>
              (app 8 l [x1.1.Id]).bind fun l1 =>
              some (⟨x2.1.Id, x2.1.State, x2.1.Queue, x2.1.User, x2.1.Prio, ⟨x2.1.Master.Mem, x2.1.Master.Cores⟩, x2.1.Asks, x2.1.Seen, x2.1.Beat, x7.1, l1, x2.1.Told, x2.1.Lost⟩ : App)
            else
              some (⟨x2.1.Id, x2.1.State, x2.1.Queue, x2.1.User, x2.1.Prio, ⟨x2.1.Master.Mem, x2.1.Master.Cores⟩, x2.1.Asks, x2.1.Seen, x2.1.Beat, x7.1, x2.1.Kills, x2.1.Told, x2.1.Lost⟩ : App)).bind fun a =>
          (dispatchref10_Put x6 a).bind fun x8 =>
          some x8).bind fun s1 =>
    some (.inl (s1, w64 (t.2 + 1)))
  else
    some (.inr t.1)

def dispatchref10_Lose (s : State) (ids : List Int) : Option State :=
  (loop (dispatchref10_Lose_l1 ids) (s, 0)).bind fun s2 =>
  some s2
def h165 : Hint := (.s .z (.s (.s .z (.b (.l [(2, .box (.st 10) []), (5, .v (.int .i64) [])] [2, 5, 6, 7, 8] [(2, [(2, .box (.st 10) [])])] (.s .z (.s (.j [2, 6, 7, 8] [(0, [(2, .box (.st 10) [])])] (.b (.s .z (.s .z (.s .z (.s .z (.s .z (.s .z (.s .z (.s (.j [8] [(0, [(8, .box (.st 6) [10])])] .z) .z)))))))))) .z))))) .z))
noncomputable def sp165 : Spec fam := ⟨[.v (.st 10) [], .v (.slice (.int .i64)) []], [.v (.st 10) []], fun a => dispatchref10_Lose a.1 a.2.1⟩

def dispatchref19_on_l1 (s : State) (node : Int) (t : List Int × Int) : Option ((List Int × Int) ⊕ List Int) :=
  bif decide (t.2 < (s.Conts.length : Int)) then
    (
      (idx s.Conts t.2).bind fun x =>
      bif x.Node == node then
        (idx s.Conts t.2).bind fun x1 =>
        (app 8 t.1 [x1.Id]).bind fun l =>
        some l
      else
        some t.1).bind fun l1 =>
    some (.inl (l1, w64 (t.2 + 1)))
  else
    some (.inr t.1)

def dispatchref19_on (s : State) (node : Int) : Option (List Int) :=
  (loop (dispatchref19_on_l1 s node) ([], 0)).bind fun l2 =>
  some l2
def h208 : Hint := (.s .z (.s .z (.s (.s .z (.b (.l [(5, .v (.slice (.int .i64)) [0]), (6, .v (.int .i64) [])] [5, 6] [(2, [(5, .v (.slice (.int .i64)) [0])])] (.s .z (.s (.j [5] [(0, [(5, .v (.slice (.int .i64)) [0])])] .z) .z))))) .z)))
noncomputable def sp208 : Spec fam := ⟨[.v (.st 10) [], .v (.int .i64) []], [.v (.slice (.int .i64)) [0]], fun a => dispatchref19_on a.1 a.2.1⟩

def dispatchref8_Beat (s : State) (id_ : Int) (beat : Int) : Option (State × Int) :=
  (dispatchref8_Find s id_).bind fun x =>
  bif ! x.2 then
    some (s, 2)
  else
    bif ! x.1.Up then
      some (s, 18)
    else
      bif decide (beat < 0) then
        some (s, 15)
      else
        bif decide (beat < x.1.Beat) then
          some (s, 15)
        else
          bif decide ((w64 (beat - x.1.Beat)) > 1) then
            some (s, 1)
          else
            (dispatchref8_put s (⟨x.1.Id, x.1.Label, x.1.Rack, ⟨x.1.Cap.Mem, x.1.Cap.Cores⟩, s.Now, beat, x.1.Up⟩ : Node)).bind fun x1 =>
            some (x1, 0)
def h209 : Hint := .z
noncomputable def sp209 : Spec fam := ⟨[.v (.st 10) [], .v (.int .i64) [], .v (.int .i64) []], [.v (.st 10) [], .v (.int .i64) []], fun a => dispatchref8_Beat a.1 a.2.1 a.2.2.1⟩

def dispatchref19_beat_l1 (x : Input) (x3 : State × Int) (t : List Int × Int) : Option ((List Int × Int) ⊕ List Int) :=
  bif decide (t.2 < (x.Ids.length : Int)) then
    (
      (idx x.Ids t.2).bind fun x5 =>
      (dispatchref10_Cont x3.1 x5).bind fun x6 =>
      (
        bif x6.2 then
          some (x6.1.Node == x.Id)
        else
          some false).bind fun q1 =>
      bif q1 then
        (app 8 t.1 [x6.1.Id]).bind fun l =>
        some l
      else
        some t.1).bind fun ids =>
    some (.inl (ids, w64 (t.2 + 1)))
  else
    some (.inr t.1)

def dispatchref19_beat (s : State) (x : Input) : Option (State × Output) :=
  (dispatchref8_Find s x.Id).bind fun x1 =>
  (
    bif x1.2 then
      bif x1.1.Up then
        some (x1.1.Beat == x.Beat)
      else
        some false
    else
      some false).bind fun q =>
  bif q then
    (dispatchref19_on s x.Id).bind fun x2 =>
    some (s, (⟨0, [], x2, [], 0⟩ : Output))
  else
    (dispatchref8_Beat s x.Id x.Beat).bind fun x3 =>
    bif x3.2 != 0 then
      (dispatchref19_bad s x3.2).bind fun x4 =>
      some (x4.1, x4.2)
    else
      (loop (dispatchref19_beat_l1 x x3) ([], 0)).bind fun ids1 =>
      (dispatchref10_Lose x3.1 ids1).bind fun x7 =>
      (dispatchref14_Beat x7 x.Id).bind fun x8 =>
      (dispatchref19_on x8.1 x.Id).bind fun x9 =>
      some (x8.1, (⟨0, [], x9, [], 0⟩ : Output))
def h126 : Hint := (.s .z (.s .z (.s (.s (.j [] [(0, [(32, .v .bool [])])] .z) .z) (.s .z (.s .z (.s .z (.s (.s .z (.b (.l [(10, .v (.slice (.int .i64)) [0]), (11, .v (.int .i64) [])] [10, 11, 12, 79] [(2, [(10, .v (.slice (.int .i64)) [0])])] (.s .z (.s (.j [10, 12, 79] [(0, [(10, .v (.slice (.int .i64)) [0])])] (.b (.s .z (.s (.j [] [(0, [(79, .v .bool [])])] .z) .z)))) .z))))) .z)))))))
noncomputable def sp126 : Spec fam := ⟨[.v (.st 10) [], .v (.st 15) []], [.v (.st 10) [], .v (.st 13) [1, 2, 3]], fun a => dispatchref19_beat a.1 a.2.1⟩

def dispatchref19_conts_l1 (s : State) (ids : List Int) (t : List Cont × Int) : Option ((List Cont × Int) ⊕ List Cont) :=
  bif decide (t.2 < (ids.length : Int)) then
    (
      (idx ids t.2).bind fun x =>
      (dispatchref10_Cont s x).bind fun x1 =>
      bif x1.2 then
        (app 72 t.1 [x1.1]).bind fun l =>
        some l
      else
        some t.1).bind fun l1 =>
    some (.inl (l1, w64 (t.2 + 1)))
  else
    some (.inr t.1)

def dispatchref19_conts (s : State) (ids : List Int) : Option (List Cont) :=
  (loop (dispatchref19_conts_l1 s ids) ([], 0)).bind fun l2 =>
  some l2
def h210 : Hint := (.s .z (.s .z (.s (.s .z (.b (.l [(5, .v (.slice (.st 7)) [0]), (6, .v (.int .i64) [])] [5, 6, 7] [(2, [(5, .v (.slice (.st 7)) [0])])] (.s .z (.s (.j [5, 7] [(0, [(5, .v (.slice (.st 7)) [0])])] .z) .z))))) .z)))
noncomputable def sp210 : Spec fam := ⟨[.v (.st 10) [], .v (.slice (.int .i64)) []], [.v (.slice (.st 7)) [0]], fun a => dispatchref19_conts a.1 a.2.1⟩

def dispatchref19_noticed_l1 (s : State) (app_ : Int) (t : List Int × Int) : Option ((List Int × Int) ⊕ List Int) :=
  bif decide (t.2 < (s.Conts.length : Int)) then
    (
      (
        (idx s.Conts t.2).bind fun x =>
        bif x.App == app_ then
          (idx s.Conts t.2).bind fun x1 =>
          some (x1.Notice != 0)
        else
          some false).bind fun q =>
      bif q then
        (idx s.Conts t.2).bind fun x2 =>
        (app 8 t.1 [x2.Id]).bind fun l =>
        some l
      else
        some t.1).bind fun l1 =>
    some (.inl (l1, w64 (t.2 + 1)))
  else
    some (.inr t.1)

def dispatchref19_noticed (s : State) (app_ : Int) : Option (List Int) :=
  (loop (dispatchref19_noticed_l1 s app_) ([], 0)).bind fun l2 =>
  some l2
def h211 : Hint := (.s .z (.s .z (.s (.s .z (.b (.l [(5, .v (.slice (.int .i64)) [0]), (6, .v (.int .i64) [])] [5, 6, 30] [(2, [(5, .v (.slice (.int .i64)) [0])])] (.s .z (.s (.j [5, 30] [(0, [(5, .v (.slice (.int .i64)) [0])])] (.b (.s (.j [] [(0, [(30, .v .bool [])])] .z) .z))) .z))))) .z)))
noncomputable def sp211 : Spec fam := ⟨[.v (.st 10) [], .v (.int .i64) []], [.v (.slice (.int .i64)) [0]], fun a => dispatchref19_noticed a.1 a.2.1⟩

def dispatchref9_part (n : Int) : Option Bool :=
  bif decide (n ≥ 1) then
    some (decide (n ≤ 1073741824))
  else
    some false
def h343 : Hint := .z
noncomputable def sp343 : Spec fam := ⟨[.v (.int .i64) []], [.v .bool []], fun a => dispatchref9_part a.1⟩

def dispatchref9_Check (a : Ask) (labels : Int) : Option Int :=
  (
    bif decide (a.Prio < 0) then
      some true
    else
      bif decide (a.Prio > 9) then
        some true
      else
        bif decide (a.Label < 0) then
          some true
        else
          bif decide (a.Label ≥ labels) then
            some true
          else
            (dispatchref9_part a.Size.Mem).bind fun x =>
            bif ! x then
              some true
            else
              (dispatchref9_part a.Size.Cores).bind fun x1 =>
              bif ! x1 then
                some true
              else
                bif decide (a.Node < (-1)) then
                  some true
                else
                  bif decide (a.Node > 999) then
                    some true
                  else
                    bif decide (a.Rack < (-1)) then
                      some true
                    else
                      bif decide (a.Rack > 99) then
                        some true
                      else
                        bif decide (a.Node ≥ 0) then
                          some (decide (a.Rack < 0))
                        else
                          some false).bind fun q =>
  bif q then
    some 1
  else
    (
      bif decide (a.Count < 0) then
        some true
      else
        some (decide (a.Count > 50))).bind fun q1 =>
    bif q1 then
      some 4
    else
      some 0
def h295 : Hint := (.s .z (.s (.s (.j [] [(0, [(67, .v .bool [])])] .z) .z) (.s (.s (.j [] [(0, [(75, .v .bool [])])] .z) .z) .z)))
noncomputable def sp295 : Spec fam := ⟨[.v (.st 5) [], .v (.int .i64) []], [.v (.int .i64) []], fun a => dispatchref9_Check a.1 a.2.1⟩

def dispatchref9_Set_l1 (l : List Ask) (a : Ask) (t : List Ask × Bool × Int) : Option ((List Ask × Bool × Int) ⊕ ((List Ask × Bool))) :=
  bif decide (t.2.2 < (l.length : Int)) then
    (
      (
        (
          bif ! t.2.1 then
            (idx l t.2.2).bind fun x =>
            some (decide (x.Prio > a.Prio))
          else
            some false).bind fun q =>
        bif q then
          (app 64 t.1 [(⟨a.Prio, a.Label, ⟨a.Size.Mem, a.Size.Cores⟩, a.Count, a.Node, a.Rack, 0⟩ : Ask)]).bind fun l1 =>
          some (l1, true)
        else
          some (t.1, t.2.1)).bind fun q1 =>
      (idx l t.2.2).bind fun x1 =>
      bif x1.Prio != a.Prio then
        (idx l t.2.2).bind fun x2 =>
        (app 64 q1.1 [x2]).bind fun l2 =>
        some (l2, q1.2)
      else
        some (q1.1, q1.2)).bind fun q2 =>
    some (.inl (q2.1, q2.2, w64 (t.2.2 + 1)))
  else
    some (.inr (t.1, t.2.1))

def dispatchref9_Set (l : List Ask) (a : Ask) : Option (List Ask × Int) :=
  (loop (dispatchref9_Set_l1 l a) ([], a.Count == 0, 0)).bind fun q3 =>
  (
    bif ! q3.2 then
      (app 64 q3.1 [(⟨a.Prio, a.Label, ⟨a.Size.Mem, a.Size.Cores⟩, a.Count, a.Node, a.Rack, 0⟩ : Ask)]).bind fun l3 =>
      some l3
    else
      some q3.1).bind fun out =>
  bif decide ((out.length : Int) > 8) then
    some ([], 4)
  else
    some (out, 0)
def h296 : Hint := (.s .z (.s .z (.s .z (.s .z (.s (.s .z (.b (.l [(6, .v (.slice (.st 5)) [0]), (7, .v .bool []), (8, .v (.int .i64) [])] [6, 7, 8, 30] [(2, [(6, .v (.slice (.st 5)) [0]), (7, .v .bool [])])] (.s .z (.s (.j [6, 7, 30] [(0, [(6, .v (.slice (.st 5)) [0]), (7, .v .bool [])])] (.b (.s (.j [6, 7, 30] [(0, [(6, .v (.slice (.st 5)) [0]), (7, .v .bool [])])] (.s (.j [] [(0, [(30, .v .bool [])])] .z) .z)) .z))) .z))))) (.s (.j [6] [(0, [(6, .v (.slice (.st 5)) [0])])] .z) .z))))))
noncomputable def sp296 : Spec fam := ⟨[.v (.slice (.st 5)) [], .v (.st 5) []], [.v (.slice (.st 5)) [0], .v (.int .i64) []], fun a => dispatchref9_Set a.1 a.2.1⟩

def dispatchref19_wants_l1 (s : State) (more : List Ask) (t : List Ask × Int) : Option ((List Ask × Int) ⊕ ((List Ask × Int) ⊕ List Ask)) :=
  bif decide (t.2 < (more.length : Int)) then
    (idx more t.2).bind fun x =>
    (dispatchref9_Check x (s.Conf.Labels.length : Int)).bind fun e =>
    bif e != 0 then
      some (.inr (.inl ([], e)))
    else
      (idx more t.2).bind fun x1 =>
      (dispatchref9_Set t.1 x1).bind fun x2 =>
      bif x2.2 != 0 then
        some (.inr (.inl ([], x2.2)))
      else
        some (.inl (x2.1, w64 (t.2 + 1)))
  else
    some (.inr (.inr (t.1)))

def dispatchref19_wants (s : State) (l : List Ask) (more : List Ask) : Option (List Ask × Int) :=
  (loop (dispatchref19_wants_l1 s more) (l, 0)).bind fun q0 =>
  match q0 with
  | .inl q =>
    some (q.1, q.2)
  | .inr l1 =>
    some (l1, 0)
def h212 : Hint := (.s .z (.s (.s .z (.b (.l [(1, .v (.slice (.st 5)) []), (8, .v (.int .i64) [])] [1, 6, 7, 8, 9] [(1, [(6, .v (.slice (.st 5)) [0]), (7, .v (.int .i64) [])]), (2, [(1, .v (.slice (.st 5)) [])])] .z))) .z))
noncomputable def sp212 : Spec fam := ⟨[.v (.st 10) [], .v (.slice (.st 5)) [], .v (.slice (.st 5)) []], [.v (.slice (.st 5)) [], .v (.int .i64) []], fun a => dispatchref19_wants a.1 a.2.1 a.2.2.1⟩

def dispatchref19_master_l1 (x : Input) (t : State × App × Int) : Option ((State × App × Int) ⊕ ((State × App))) :=
  bif decide (t.2.2 < (x.Ids.length : Int)) then
    (
      (idx x.Ids t.2.2).bind fun x10 =>
      (dispatchref10_Cont t.1 x10).bind fun x11 =>
      (
        bif x11.2 then
          bif x11.1.App == t.2.1.Id then
            some (! x11.1.Master)
          else
            some false
        else
          some false).bind fun q =>
      bif q then
        (dispatchref10_Away t.1 x11.1.Id).bind fun x12 =>
        (dispatchref10_Without t.2.1.Grants x11.1.Id).bind fun x13 =>
        some (x12, (⟨t.2.1.Id, t.2.1.State, t.2.1.Queue, t.2.1.User, t.2.1.Prio, ⟨t.2.1.Master.Mem, t.2.1.Master.Cores⟩, t.2.1.Asks, t.2.1.Seen, t.2.1.Beat, x13.1, t.2.1.Kills, t.2.1.Told, t.2.1.Lost⟩ : App))
      else
        some (t.1, t.2.1)).bind fun q1 =>
    some (.inl (q1.1, q1.2, w64 (t.2.2 + 1)))
  else
    some (.inr (t.1, t.2.1))

def dispatchref19_master (s : State) (x : Input) : Option (State × Output) :=
  (dispatchref10_Find s x.Id).bind fun x1 =>
  bif ! x1.2 then
    (dispatchref19_bad s 2).bind fun x2 =>
    some (x2.1, x2.2)
  else
    bif x1.1.State != 2 then
      (dispatchref19_bad s 14).bind fun x3 =>
      some (x3.1, x3.2)
    else
      bif decide (x.Beat < x1.1.Beat) then
        (dispatchref19_bad s 15).bind fun x4 =>
        some (x4.1, x4.2)
      else
        bif x.Beat == x1.1.Beat then
          (dispatchref19_conts s x1.1.Told).bind fun x5 =>
          (dispatchref19_noticed s x1.1.Id).bind fun x6 =>
          (app 8 [] x1.1.Lost).bind fun l =>
          some (s, (⟨0, x5, x6, l, 0⟩ : Output))
        else
          bif decide ((w64 (x.Beat - 1)) > x1.1.Beat) then
            (dispatchref19_bad s 1).bind fun x7 =>
            some (x7.1, x7.2)
          else
            (dispatchref19_wants s x1.1.Asks x.Asks).bind fun x8 =>
            bif x8.2 != 0 then
              (dispatchref19_bad s x8.2).bind fun x9 =>
              some (x9.1, x9.2)
            else
              (loop (dispatchref19_master_l1 x) (s, x1.1, 0)).bind fun q2 =>
              (dispatchref19_conts q2.1 q2.2.Grants).bind fun x14 =>
              (dispatchref19_noticed q2.1 q2.2.Id).bind fun x15 =>
              (app 8 [] q2.2.Kills).bind fun l1 =>
              (dispatchref10_Put q2.1 (⟨q2.2.Id, q2.2.State, q2.2.Queue, q2.2.User, q2.2.Prio, ⟨q2.2.Master.Mem, q2.2.Master.Cores⟩, x8.1, q2.1.Now, x.Beat, [], [], q2.2.Grants, q2.2.Kills⟩ : App)).bind fun x16 =>
              some (x16, (⟨0, x14, x15, l1, 0⟩ : Output))
def h127 : Hint := (.s .z (.s .z (.s .z (.s .z (.s .z (.s (.s .z (.b (.l [(2, .box (.st 10) []), (6, .box (.st 6) []), (10, .v (.int .i64) [])] [2, 6, 10, 11, 12, 122] [(3, [(2, .box (.st 10) []), (6, .box (.st 6) [])])] (.s .z (.s (.j [2, 6, 11, 12, 122] [(0, [(2, .box (.st 10) []), (6, .box (.st 6) [])])] (.b (.s .z (.s (.j [] [(0, [(122, .v .bool [])])] .z) .z)))) .z))))) .z))))))
noncomputable def sp127 : Spec fam := ⟨[.v (.st 10) [], .v (.st 15) []], [.v (.st 10) [], .v (.st 13) [1, 2, 3]], fun a => dispatchref19_master a.1 a.2.1⟩

def dispatchref10_End (s : State) (id_ : Int) (state : Int) : Option (State × List Int) :=
  (dispatchref10_Find s id_).bind fun x =>
  (
    bif ! x.2 then
      some true
    else
      (dispatchref10_Live x.1).bind fun x1 =>
      some (! x1)).bind fun q =>
  bif q then
    some (s, [])
  else
    (dispatchref10_Put s (⟨x.1.Id, state, x.1.Queue, x.1.User, x.1.Prio, ⟨x.1.Master.Mem, x.1.Master.Cores⟩, [], x.1.Seen, x.1.Beat, [], [], [], []⟩ : App)).bind fun x2 =>
    (dispatchref10_shed x2 id_).bind fun x3 =>
    some (x3.1, x3.2)
def h38 : Hint := (.s .z (.s .z (.s (.s (.j [] [(0, [(22, .v .bool [])])] .z) .z) .z)))
noncomputable def sp38 : Spec fam := ⟨[.v (.st 10) [], .v (.int .i64) [], .v (.int .i64) []], [.v (.st 10) [], .v (.slice (.int .i64)) [0]], fun a => dispatchref10_End a.1 a.2.1 a.2.2.1⟩

def dispatchref19_end (s : State) (id_ : Int) (state : Int) : Option (State × Output) :=
  (dispatchref10_Find s id_).bind fun x =>
  bif ! x.2 then
    (dispatchref19_bad s 2).bind fun x1 =>
    some (x1.1, x1.2)
  else
    (dispatchref10_Live x.1).bind fun x2 =>
    bif ! x2 then
      (dispatchref19_bad s 14).bind fun x3 =>
      some (x3.1, x3.2)
    else
      (dispatchref10_End s id_ state).bind fun x4 =>
      some (x4.1, (⟨0, [], [], x4.2, 0⟩ : Output))
def h128 : Hint := .z
noncomputable def sp128 : Spec fam := ⟨[.v (.st 10) [], .v (.int .i64) [], .v (.int .i64) []], [.v (.st 10) [], .v (.st 13) [1, 2, 3]], fun a => dispatchref19_end a.1 a.2.1 a.2.2.1⟩

def dispatchref9_Pending_l1 (l : List Ask) (label : Int) (t : Vec × Int) : Option ((Vec × Int) ⊕ Vec) :=
  bif decide (t.2 < (l.length : Int)) then
    (
      (idx l t.2).bind fun x =>
      bif x.Label == label then
        (idx l t.2).bind fun x1 =>
        (idx l t.2).bind fun x2 =>
        (idx l t.2).bind fun x3 =>
        (idx l t.2).bind fun x4 =>
        (dispatchref1_Plus t.1 (⟨w64 (x1.Size.Mem * x2.Count), w64 (x3.Size.Cores * x4.Count)⟩ : Vec)).bind fun x5 =>
        some x5
      else
        some t.1).bind fun v =>
    some (.inl (v, w64 (t.2 + 1)))
  else
    some (.inr t.1)

def dispatchref9_Pending (l : List Ask) (label : Int) : Option Vec :=
  (loop (dispatchref9_Pending_l1 l label) ((⟨0, 0⟩ : Vec), 0)).bind fun v1 =>
  some v1
def h115 : Hint := (.s .z (.s .z (.s (.s .z (.b (.l [(5, .box (.st 0) []), (6, .v (.int .i64) [])] [5, 6] [(2, [(5, .box (.st 0) [])])] (.s .z (.s (.j [5] [(0, [(5, .box (.st 0) [])])] .z) .z))))) .z)))
noncomputable def sp115 : Spec fam := ⟨[.v (.slice (.st 5)) [], .v (.int .i64) []], [.v (.st 0) []], fun a => dispatchref9_Pending a.1 a.2.1⟩

def dispatchref11_Pending_l1 (s : State) (path : List UInt8) (label : Int) (t : Vec × Int) : Option ((Vec × Int) ⊕ Vec) :=
  bif decide (t.2 < (s.Apps.length : Int)) then
    (
      (
        (idx s.Apps t.2).bind fun x =>
        (dispatchref10_Live x).bind fun x1 =>
        bif x1 then
          (idx s.Apps t.2).bind fun x2 =>
          (dispatchref11_below x2.Queue path).bind fun x3 =>
          some x3
        else
          some false).bind fun q =>
      bif q then
        (idx s.Apps t.2).bind fun x4 =>
        (dispatchref9_Pending x4.Asks label).bind fun x5 =>
        (dispatchref1_Plus t.1 x5).bind fun x6 =>
        some x6
      else
        some t.1).bind fun v =>
    some (.inl (v, w64 (t.2 + 1)))
  else
    some (.inr t.1)

def dispatchref11_Pending (s : State) (path : List UInt8) (label : Int) : Option Vec :=
  (loop (dispatchref11_Pending_l1 s path label) ((⟨0, 0⟩ : Vec), 0)).bind fun v1 =>
  some v1
def h51 : Hint := (.s .z (.s .z (.s (.s .z (.b (.l [(7, .box (.st 0) []), (8, .v (.int .i64) [])] [7, 8, 32] [(2, [(7, .box (.st 0) [])])] (.s .z (.s (.j [7, 32] [(0, [(7, .box (.st 0) [])])] (.b (.s (.j [] [(0, [(32, .v .bool [])])] .z) .z))) .z))))) .z)))
noncomputable def sp51 : Spec fam := ⟨[.v (.st 10) [], .v .str [], .v (.int .i64) []], [.v (.st 0) []], fun a => dispatchref11_Pending a.1 a.2.1 a.2.2.1⟩

def dispatchref16_good (n : Int) : Option Int :=
  (
    bif decide (n < 0) then
      some true
    else
      some (decide (n > 1125899906842624))).bind fun q =>
  bif q then
    some 0
  else
    some n
def h304 : Hint := (.s .z (.s (.s (.j [] [(0, [(8, .v .bool [])])] .z) .z) .z))
noncomputable def sp304 : Spec fam := ⟨[.v (.int .i64) []], [.v (.int .i64) []], fun a => dispatchref16_good a.1⟩

def dispatchref16_Split_l2 (want : List Int) (most : List Int) (n : Int) (t1 : Int × List Int × Int) : Option ((Int × List Int × Int) ⊕ List Int) :=
  bif decide (t1.2.2 < n) then
    (idx want t1.2.2).bind fun x7 =>
    (dispatchref16_good x7).bind fun x8 =>
    (idx most t1.2.2).bind fun x9 =>
    (dispatchref16_good x9).bind fun x10 =>
    (inb t1.2.2 t1.2.1.length).bind fun i =>
    (t1.2.1[i]?).bind fun x11 =>
    let x12 := imin (imax (w64 ((imin x8 x10) - x11)) 0) t1.1
    (inb t1.2.2 t1.2.1.length).bind fun i1 =>
    (t1.2.1[i1]?).bind fun x13 =>
    (inb t1.2.2 t1.2.1.length).bind fun i2 =>
    (t1.2.1[i2]?).bind fun x14 =>
    some (.inl (w64 (t1.1 - x12), List.set t1.2.1 i2 (w64 (x13 + x12)), w64 (t1.2.2 + 1)))
  else
    some (.inr t1.2.1)

def dispatchref16_Split_l1 (least : List Int) (want : List Int) (most : List Int) (n : Int) (t : Int × List Int × Int) : Option ((Int × List Int × Int) ⊕ ((Int × List Int))) :=
  bif decide (t.2.2 < n) then
    (idx least t.2.2).bind fun x =>
    (dispatchref16_good x).bind fun x1 =>
    (idx want t.2.2).bind fun x2 =>
    (dispatchref16_good x2).bind fun x3 =>
    (idx most t.2.2).bind fun x4 =>
    (dispatchref16_good x4).bind fun x5 =>
    let x6 := imin (imin (imin x1 x3) x5) t.1
    (app 8 t.2.1 [x6]).bind fun l =>
    some (.inl (w64 (t.1 - x6), l, w64 (t.2.2 + 1)))
  else
    some (.inr (t.1, t.2.1))

def dispatchref16_Split (total : Int) (least : List Int) (want : List Int) (most : List Int) : Option (List Int) :=
  let n := imin (imin (least.length : Int) (want.length : Int)) (most.length : Int)
  (dispatchref16_good total).bind fun left =>
  (loop (dispatchref16_Split_l1 least want most n) (left, [], 0)).bind fun q =>
  (loop (dispatchref16_Split_l2 want most n) (q.1, q.2, 0)).bind fun out =>
  some out
def h226 : Hint := (.s .z (.s .z (.s .z (.s .z (.s (.s .z (.b (.l [(10, .v (.int .i64) []), (11, .v (.slice (.int .i64)) [0]), (12, .v (.int .i64) [])] [10, 11, 12, 13] [(2, [(10, .v (.int .i64) []), (11, .v (.slice (.int .i64)) [0])])] .z))) (.s (.s .z (.b (.l [(10, .v (.int .i64) []), (11, .row (.int .i64) false), (14, .v (.int .i64) [])] [10, 11, 14, 15] [(4, [(11, .row (.int .i64) false)])] .z))) .z))))))
noncomputable def sp226 : Spec fam := ⟨[.v (.int .i64) [], .v (.slice (.int .i64)) [], .v (.slice (.int .i64)) [], .v (.slice (.int .i64)) []], [.v (.slice (.int .i64)) [0]], fun a => dispatchref16_Split a.1 a.2.1 a.2.2.1 a.2.2.2.1⟩

def dispatchref16_down_s_l2 (s : State) (label : Int) (self : State → (List UInt8) → Int → Int → Option (List Share)) (kids : List (List UInt8)) (x8 : List Int) (t1 : List Share × Int) : Option ((List Share × Int) ⊕ List Share) :=
  bif decide (t1.2 < (kids.length : Int)) then
    (inb t1.2 kids.length).bind fun i4 =>
    (kids[i4]?).bind fun x9 =>
    (inb t1.2 x8.length).bind fun i5 =>
    (x8[i5]?).bind fun x10 =>
    (self s x9 label x10).bind fun x11 =>
    (app 24 t1.1 x11).bind fun l3 =>
    some (.inl (l3, w64 (t1.2 + 1)))
  else
    some (.inr t1.1)

def dispatchref16_down_s_l1 (s : State) (label : Int) (kids : List (List UInt8)) (t : List Int × List Int × List Int × Int) : Option ((List Int × List Int × List Int × Int) ⊕ ((List Int × List Int × List Int))) :=
  bif decide (t.2.2.2 < (kids.length : Int)) then
    (inb t.2.2.2 kids.length).bind fun i =>
    (kids[i]?).bind fun x =>
    (dispatchref7_Least s x label).bind fun x1 =>
    (app 8 t.1 [x1.Mem]).bind fun l =>
    (inb t.2.2.2 kids.length).bind fun i1 =>
    (kids[i1]?).bind fun x2 =>
    (dispatchref7_Most s x2 label).bind fun x3 =>
    (app 8 t.2.2.1 [x3.Mem]).bind fun l1 =>
    (inb t.2.2.2 kids.length).bind fun i2 =>
    (kids[i2]?).bind fun x4 =>
    (dispatchref11_Used s x4 label).bind fun x5 =>
    (inb t.2.2.2 kids.length).bind fun i3 =>
    (kids[i3]?).bind fun x6 =>
    (dispatchref11_Pending s x6 label).bind fun x7 =>
    (app 8 t.2.1 [w64 (x5.Mem + x7.Mem)]).bind fun l2 =>
    some (.inl (l, l2, l1, w64 (t.2.2.2 + 1)))
  else
    some (.inr (t.1, t.2.1, t.2.2.1))

def dispatchref16_down_s (self : State → (List UInt8) → Int → Int → Option (List Share)) (s : State) (path : List UInt8) (label : Int) (mem : Int) : Option (List Share) :=
  (dispatchref6_Kids s.Conf path).bind fun kids =>
  bif (kids.length : Int) == 0 then
    some [(⟨path, mem⟩ : Share)]
  else
    (loop (dispatchref16_down_s_l1 s label kids) ([], [], [], 0)).bind fun q =>
    (dispatchref16_Split mem q.1 q.2.1 q.2.2).bind fun x8 =>
    (loop (dispatchref16_down_s_l2 s label self kids x8) ([], 0)).bind fun out =>
    some out

def dispatchref16_down_r : Nat → State → (List UInt8) → Int → Int → Option (List Share)
  | 0 => fun _ _ _ _ => none
  | n + 1 => dispatchref16_down_s (dispatchref16_down_r n)

def dispatchref16_down (a0 : State) (a1 : List UInt8) (a2 : Int) (a3 : Int) : Option (List Share) := dispatchref16_down_r 64 a0 a1 a2 a3
def h147 : Hint := (.s .z (.s .z (.s .z (.s .z (.s (.s .z (.b (.l [(10, .v (.slice (.int .i64)) [0]), (11, .v (.slice (.int .i64)) [0]), (12, .v (.slice (.int .i64)) [0]), (13, .v (.int .i64) [])] [10, 11, 12, 13] [(2, [(10, .v (.slice (.int .i64)) [0]), (11, .v (.slice (.int .i64)) [0]), (12, .v (.slice (.int .i64)) [0])])] .z))) (.s .z (.s .z (.s (.s .z (.b (.l [(15, .v (.slice (.st 16)) [0]), (16, .v (.int .i64) [])] [15, 16] [(4, [(15, .v (.slice (.st 16)) [0])])] .z))) .z))))))))
noncomputable def sp147 : Spec fam := ⟨[.v (.st 10) [], .v .str [], .v (.int .i64) [], .v (.int .i64) []], [.v (.slice (.st 16)) [0]], fun a => dispatchref16_down a.1 a.2.1 a.2.2.1 a.2.2.2.1⟩

noncomputable def sp147_r (n : Nat) : Spec fam := ⟨[.v (.st 10) [], .v .str [], .v (.int .i64) [], .v (.int .i64) []], [.v (.slice (.st 16)) [0]], fun a => dispatchref16_down_r n a.1 a.2.1 a.2.2.1 a.2.2.2.1⟩

def dispatchref16_Leaves_l2 (l : List Share) (t : List Share × Int) (k : Int) : Option (Int ⊕ Int) :=
  (
    bif decide (k < (t.1.length : Int)) then
      (inb k t.1.length).bind fun i =>
      (t.1[i]?).bind fun x1 =>
      (inb t.2 l.length).bind fun i1 =>
      (l[i1]?).bind fun x2 =>
      some (Op.bytesLess x1.Path x2.Path)
    else
      some false).bind fun q =>
  bif q then
    some (.inl (w64 (k + 1)))
  else
    some (.inr k)

def dispatchref16_Leaves_l1 (l : List Share) (t : List Share × Int) : Option ((List Share × Int) ⊕ List Share) :=
  bif decide (t.2 < (l.length : Int)) then
    (loop (dispatchref16_Leaves_l2 l t) 0).bind fun k1 =>
    (inS 0 k1 t.1.length).bind fun p =>
    (app 24 [] (sub t.1 p.1 p.2)).bind fun l1 =>
    (inb t.2 l.length).bind fun i2 =>
    (l[i2]?).bind fun x3 =>
    (app 24 l1 [x3]).bind fun l2 =>
    (inS k1 (t.1.length : Int) t.1.length).bind fun p1 =>
    (app 24 l2 (sub t.1 p1.1 p1.2)).bind fun l3 =>
    some (.inl (l3, w64 (t.2 + 1)))
  else
    some (.inr t.1)

def dispatchref16_Leaves (s : State) (label : Int) : Option (List Share) :=
  (dispatchref7_Total s label).bind fun x =>
  (dispatchref16_down s ([114, 111, 111, 116] : List UInt8) label x.Mem).bind fun l =>
  (loop (dispatchref16_Leaves_l1 l) ([], 0)).bind fun out =>
  some out
def h74 : Hint := (.s .z (.s .z (.s .z (.s (.s .z (.b (.l [(5, .v (.slice (.st 16)) [0]), (7, .v (.int .i64) [])] [5, 7, 8, 39] [(2, [(5, .v (.slice (.st 16)) [0])])] (.s .z (.s (.b (.s .z (.s (.b (.l [(8, .v (.int .i64) [])] [8, 39] [(4, [(8, .v (.int .i64) [])])] (.s (.s (.j [] [(0, [(39, .v .bool [])])] .z) .z) .z))) .z))) .z))))) .z))))
noncomputable def sp74 : Spec fam := ⟨[.v (.st 10) [], .v (.int .i64) []], [.v (.slice (.st 16)) [0]], fun a => dispatchref16_Leaves a.1 a.2.1⟩

def dispatchref17_needs_l2 (s : State) (path : List UInt8) (label : Int) (x : Vec) (x1 : Vec) (x2 : App) (k : Int) : Option (Int ⊕ (Int ⊕ Unit)) :=
  (
    bif decide (k < (x2.Asks.length : Int)) then
      (dispatchref10_Live x2).bind fun x3 =>
      bif x3 then
        some (x2.Queue == path)
      else
        some false
    else
      some false).bind fun q =>
  bif q then
    (
      (idx x2.Asks k).bind fun x4 =>
      bif x4.Label == label then
        (idx x2.Asks k).bind fun x5 =>
        some (decide ((w64 (x5.Size.Mem + x.Mem)) ≤ x1.Mem))
      else
        some false).bind fun q1 =>
    bif q1 then
      (dispatchref11_Pending s path label).bind fun x6 =>
      some (.inr (.inl (imin x6.Mem (w64 (x1.Mem - x.Mem)))))
    else
      some (.inl (w64 (k + 1)))
  else
    some (.inr (.inr ()))

def dispatchref17_needs_l1 (s : State) (path : List UInt8) (label : Int) (x : Vec) (x1 : Vec) (i : Int) : Option (Int ⊕ (Int ⊕ Unit)) :=
  bif decide (i < (s.Apps.length : Int)) then
    (idx s.Apps i).bind fun x2 =>
    (loop (dispatchref17_needs_l2 s path label x x1 x2) 0).bind fun q0 =>
    match q0 with
    | .inl q2 =>
      some (.inr (.inl q2))
    | .inr _ =>
      some (.inl (w64 (i + 1)))
  else
    some (.inr (.inr ()))

def dispatchref17_needs (s : State) (path : List UInt8) (label : Int) : Option Int :=
  (dispatchref11_Used s path label).bind fun x =>
  (dispatchref7_Least s path label).bind fun x1 =>
  (loop (dispatchref17_needs_l1 s path label x x1) 0).bind fun q0 =>
  match q0 with
  | .inl q3 =>
    some q3
  | .inr _ =>
    some 0
def h76 : Hint := (.s .z (.s .z (.s (.s .z (.b (.l [(9, .v (.int .i64) [])] [6, 9, 10, 11, 48, 71] [(1, [(6, .v (.int .i64) [])]), (2, [])] (.s .z (.s (.b (.s .z (.s .z (.b (.l [(11, .v (.int .i64) [])] [6, 11, 48, 71] [(1, [(6, .v (.int .i64) [])]), (4, [])] (.s (.s (.j [] [(0, [(48, .v .bool [])])] .z) .z) (.s (.b (.s (.j [] [(0, [(71, .v .bool [])])] .z) .z)) .z))))))) .z))))) .z)))
noncomputable def sp76 : Spec fam := ⟨[.v (.st 10) [], .v .str [], .v (.int .i64) []], [.v (.int .i64) []], fun a => dispatchref17_needs a.1 a.2.1 a.2.2.1⟩

def dispatchref17_leaf (s : State) (c : Cont) : Option (List UInt8) :=
  (dispatchref10_Find s c.App).bind fun x =>
  some x.1.Queue
def h148 : Hint := .z
noncomputable def sp148 : Spec fam := ⟨[.v (.st 10) [], .v (.st 7) []], [.v .str []], fun a => dispatchref17_leaf a.1 a.2.1⟩

def dispatchref17_in_l1 (l : List Int) (n : Int) (i : Int) : Option (Int ⊕ (Bool ⊕ Unit)) :=
  bif decide (i < (l.length : Int)) then
    (idx l i).bind fun x =>
    bif x == n then
      some (.inr (.inl true))
    else
      some (.inl (w64 (i + 1)))
  else
    some (.inr (.inr ()))

def dispatchref17_in (l : List Int) (n : Int) : Option Bool :=
  (loop (dispatchref17_in_l1 l n) 0).bind fun q0 =>
  match q0 with
  | .inl q =>
    some q
  | .inr _ =>
    some false
def h149 : Hint := (.s .z (.s (.s .z (.b (.l [(5, .v (.int .i64) [])] [4, 5] [(1, [(4, .v .bool [])]), (2, [])] .z))) .z))
noncomputable def sp149 : Spec fam := ⟨[.v (.slice (.int .i64)) [], .v (.int .i64) []], [.v .bool []], fun a => dispatchref17_in a.1 a.2.1⟩

def dispatchref17_marked_l1 (s : State) (path : List UInt8) (label : Int) (l : List Int) (t : Int × Int) : Option ((Int × Int) ⊕ Int) :=
  bif decide (t.2 < (s.Conts.length : Int)) then
    (
      (idx s.Conts t.2).bind fun x =>
      (
        bif x.Label == label then
          bif path == ([] : List UInt8) then
            bif x.Notice != 0 then
              some true
            else
              (dispatchref17_in l x.Id).bind fun x1 =>
              some x1
          else
            (dispatchref17_leaf s x).bind fun x2 =>
            bif x2 == path then
              bif x.Notice != 0 then
                some true
              else
                (dispatchref17_in l x.Id).bind fun x3 =>
                some x3
            else
              some false
        else
          some false).bind fun q =>
      bif q then
        let n := w64 (t.1 + x.Size.Mem)
        some n
      else
        some t.1).bind fun n1 =>
    some (.inl (n1, w64 (t.2 + 1)))
  else
    some (.inr t.1)

def dispatchref17_marked (s : State) (path : List UInt8) (label : Int) (l : List Int) : Option Int :=
  (loop (dispatchref17_marked_l1 s path label l) (0, 0)).bind fun n2 =>
  some n2
def h77 : Hint := (.s .z (.s .z (.s (.s .z (.b (.l [(9, .v (.int .i64) []), (10, .v (.int .i64) [])] [9, 10, 11, 49] [(2, [(9, .v (.int .i64) [])])] (.s .z (.s (.j [9, 11, 49] [(0, [(9, .v (.int .i64) [])])] (.b (.s .z (.s (.j [] [(0, [(49, .v .bool [])])] .z) .z)))) .z))))) .z)))
noncomputable def sp77 : Spec fam := ⟨[.v (.st 10) [], .v .str [], .v (.int .i64) [], .v (.slice (.int .i64)) []], [.v (.int .i64) []], fun a => dispatchref17_marked a.1 a.2.1 a.2.2.1 a.2.2.2.1⟩

def dispatchref17_newest_l1 (s : State) (path : List UInt8) (label : Int) (l : List Int) (t : Cont × Bool × Int) : Option ((Cont × Bool × Int) ⊕ ((Cont × Bool))) :=
  bif decide (t.2.2 < (s.Conts.length : Int)) then
    (
      (idx s.Conts t.2.2).bind fun x =>
      (
        bif x.Label != label then
          some true
        else
          (dispatchref17_leaf s x).bind fun x1 =>
          bif ! (x1 == path) then
            some true
          else
            bif x.Notice != 0 then
              some true
            else
              (dispatchref17_in l x.Id).bind fun x2 =>
              some x2).bind fun q =>
      bif q then
        some (t.1, t.2.1)
      else
        (
          bif ! t.2.1 then
            some true
          else
            bif t.1.Master then
              bif ! x.Master then
                some true
              else
                bif t.1.Master == x.Master then
                  some (decide (x.Id > t.1.Id))
                else
                  some false
            else
              bif t.1.Master == x.Master then
                some (decide (x.Id > t.1.Id))
              else
                some false).bind fun q1 =>
        bif q1 then
          some (x, true)
        else
          some (t.1, t.2.1)).bind fun q2 =>
    some (.inl (q2.1, q2.2, w64 (t.2.2 + 1)))
  else
    some (.inr (t.1, t.2.1))

def dispatchref17_newest (s : State) (path : List UInt8) (label : Int) (l : List Int) : Option (Cont × Bool) :=
  (loop (dispatchref17_newest_l1 s path label l) ((⟨0, 0, 0, ⟨0, 0⟩, 0, 0, false, 0⟩ : Cont), false, 0)).bind fun q3 =>
  some (q3.1, q3.2)
def h78 : Hint := (.s .z (.s .z (.s (.s .z (.b (.l [(10, .box (.st 7) []), (11, .v .bool []), (12, .v (.int .i64) [])] [10, 11, 12, 13, 48, 73] [(2, [(10, .box (.st 7) []), (11, .v .bool [])])] (.s .z (.s (.j [10, 11, 13, 48, 73] [(0, [(10, .box (.st 7) []), (11, .v .bool [])])] (.b (.s .z (.s (.s (.j [] [(0, [(48, .v .bool [])])] .z) .z) (.s (.j [] [(0, [(73, .v .bool [])])] .z) .z))))) .z))))) .z)))
noncomputable def sp78 : Spec fam := ⟨[.v (.st 10) [], .v .str [], .v (.int .i64) [], .v (.slice (.int .i64)) []], [.v (.st 7) [], .v .bool []], fun a => dispatchref17_newest a.1 a.2.1 a.2.2.1 a.2.2.2.1⟩

def dispatchref17_Pick_l3 (s : State) (label : Int) (shares : List Share) (l : List Int) (t1 : Int × Cont × Int) : Option ((Int × Cont × Int) ⊕ ((Int × Cont))) :=
  bif decide (t1.2.2 < (shares.length : Int)) then
    (
      (inb t1.2.2 shares.length).bind fun i1 =>
      (shares[i1]?).bind fun x5 =>
      (dispatchref11_Used s x5.Path label).bind fun x6 =>
      (inb t1.2.2 shares.length).bind fun i2 =>
      (shares[i2]?).bind fun x7 =>
      (dispatchref17_marked s x5.Path label l).bind fun x8 =>
      let over := w64 ((w64 (x6.Mem - x7.Mem)) - x8)
      (dispatchref17_newest s x5.Path label l).bind fun x9 =>
      (
        bif x9.2 then
          some (decide (over > t1.1))
        else
          some false).bind fun q =>
      bif q then
        some (over, x9.1)
      else
        some (t1.1, t1.2.1)).bind fun q1 =>
    some (.inl (q1.1, q1.2, w64 (t1.2.2 + 1)))
  else
    some (.inr (t1.1, t1.2.1))

def dispatchref17_Pick_l2 (s : State) (label : Int) (shares : List Share) (need1 : Int) (l : List Int) : Option (List Int ⊕ (List Int ⊕ List Int)) :=
  (dispatchref17_marked s ([] : List UInt8) label l).bind fun x4 =>
  bif decide (x4 < need1) then
    (loop (dispatchref17_Pick_l3 s label shares l) (0, (⟨0, 0, 0, ⟨0, 0⟩, 0, 0, false, 0⟩ : Cont), 0)).bind fun q2 =>
    bif q2.1 == 0 then
      some (.inr (.inl l))
    else
      (app 8 l [q2.2.Id]).bind fun l1 =>
      some (.inl l1)
  else
    some (.inr (.inr l))

def dispatchref17_Pick_l1 (s : State) (label : Int) (shares : List Share) (t : Int × Int) : Option ((Int × Int) ⊕ Int) :=
  bif decide (t.2 < (shares.length : Int)) then
    (inb t.2 shares.length).bind fun i =>
    (shares[i]?).bind fun x2 =>
    (dispatchref17_needs s x2.Path label).bind fun x3 =>
    some (.inl (w64 (t.1 + x3), w64 (t.2 + 1)))
  else
    some (.inr t.1)

def dispatchref17_Pick (s : State) (label : Int) : Option (List Int) :=
  (dispatchref16_Leaves s label).bind fun shares =>
  (dispatchref7_Total s label).bind fun x =>
  (dispatchref11_Used s ([114, 111, 111, 116] : List UInt8) label).bind fun x1 =>
  let need := w64 (0 - (imax (w64 (x.Mem - x1.Mem)) 0))
  (loop (dispatchref17_Pick_l1 s label shares) (need, 0)).bind fun need1 =>
  (loop (dispatchref17_Pick_l2 s label shares need1) []).bind fun q0 =>
  match q0 with
  | .inl q3 =>
    some q3
  | .inr l2 =>
    some l2
def h26 : Hint := (.s .z (.s .z (.s .z (.s (.s .z (.b (.l [(6, .v (.int .i64) []), (7, .v (.int .i64) [])] [6, 7] [(2, [(6, .v (.int .i64) [])])] .z))) (.s .z (.s (.b (.l [(8, .v (.slice (.int .i64)) [0])] [4, 8, 9, 10, 11, 12, 13, 14, 94] [(1, [(4, .v (.slice (.int .i64)) [0])]), (4, [(8, .v (.slice (.int .i64)) [0])])] (.s .z (.b (.s .z (.s (.s .z (.b (.l [(9, .v (.int .i64) []), (10, .box (.st 7) []), (11, .v (.int .i64) [])] [9, 10, 11, 12, 13, 14, 94] [(6, [(9, .v (.int .i64) []), (10, .box (.st 7) [])])] (.s .z (.s (.j [9, 10, 12, 13, 14, 94] [(0, [(9, .v (.int .i64) []), (10, .box (.st 7) [])])] (.b (.s .z (.s .z (.s .z (.s (.j [] [(0, [(94, .v .bool [])])] .z) .z)))))) .z))))) .z)))))) .z))))))
noncomputable def sp26 : Spec fam := ⟨[.v (.st 10) [], .v (.int .i64) []], [.v (.slice (.int .i64)) [0]], fun a => dispatchref17_Pick a.1 a.2.1⟩

def dispatchref16_Mem_l1 (path : List UInt8) (l : List Share) (i : Int) : Option (Int ⊕ (Int ⊕ Unit)) :=
  bif decide (i < (l.length : Int)) then
    (inb i l.length).bind fun i1 =>
    (l[i1]?).bind fun x =>
    bif x.Path == path then
      (inb i l.length).bind fun i2 =>
      (l[i2]?).bind fun x1 =>
      some (.inr (.inl (x1.Mem)))
    else
      some (.inl (w64 (i + 1)))
  else
    some (.inr (.inr ()))

def dispatchref16_Mem (s : State) (label : Int) (path : List UInt8) : Option Int :=
  (dispatchref16_Leaves s label).bind fun l =>
  (loop (dispatchref16_Mem_l1 path l) 0).bind fun q0 =>
  match q0 with
  | .inl q =>
    some q
  | .inr _ =>
    some 0
def h33 : Hint := (.s .z (.s .z (.s (.s .z (.b (.l [(8, .v (.int .i64) [])] [6, 8] [(1, [(6, .v (.int .i64) [])]), (2, [])] .z))) .z)))
noncomputable def sp33 : Spec fam := ⟨[.v (.st 10) [], .v (.int .i64) [], .v .str []], [.v (.int .i64) []], fun a => dispatchref16_Mem a.1 a.2.1 a.2.2.1⟩

def dispatchref17_note_l1 (id_ : Int) (t : Int) (t1 : List Cont × Int) : Option ((List Cont × Int) ⊕ List Cont) :=
  bif decide (t1.2 < (t1.1.length : Int)) then
    (
      (inb t1.2 t1.1.length).bind fun i =>
      (t1.1[i]?).bind fun x =>
      bif x.Id == id_ then
        (inb t1.2 t1.1.length).bind fun i1 =>
        (t1.1[i1]?).bind fun x1 =>
        some (List.set t1.1 i1 (⟨x1.Id, x1.App, x1.Node, ⟨x1.Size.Mem, x1.Size.Cores⟩, x1.Prio, x1.Label, x1.Master, t⟩ : Cont))
      else
        some t1.1).bind fun l1 =>
    some (.inl (l1, w64 (t1.2 + 1)))
  else
    some (.inr t1.1)

def dispatchref17_note (s : State) (id_ : Int) (t : Int) : Option State :=
  (app 72 [] s.Conts).bind fun l =>
  (loop (dispatchref17_note_l1 id_ t) (l, 0)).bind fun l2 =>
  some (⟨⟨s.Conf.Labels, s.Conf.Queues⟩, s.Nodes, s.Apps, l2, s.Slots, s.Plans, s.Now, s.Epoch, s.Seq⟩ : State)
def h87 : Hint := (.s .z (.s .z (.s (.s .z (.b (.l [(7, .row (.st 7) false), (8, .v (.int .i64) [])] [7, 8] [(2, [(7, .row (.st 7) false)])] (.s .z (.s (.j [7] [(0, [(7, .row (.st 7) false)])] .z) .z))))) .z)))
noncomputable def sp87 : Spec fam := ⟨[.v (.st 10) [], .v (.int .i64) [], .v (.int .i64) []], [.v (.st 10) [4]], fun a => dispatchref17_note a.1 a.2.1 a.2.2.1⟩

def dispatchref17_others_l1 (s : State) (c : Cont) (t : Int × Int) : Option ((Int × Int) ⊕ Int) :=
  (
    bif decide (t.2 < (s.Conts.length : Int)) then
      some c.Master
    else
      some false).bind fun q =>
  bif q then
    (
      (
        (idx s.Conts t.2).bind fun x =>
        bif x.App == c.App then
          (idx s.Conts t.2).bind fun x1 =>
          bif x1.Id != c.Id then
            (idx s.Conts t.2).bind fun x2 =>
            some (x2.Label == c.Label)
          else
            some false
        else
          some false).bind fun q1 =>
      bif q1 then
        (idx s.Conts t.2).bind fun x3 =>
        let n := w64 (t.1 + x3.Size.Mem)
        some n
      else
        some t.1).bind fun n1 =>
    some (.inl (n1, w64 (t.2 + 1)))
  else
    some (.inr t.1)

def dispatchref17_others (s : State) (c : Cont) : Option Int :=
  (loop (dispatchref17_others_l1 s c) (0, 0)).bind fun n2 =>
  some n2
def h164 : Hint := (.s .z (.s .z (.s (.s .z (.b (.l [(5, .v (.int .i64) []), (6, .v (.int .i64) [])] [5, 6, 15, 48] [(2, [(5, .v (.int .i64) [])])] (.s (.s (.j [] [(0, [(15, .v .bool [])])] .z) .z) (.s (.j [5, 48] [(0, [(5, .v (.int .i64) [])])] (.b (.s (.j [] [(0, [(48, .v .bool [])])] .z) .z))) .z))))) .z)))
noncomputable def sp164 : Spec fam := ⟨[.v (.st 10) [], .v (.st 7) []], [.v (.int .i64) []], fun a => dispatchref17_others a.1 a.2.1⟩

def dispatchref17_kill_l2 (label : Int) (l2 : List Cont) (t1 : State × Int) : Option ((State × Int) ⊕ State) :=
  bif decide (t1.2 < (l2.length : Int)) then
    (
      (inb t1.2 l2.length).bind fun i1 =>
      (l2[i1]?).bind fun x1 =>
      (dispatchref10_Cont t1.1 x1.Id).bind fun x2 =>
      bif ! x2.2 then
        some t1.1
      else
        (dispatchref17_leaf t1.1 x2.1).bind fun x3 =>
        (dispatchref11_Used t1.1 x3 label).bind fun x4 =>
        (dispatchref17_others t1.1 x2.1).bind fun x5 =>
        (dispatchref17_leaf t1.1 x2.1).bind fun x6 =>
        (dispatchref16_Mem t1.1 label x6).bind fun x7 =>
        bif decide ((w64 (x4.Mem - x5)) > x7) then
          (dispatchref10_Lose t1.1 [x2.1.Id]).bind fun x8 =>
          some x8
        else
          (dispatchref17_note t1.1 x2.1.Id 0).bind fun x9 =>
          some x9).bind fun s1 =>
    some (.inl (s1, w64 (t1.2 + 1)))
  else
    some (.inr t1.1)

def dispatchref17_kill_l1 (s : State) (label : Int) (t : List Cont × Int) : Option ((List Cont × Int) ⊕ List Cont) :=
  bif decide (t.2 ≥ 0) then
    (
      (idx s.Conts t.2).bind fun x =>
      (
        bif x.Label == label then
          bif x.Notice != 0 then
            some (decide ((w64 (x.Notice + 3)) ≤ s.Now))
          else
            some false
        else
          some false).bind fun q =>
      bif q then
        (app 72 t.1 [x]).bind fun l =>
        some l
      else
        some t.1).bind fun l1 =>
    some (.inl (l1, w64 (t.2 - 1)))
  else
    some (.inr t.1)

def dispatchref17_kill (s : State) (label : Int) : Option State :=
  let i := w64 ((s.Conts.length : Int) - 1)
  (loop (dispatchref17_kill_l1 s label) ([], i)).bind fun l2 =>
  (loop (dispatchref17_kill_l2 label l2) (s, 0)).bind fun s2 =>
  some s2
def h86 : Hint := (.s .z (.s .z (.s (.s .z (.b (.l [(5, .v (.slice (.st 7)) [0]), (6, .v (.int .i64) [])] [5, 6, 7, 40] [(2, [(5, .v (.slice (.st 7)) [0])])] (.s .z (.s (.j [5, 7, 40] [(0, [(5, .v (.slice (.st 7)) [0])])] (.b (.s .z (.s (.j [] [(0, [(40, .v .bool [])])] .z) .z)))) .z))))) (.s (.s .z (.b (.l [(2, .box (.st 10) []), (8, .v (.int .i64) [])] [2, 8, 9] [(4, [(2, .box (.st 10) [])])] (.s .z (.s (.j [2, 9] [(0, [(2, .box (.st 10) [])])] .z) .z))))) .z))))
noncomputable def sp86 : Spec fam := ⟨[.v (.st 10) [], .v (.int .i64) []], [.v (.st 10) []], fun a => dispatchref17_kill a.1 a.2.1⟩

def dispatchref17_Gone_l1 (was : State) (now : State) (t : List Int × Int) : Option ((List Int × Int) ⊕ List Int) :=
  bif decide (t.2 < (was.Conts.length : Int)) then
    (
      (idx was.Conts t.2).bind fun x =>
      (dispatchref10_Cont now x.Id).bind fun x1 =>
      bif ! x1.2 then
        (idx was.Conts t.2).bind fun x2 =>
        (app 8 t.1 [x2.Id]).bind fun l =>
        some l
      else
        some t.1).bind fun l1 =>
    some (.inl (l1, w64 (t.2 + 1)))
  else
    some (.inr t.1)

def dispatchref17_Gone (was : State) (now : State) : Option (List Int) :=
  (loop (dispatchref17_Gone_l1 was now) ([], 0)).bind fun l2 =>
  some l2
def h88 : Hint := (.s .z (.s .z (.s (.s .z (.b (.l [(5, .v (.slice (.int .i64)) [0]), (6, .v (.int .i64) [])] [5, 6] [(2, [(5, .v (.slice (.int .i64)) [0])])] (.s .z (.s (.j [5] [(0, [(5, .v (.slice (.int .i64)) [0])])] .z) .z))))) .z)))
noncomputable def sp88 : Spec fam := ⟨[.v (.st 10) [], .v (.st 10) []], [.v (.slice (.int .i64)) [0]], fun a => dispatchref17_Gone a.1 a.2.1⟩

def dispatchref17_Round_l2 (l : List Int) (t1 : State × Int) : Option ((State × Int) ⊕ State) :=
  bif decide (t1.2 < (l.length : Int)) then
    (inb t1.2 l.length).bind fun i =>
    (l[i]?).bind fun x1 =>
    (dispatchref17_note t1.1 x1 (imax t1.1.Now 1)).bind fun x2 =>
    some (.inl (x2, w64 (t1.2 + 1)))
  else
    some (.inr t1.1)

def dispatchref17_Round_l1 (t : State × Int) : Option ((State × Int) ⊕ State) :=
  bif decide (t.2 < (t.1.Conf.Labels.length : Int)) then
    (dispatchref17_kill t.1 t.2).bind fun x =>
    (dispatchref17_Pick x t.2).bind fun l =>
    (loop (dispatchref17_Round_l2 l) (x, 0)).bind fun s1 =>
    some (.inl (s1, w64 (t.2 + 1)))
  else
    some (.inr t.1)

def dispatchref17_Round (s : State) : Option (State × List Int) :=
  (loop dispatchref17_Round_l1 (s, 0)).bind fun s2 =>
  (dispatchref17_Gone s s2).bind fun x3 =>
  some (s2, x3)
def h28 : Hint := (.s .z (.s .z (.s (.s .z (.b (.l [(1, .box (.st 10) []), (5, .v (.int .i64) [])] [1, 5, 6, 7] [(2, [(1, .box (.st 10) [])])] (.s .z (.s (.b (.s .z (.s .z (.s .z (.b (.l [(1, .box (.st 10) []), (7, .v (.int .i64) [])] [1, 7] [(4, [(1, .box (.st 10) [])])] .z)))))) .z))))) .z)))
noncomputable def sp28 : Spec fam := ⟨[.v (.st 10) []], [.v (.st 10) [], .v (.slice (.int .i64)) [0]], fun a => dispatchref17_Round a.1⟩

def dispatchref8_Silent_l1 (s : State) (t : List Int × Int) : Option ((List Int × Int) ⊕ List Int) :=
  bif decide (t.2 < (s.Nodes.length : Int)) then
    (
      (
        (idx s.Nodes t.2).bind fun x =>
        bif x.Up then
          (idx s.Nodes t.2).bind fun x1 =>
          some (decide ((w64 (s.Now - x1.Seen)) ≥ 10))
        else
          some false).bind fun q =>
      bif q then
        (idx s.Nodes t.2).bind fun x2 =>
        (app 8 t.1 [x2.Id]).bind fun l =>
        some l
      else
        some t.1).bind fun l1 =>
    some (.inl (l1, w64 (t.2 + 1)))
  else
    some (.inr t.1)

def dispatchref8_Silent (s : State) : Option (List Int) :=
  (loop (dispatchref8_Silent_l1 s) ([], 0)).bind fun l2 =>
  some l2
def h214 : Hint := (.s .z (.s .z (.s (.s .z (.b (.l [(3, .v (.slice (.int .i64)) [0]), (4, .v (.int .i64) [])] [3, 4, 29] [(2, [(3, .v (.slice (.int .i64)) [0])])] (.s .z (.s (.j [3, 29] [(0, [(3, .v (.slice (.int .i64)) [0])])] (.b (.s (.j [] [(0, [(29, .v .bool [])])] .z) .z))) .z))))) .z)))
noncomputable def sp214 : Spec fam := ⟨[.v (.st 10) []], [.v (.slice (.int .i64)) [0]], fun a => dispatchref8_Silent a.1⟩

def dispatchref8_Down (s : State) (id_ : Int) : Option State :=
  (dispatchref8_Find s id_).bind fun x =>
  bif ! x.2 then
    some s
  else
    (dispatchref8_put s (⟨x.1.Id, x.1.Label, x.1.Rack, ⟨x.1.Cap.Mem, x.1.Cap.Cores⟩, x.1.Seen, x.1.Beat, false⟩ : Node)).bind fun x1 =>
    some x1
def h215 : Hint := .z
noncomputable def sp215 : Spec fam := ⟨[.v (.st 10) [], .v (.int .i64) []], [.v (.st 10) []], fun a => dispatchref8_Down a.1 a.2.1⟩

def dispatchref10_Silent_l1 (s : State) (t : List Int × Int) : Option ((List Int × Int) ⊕ List Int) :=
  bif decide (t.2 < (s.Apps.length : Int)) then
    (
      (
        (idx s.Apps t.2).bind fun x =>
        bif x.State == 2 then
          (idx s.Apps t.2).bind fun x1 =>
          some (decide ((w64 (s.Now - x1.Seen)) ≥ 15))
        else
          some false).bind fun q =>
      bif q then
        (idx s.Apps t.2).bind fun x2 =>
        (app 8 t.1 [x2.Id]).bind fun l =>
        some l
      else
        some t.1).bind fun l1 =>
    some (.inl (l1, w64 (t.2 + 1)))
  else
    some (.inr t.1)

def dispatchref10_Silent (s : State) : Option (List Int) :=
  (loop (dispatchref10_Silent_l1 s) ([], 0)).bind fun l2 =>
  some l2
def h216 : Hint := (.s .z (.s .z (.s (.s .z (.b (.l [(3, .v (.slice (.int .i64)) [0]), (4, .v (.int .i64) [])] [3, 4, 30] [(2, [(3, .v (.slice (.int .i64)) [0])])] (.s .z (.s (.j [3, 30] [(0, [(3, .v (.slice (.int .i64)) [0])])] (.b (.s (.j [] [(0, [(30, .v .bool [])])] .z) .z))) .z))))) .z)))
noncomputable def sp216 : Spec fam := ⟨[.v (.st 10) []], [.v (.slice (.int .i64)) [0]], fun a => dispatchref10_Silent a.1⟩

def dispatchref19_boss_l1 (s : State) (app_ : Int) (i : Int) : Option (Int ⊕ (Int ⊕ Unit)) :=
  bif decide (i < (s.Conts.length : Int)) then
    (
      (idx s.Conts i).bind fun x =>
      bif x.App == app_ then
        (idx s.Conts i).bind fun x1 =>
        some x1.Master
      else
        some false).bind fun q =>
    bif q then
      (idx s.Conts i).bind fun x2 =>
      some (.inr (.inl (x2.Id)))
    else
      some (.inl (w64 (i + 1)))
  else
    some (.inr (.inr ()))

def dispatchref19_boss (s : State) (app_ : Int) : Option Int :=
  (loop (dispatchref19_boss_l1 s app_) 0).bind fun q0 =>
  match q0 with
  | .inl q1 =>
    some q1
  | .inr _ =>
    some (-1)
def h217 : Hint := (.s .z (.s (.s .z (.b (.l [(5, .v (.int .i64) [])] [4, 5, 28] [(1, [(4, .v (.int .i64) [])]), (2, [])] (.s .z (.s (.b (.s (.j [] [(0, [(28, .v .bool [])])] .z) .z)) .z))))) .z))
noncomputable def sp217 : Spec fam := ⟨[.v (.st 10) [], .v (.int .i64) []], [.v (.int .i64) []], fun a => dispatchref19_boss a.1 a.2.1⟩

def dispatchref19_tick_l3 (s2 : State) (t2 : List Plan × Int) : Option ((List Plan × Int) ⊕ List Plan) :=
  bif decide (t2.2 < (s2.Plans.length : Int)) then
    (
      (idx s2.Plans t2.2).bind fun x12 =>
      bif decide (x12.Until > s2.Now) then
        (idx s2.Plans t2.2).bind fun x13 =>
        (app 48 t2.1 [x13]).bind fun l2 =>
        some l2
      else
        some t2.1).bind fun ps =>
    some (.inl (ps, w64 (t2.2 + 1)))
  else
    some (.inr t2.1)

def dispatchref19_tick_l2 (l1 : List Int) (t1 : State × Int) : Option ((State × Int) ⊕ State) :=
  bif decide (t1.2 < (l1.length : Int)) then
    (inb t1.2 l1.length).bind fun i3 =>
    (l1[i3]?).bind fun x9 =>
    (dispatchref19_boss t1.1 x9).bind fun x10 =>
    (dispatchref10_Lose t1.1 [x10]).bind fun x11 =>
    some (.inl (x11, w64 (t1.2 + 1)))
  else
    some (.inr t1.1)

def dispatchref19_tick_l1 (l : List Int) (t : State × Int) : Option ((State × Int) ⊕ State) :=
  bif decide (t.2 < (l.length : Int)) then
    (inb t.2 l.length).bind fun i =>
    (l[i]?).bind fun x2 =>
    (dispatchref8_Down t.1 x2).bind fun x3 =>
    (inb t.2 l.length).bind fun i1 =>
    (l[i1]?).bind fun x4 =>
    (dispatchref14_NoSlot x3 x4).bind fun x5 =>
    (inb t.2 l.length).bind fun i2 =>
    (l[i2]?).bind fun x6 =>
    (dispatchref19_on x5 x6).bind fun x7 =>
    (dispatchref10_Lose x5 x7).bind fun x8 =>
    some (.inl (x8, w64 (t.2 + 1)))
  else
    some (.inr t.1)

def dispatchref19_tick (s : State) (n : Int) : Option (State × Output) :=
  (
    bif decide (n < 1) then
      some true
    else
      some (decide (n > 100))).bind fun q =>
  bif q then
    (dispatchref19_bad s 1).bind fun x =>
    some (x.1, x.2)
  else
    bif decide ((w64 (s.Now + n)) > 1000000000) then
      (dispatchref19_bad s 11).bind fun x1 =>
      some (x1.1, x1.2)
    else
      (dispatchref8_Silent (⟨⟨s.Conf.Labels, s.Conf.Queues⟩, s.Nodes, s.Apps, s.Conts, s.Slots, s.Plans, w64 (s.Now + n), s.Epoch, s.Seq⟩ : State)).bind fun l =>
      (loop (dispatchref19_tick_l1 l) ((⟨⟨s.Conf.Labels, s.Conf.Queues⟩, s.Nodes, s.Apps, s.Conts, s.Slots, s.Plans, w64 (s.Now + n), s.Epoch, s.Seq⟩ : State), 0)).bind fun s1 =>
      (dispatchref10_Silent s1).bind fun l1 =>
      (loop (dispatchref19_tick_l2 l1) (s1, 0)).bind fun s2 =>
      (loop (dispatchref19_tick_l3 s2) ([], 0)).bind fun ps1 =>
      (dispatchref17_Round (⟨⟨s2.Conf.Labels, s2.Conf.Queues⟩, s2.Nodes, s2.Apps, s2.Conts, s2.Slots, ps1, s2.Now, s2.Epoch, s2.Seq⟩ : State)).bind fun x14 =>
      (dispatchref17_Gone s x14.1).bind fun x15 =>
      some (x14.1, (⟨0, [], [], x15, 0⟩ : Output))
def h129 : Hint := (.s .z (.s (.s (.j [] [(0, [(17, .v .bool [])])] .z) .z) (.s .z (.s .z (.s .z (.s .z (.s (.s .z (.b (.l [(2, .box (.st 10) []), (8, .v (.int .i64) [])] [2, 8] [(2, [(2, .box (.st 10) [])])] .z))) (.s .z (.s (.s .z (.b (.l [(2, .box (.st 10) []), (9, .v (.int .i64) [])] [2, 9] [(4, [(2, .box (.st 10) [])])] .z))) (.s .z (.s (.s .z (.b (.l [(10, .v (.slice (.st 9)) [0]), (11, .v (.int .i64) [])] [10, 11] [(6, [(10, .v (.slice (.st 9)) [0])])] (.s .z (.s (.j [10] [(0, [(10, .v (.slice (.st 9)) [0])])] .z) .z))))) .z)))))))))))
noncomputable def sp129 : Spec fam := ⟨[.v (.st 10) [], .v (.int .i64) []], [.v (.st 10) [], .v (.st 13) [1, 2, 3]], fun a => dispatchref19_tick a.1 a.2.1⟩

def dispatchref15_part (n : Int) : Option Bool :=
  bif decide (n ≥ 0) then
    some (decide (n ≤ 1073741824))
  else
    some false
def h297 : Hint := .z
noncomputable def sp297 : Spec fam := ⟨[.v (.int .i64) []], [.v .bool []], fun a => dispatchref15_part a.1⟩

def dispatchref15_At_l1 (l : List Plan) (label : Int) (t : Int) (t1 : Vec × Int) : Option ((Vec × Int) ⊕ Vec) :=
  bif decide (t1.2 < (l.length : Int)) then
    (
      (
        (idx l t1.2).bind fun x =>
        bif x.Label == label then
          (idx l t1.2).bind fun x1 =>
          bif decide (x1.From ≤ t) then
            (idx l t1.2).bind fun x2 =>
            some (decide (t < x2.Until))
          else
            some false
        else
          some false).bind fun q =>
      bif q then
        (idx l t1.2).bind fun x3 =>
        (dispatchref1_Plus t1.1 x3.Need).bind fun x4 =>
        some x4
      else
        some t1.1).bind fun v =>
    some (.inl (v, w64 (t1.2 + 1)))
  else
    some (.inr t1.1)

def dispatchref15_At (l : List Plan) (label : Int) (t : Int) : Option Vec :=
  (loop (dispatchref15_At_l1 l label t) ((⟨0, 0⟩ : Vec), 0)).bind fun v1 =>
  some v1
def h344 : Hint := (.s .z (.s .z (.s (.s .z (.b (.l [(7, .box (.st 0) []), (8, .v (.int .i64) [])] [7, 8, 40] [(2, [(7, .box (.st 0) [])])] (.s .z (.s (.j [7, 40] [(0, [(7, .box (.st 0) [])])] (.b (.s (.j [] [(0, [(40, .v .bool [])])] .z) .z))) .z))))) .z)))
noncomputable def sp344 : Spec fam := ⟨[.v (.slice (.st 9)) [], .v (.int .i64) [], .v (.int .i64) []], [.v (.st 0) []], fun a => dispatchref15_At a.1 a.2.1 a.2.2.1⟩

def dispatchref15_fits_l1 (l : List Plan) (total : Vec) (p : Plan) (t : Int) (long : Int) (i : Int) : Option (Int ⊕ (Bool ⊕ Unit)) :=
  bif decide (i < (l.length : Int)) then
    (idx l i).bind fun x3 =>
    (
      bif decide (x3.From > t) then
        bif decide ((w64 (x3.From - t)) < long) then
          (dispatchref15_At l p.Label x3.From).bind fun x4 =>
          (dispatchref1_Plus x4 p.Need).bind fun x5 =>
          (dispatchref1_Fits x5 total).bind fun x6 =>
          some (! x6)
        else
          some false
      else
        some false).bind fun q =>
    bif q then
      some (.inr (.inl false))
    else
      some (.inl (w64 (i + 1)))
  else
    some (.inr (.inr ()))

def dispatchref15_fits (l : List Plan) (total : Vec) (p : Plan) (t : Int) (long : Int) : Option Bool :=
  (dispatchref15_At l p.Label t).bind fun x =>
  (dispatchref1_Plus x p.Need).bind fun x1 =>
  (dispatchref1_Fits x1 total).bind fun x2 =>
  bif ! x2 then
    some false
  else
    (loop (dispatchref15_fits_l1 l total p t long) 0).bind fun q0 =>
    match q0 with
    | .inl q1 =>
      some q1
    | .inr _ =>
      some true
def h298 : Hint := (.s .z (.s .z (.s (.s .z (.b (.l [(11, .v (.int .i64) [])] [10, 11, 57] [(1, [(10, .v .bool [])]), (2, [])] (.s .z (.s (.b (.s .z (.s (.j [] [(0, [(57, .v .bool [])])] .z) .z))) .z))))) .z)))
noncomputable def sp298 : Spec fam := ⟨[.v (.slice (.st 9)) [], .v (.st 0) [], .v (.st 9) [], .v (.int .i64) [], .v (.int .i64) []], [.v .bool []], fun a => dispatchref15_fits a.1 a.2.1 a.2.2.1 a.2.2.2.1 a.2.2.2.2.1⟩

def dispatchref15_Place_l1 (l : List Plan) (total : Vec) (p : Plan) (long : Int) (t : Int × Int) : Option ((Int × Int) ⊕ Int) :=
  bif decide (t.2 < (l.length : Int)) then
    (
      (
        bif decide (t.2 ≥ 0) then
          (idx l t.2).bind fun x2 =>
          some x2.Until
        else
          some p.From).bind fun t1 =>
      (
        bif decide (t1 ≥ p.From) then
          bif decide (t1 ≤ 1000000) then
            bif decide ((w64 (t1 + long)) ≤ p.Until) then
              bif decide (t.1 < 0) then
                (dispatchref15_fits l total p t1 long).bind fun x3 =>
                some x3
              else
                bif decide (t1 < t.1) then
                  (dispatchref15_fits l total p t1 long).bind fun x4 =>
                  some x4
                else
                  some false
            else
              some false
          else
            some false
        else
          some false).bind fun q1 =>
      bif q1 then
        some t1
      else
        some t.1).bind fun best =>
    some (.inl (best, w64 (t.2 + 1)))
  else
    some (.inr t.1)

def dispatchref15_Place (l : List Plan) (total : Vec) (p : Plan) (long : Int) : Option (Int × Int) :=
  (
    bif decide (long < 1) then
      some true
    else
      bif decide (long > 1000) then
        some true
      else
        bif decide (p.From < 0) then
          some true
        else
          bif decide (p.From > 1000000) then
            some true
          else
            bif decide (p.Until < 0) then
              some true
            else
              bif decide (p.Until > 1000000) then
                some true
              else
                (dispatchref15_part p.Need.Mem).bind fun x =>
                bif ! x then
                  some true
                else
                  (dispatchref15_part p.Need.Cores).bind fun x1 =>
                  some (! x1)).bind fun q =>
  bif q then
    some (0, 1)
  else
    (loop (dispatchref15_Place_l1 l total p long) ((-1), (-1))).bind fun best1 =>
    bif decide (best1 < 0) then
      some (0, 16)
    else
      some (best1, 0)
def h218 : Hint := (.s .z (.s (.s (.j [] [(0, [(52, .v .bool [])])] .z) .z) (.s .z (.s (.s .z (.b (.l [(10, .v (.int .i64) []), (11, .v (.int .i64) [])] [10, 11, 12, 100] [(2, [(10, .v (.int .i64) [])])] (.s .z (.s (.j [10, 12, 100] [(0, [(10, .v (.int .i64) [])])] (.b (.s .z (.s (.j [12] [(0, [(12, .v (.int .i64) [])])] .z) (.s (.j [] [(0, [(100, .v .bool [])])] .z) .z))))) .z))))) .z))))
noncomputable def sp218 : Spec fam := ⟨[.v (.slice (.st 9)) [], .v (.st 0) [], .v (.st 9) [], .v (.int .i64) []], [.v (.int .i64) [], .v (.int .i64) []], fun a => dispatchref15_Place a.1 a.2.1 a.2.2.1 a.2.2.2.1⟩

def dispatchref15_Add_l1 (s : State) (p : Plan) (t : State × Int × Int) : Option ((State × Int × Int) ⊕ ((State × Int × Int) ⊕ (State × Int))) :=
  bif decide (t.2.2 < (s.Plans.length : Int)) then
    (
      (idx s.Plans t.2.2).bind fun x =>
      bif x.Id == p.Id then
        some (.inr (s, 0, 7))
      else
        (idx s.Plans t.2.2).bind fun x1 =>
        bif decide (x1.Id < p.Id) then
          some (.inl (t.1, w64 (t.2.2 + 1)))
        else
          some (.inl (t.1, t.2.1)) : Option ((State × Int) ⊕ (State × Int × Int))).bind fun q0 =>
    match q0 with
    | .inl q1 =>
      some (.inl (q1.1, q1.2, w64 (t.2.2 + 1)))
    | .inr q2 =>
      some (.inr (.inl (q2.1, q2.2.1, q2.2.2)))
  else
    some (.inr (.inr (t.1, t.2.1)))

def dispatchref15_Add (s : State) (p : Plan) (long : Int) : Option (State × Int × Int) :=
  (
    bif decide (p.Id < 0) then
      some true
    else
      bif decide (p.Id > 999) then
        some true
      else
        bif decide (p.Label < 0) then
          some true
        else
          bif decide (p.Label ≥ (s.Conf.Labels.length : Int)) then
            some true
          else
            some ((p.Need.Mem == 0) && (p.Need.Cores == 0))).bind fun q =>
  bif q then
    some (s, 0, 1)
  else
    (loop (dispatchref15_Add_l1 s p) ((⟨⟨[], []⟩, [], [], [], [], [], 0, 0, 0⟩ : State), 0, 0)).bind fun q0 =>
    match q0 with
    | .inl q3 =>
      some (q3.1, q3.2.1, q3.2.2)
    | .inr q4 =>
      bif decide ((s.Plans.length : Int) ≥ 12) then
        some (s, 0, 4)
      else
        bif decide (p.From < s.Now) then
          some (s, 0, 15)
        else
          (dispatchref7_Total s p.Label).bind fun x2 =>
          (dispatchref15_Place s.Plans x2 p long).bind fun x3 =>
          bif x3.2 != 0 then
            some (s, 0, x3.2)
          else
            (slc s.Plans 0 q4.2).bind fun l =>
            (app 48 [] l).bind fun l1 =>
            (app 48 l1 [(⟨p.Id, p.Label, x3.1, w64 (x3.1 + long), ⟨p.Need.Mem, p.Need.Cores⟩⟩ : Plan)]).bind fun l2 =>
            (slc s.Plans q4.2 (s.Plans.length : Int)).bind fun l3 =>
            (app 48 l2 l3).bind fun l4 =>
            some ((⟨⟨s.Conf.Labels, s.Conf.Queues⟩, s.Nodes, s.Apps, s.Conts, s.Slots, l4, s.Now, s.Epoch, s.Seq⟩ : State), x3.1, 0)
def h130 : Hint := (.s .z (.s (.s (.j [] [(0, [(41, .v .bool [])])] .z) .z) (.s .z (.s (.s .z (.b (.l [(6, .box (.st 10) [0, 1, 2, 3, 4, 5, 6]), (9, .v (.int .i64) []), (10, .v (.int .i64) [])] [6, 7, 8, 9, 10] [(1, [(6, .box (.st 10) []), (7, .v (.int .i64) []), (8, .v (.int .i64) [])]), (2, [(6, .box (.st 10) [0, 1, 2, 3, 4, 5, 6]), (9, .v (.int .i64) [])])] (.s .z (.s (.j [6, 7, 8, 9] [(0, [(6, .box (.st 10) [0, 1, 2, 3, 4, 5, 6]), (9, .v (.int .i64) [])]), (1, [(6, .box (.st 10) []), (7, .v (.int .i64) []), (8, .v (.int .i64) [])])] .z) .z))))) .z))))
noncomputable def sp130 : Spec fam := ⟨[.v (.st 10) [], .v (.st 9) [], .v (.int .i64) []], [.v (.st 10) [], .v (.int .i64) [], .v (.int .i64) []], fun a => dispatchref15_Add a.1 a.2.1 a.2.2.1⟩

def dispatchref15_Drop_l1 (s : State) (id_ : Int) (t : List Plan × Int) : Option ((List Plan × Int) ⊕ List Plan) :=
  bif decide (t.2 < (s.Plans.length : Int)) then
    (
      (idx s.Plans t.2).bind fun x =>
      bif x.Id != id_ then
        (idx s.Plans t.2).bind fun x1 =>
        (app 48 t.1 [x1]).bind fun l =>
        some l
      else
        some t.1).bind fun l1 =>
    some (.inl (l1, w64 (t.2 + 1)))
  else
    some (.inr t.1)

def dispatchref15_Drop (s : State) (id_ : Int) : Option (State × Int) :=
  (loop (dispatchref15_Drop_l1 s id_) ([], 0)).bind fun l2 =>
  bif (l2.length : Int) == (s.Plans.length : Int) then
    some (s, 2)
  else
    some ((⟨⟨s.Conf.Labels, s.Conf.Queues⟩, s.Nodes, s.Apps, s.Conts, s.Slots, l2, s.Now, s.Epoch, s.Seq⟩ : State), 0)
def h131 : Hint := (.s .z (.s .z (.s (.s .z (.b (.l [(6, .v (.slice (.st 9)) [0]), (7, .v (.int .i64) [])] [6, 7] [(2, [(6, .v (.slice (.st 9)) [0])])] (.s .z (.s (.j [6] [(0, [(6, .v (.slice (.st 9)) [0])])] .z) .z))))) .z)))
noncomputable def sp131 : Spec fam := ⟨[.v (.st 10) [], .v (.int .i64) []], [.v (.st 10) [], .v (.int .i64) []], fun a => dispatchref15_Drop a.1 a.2.1⟩

def dispatchref19_Step (s : State) (x : Input) : Option (State × Output) :=
  bif x.Kind == 1 then
    (dispatchref19_config s x.Text).bind fun x1 =>
    some (x1.1, x1.2)
  else
    bif x.Kind == 2 then
      (dispatchref8_Register s x.Node).bind fun x2 =>
      some (x2.1, (⟨x2.2, [], [], [], 0⟩ : Output))
    else
      bif x.Kind == 3 then
        (dispatchref19_beat s x).bind fun x3 =>
        some (x3.1, x3.2)
      else
        bif x.Kind == 4 then
          (dispatchref10_Submit s x.App).bind fun x4 =>
          some (x4.1, (⟨x4.2, [], [], [], 0⟩ : Output))
        else
          bif x.Kind == 5 then
            (dispatchref19_master s x).bind fun x5 =>
            some (x5.1, x5.2)
          else
            bif x.Kind == 6 then
              (dispatchref19_end s x.Id 3).bind fun x6 =>
              some (x6.1, x6.2)
            else
              bif x.Kind == 7 then
                (dispatchref19_end s x.Id 4).bind fun x7 =>
                some (x7.1, x7.2)
              else
                bif x.Kind == 8 then
                  (dispatchref19_tick s x.N).bind fun x8 =>
                  some (x8.1, x8.2)
                else
                  bif x.Kind == 9 then
                    (dispatchref15_Add s x.Plan x.N).bind fun x9 =>
                    some (x9.1, (⟨x9.2.2, [], [], [], x9.2.1⟩ : Output))
                  else
                    bif x.Kind == 10 then
                      (dispatchref15_Drop s x.Id).bind fun x10 =>
                      some (x10.1, (⟨x10.2, [], [], [], 0⟩ : Output))
                    else
                      bif x.Kind == 11 then
                        bif decide (s.Epoch ≥ 1048576) then
                          (dispatchref19_bad s 11).bind fun x11 =>
                          some (x11.1, x11.2)
                        else
                          some ((⟨⟨s.Conf.Labels, s.Conf.Queues⟩, s.Nodes, s.Apps, s.Conts, s.Slots, s.Plans, s.Now, w64 (s.Epoch + 1), 0⟩ : State), (⟨0, [], [], [], 0⟩ : Output))
                      else
                        (dispatchref19_bad s 3).bind fun x12 =>
                        some (x12.1, x12.2)
def h60 : Hint := .z
noncomputable def sp60 : Spec fam := ⟨[.v (.st 10) [], .v (.st 15) []], [.v (.st 10) [], .v (.st 13) [1, 2, 3]], fun a => dispatchref19_Step a.1 a.2.1⟩

def dispatchref5_Decimal_s (self : Int → Option (List UInt8)) (n : Int) : Option (List UInt8) :=
  bif decide (n < 0) then
    bif n == (-9223372036854775808) then
      some ([45, 57, 50, 50, 51, 51, 55, 50, 48, 51, 54, 56, 53, 52, 55, 55, 53, 56, 48, 56] : List UInt8)
    else
      (self (w64 (0 - n))).bind fun x =>
      (cat ([45] : List UInt8) x).bind fun s =>
      some s
  else
    bif decide (n ≥ 10) then
      (self (w64 (Int.tdiv n 10))).bind fun x1 =>
      (self (Int.tmod n 10)).bind fun x2 =>
      (cat x1 x2).bind fun s1 =>
      some s1
    else
      some (List.map toB [IntKind.u8.wrap (w64 (48 + n))])

def dispatchref5_Decimal_r : Nat → Int → Option (List UInt8)
  | 0 => fun _ => none
  | n + 1 => dispatchref5_Decimal_s (dispatchref5_Decimal_r n)

def dispatchref5_Decimal (a0 : Int) : Option (List UInt8) := dispatchref5_Decimal_r 64 a0
def h133 : Hint := .z
noncomputable def sp133 : Spec fam := ⟨[.v (.int .i64) []], [.v .str []], fun a => dispatchref5_Decimal a.1⟩

noncomputable def sp133_r (n : Nat) : Spec fam := ⟨[.v (.int .i64) []], [.v .str []], fun a => dispatchref5_Decimal_r n a.1⟩

def dispatchref5_Text_l3 (x1 : Queue) (t2 : List UInt8 × Int) : Option ((List UInt8 × Int) ⊕ List UInt8) :=
  bif decide (t2.2 < (x1.Caps.length : Int)) then
    (cat t2.1 ([32] : List UInt8)).bind fun s7 =>
    (idx x1.Caps t2.2).bind fun x3 =>
    (dispatchref5_Decimal x3.Least).bind fun x4 =>
    (cat s7 x4).bind fun s8 =>
    (cat s8 ([47] : List UInt8)).bind fun s9 =>
    (idx x1.Caps t2.2).bind fun x5 =>
    (dispatchref5_Decimal x5.Most).bind fun x6 =>
    (cat s9 x6).bind fun s10 =>
    some (.inl (s10, w64 (t2.2 + 1)))
  else
    some (.inr t2.1)

def dispatchref5_Text_l2 (c : Conf) (t1 : List UInt8 × Int) : Option ((List UInt8 × Int) ⊕ List UInt8) :=
  bif decide (t1.2 < (c.Queues.length : Int)) then
    (idx c.Queues t1.2).bind fun x1 =>
    (cat t1.1 ([113, 117, 101, 117, 101, 32] : List UInt8)).bind fun s3 =>
    (cat s3 x1.Path).bind fun s4 =>
    (cat s4 ([32] : List UInt8)).bind fun s5 =>
    (dispatchref5_Decimal x1.User).bind fun x2 =>
    (cat s5 x2).bind fun s6 =>
    (loop (dispatchref5_Text_l3 x1) (s6, 0)).bind fun out1 =>
    (cat out1 ([10] : List UInt8)).bind fun s11 =>
    some (.inl (s11, w64 (t1.2 + 1)))
  else
    some (.inr t1.1)

def dispatchref5_Text_l1 (c : Conf) (t : List UInt8 × Int) : Option ((List UInt8 × Int) ⊕ List UInt8) :=
  bif decide (t.2 < (c.Labels.length : Int)) then
    (cat t.1 ([32] : List UInt8)).bind fun s =>
    (idx c.Labels t.2).bind fun x =>
    (cat s x).bind fun s1 =>
    some (.inl (s1, w64 (t.2 + 1)))
  else
    some (.inr t.1)

def dispatchref5_Text (c : Conf) : Option (List UInt8) :=
  (loop (dispatchref5_Text_l1 c) (([108, 97, 98, 101, 108, 115] : List UInt8), 1)).bind fun out =>
  (cat out ([10] : List UInt8)).bind fun s2 =>
  (loop (dispatchref5_Text_l2 c) (s2, 0)).bind fun out2 =>
  some out2
def h61 : Hint := (.s .z (.s .z (.s (.s .z (.b (.l [(3, .v .str []), (4, .v (.int .i64) [])] [3, 4] [(2, [(3, .v .str [])])] .z))) (.s .z (.s (.s .z (.b (.l [(3, .v .str []), (5, .v (.int .i64) [])] [3, 5, 6, 7] [(4, [(3, .v .str [])])] (.s .z (.s (.b (.s .z (.s .z (.s (.s .z (.b (.l [(3, .v .str []), (7, .v (.int .i64) [])] [3, 7] [(6, [(3, .v .str [])])] .z))) .z)))) .z))))) .z)))))
noncomputable def sp61 : Spec fam := ⟨[.v (.st 3) []], [.v .str []], fun a => dispatchref5_Text a.1⟩

def dispatchlaw6_within (at_ : Int) (n : Int) : Option Int :=
  (nz n).bind fun _ =>
  (
    bif decide ((Int.tmod at_ n) < 0) then
      let k := w64 ((Int.tmod at_ n) + n)
      some k
    else
      some (Int.tmod at_ n)).bind fun k1 =>
  some k1
def h134 : Hint := (.s .z (.s .z (.s (.j [5] [(0, [(5, .v (.int .i64) [])])] .z) .z)))
noncomputable def sp134 : Spec fam := ⟨[.v (.int .i64) [], .v (.int .i64) []], [.v (.int .i64) []], fun a => dispatchlaw6_within a.1 a.2.1⟩

def dispatchlaw6_pick (ns : List Int) (i : Int) : Option Int :=
  bif (ns.length : Int) == 0 then
    some i
  else
    (nz (ns.length : Int)).bind fun _ =>
    (idx ns (Int.tmod i (ns.length : Int))).bind fun x =>
    some x
def h136 : Hint := .z
noncomputable def sp136 : Spec fam := ⟨[.v (.slice (.int .i64)) [], .v (.int .i64) []], [.v (.int .i64) []], fun a => dispatchlaw6_pick a.1 a.2.1⟩

def dispatchlaw6_Good_l6 (kids : List (List UInt8)) (t3 : Conf × Int) (t4 : Conf × Int × Int) (n : Int) (x17 : Int) (t5 : Conf × Int) : Option ((Conf × Int) ⊕ Conf) :=
  bif decide (t5.2 < (t5.1.Queues.length : Int)) then
    (
      (inb t5.2 t5.1.Queues.length).bind fun i3 =>
      (t5.1.Queues[i3]?).bind fun x18 =>
      (inb t4.2.2 kids.length).bind fun i4 =>
      (kids[i4]?).bind fun x19 =>
      bif x18.Path == x19 then
        (inb t5.2 t5.1.Queues.length).bind fun i5 =>
        (t5.1.Queues[i5]?).bind fun x20 =>
        (t5.1.Queues[i5]?).bind fun x21 =>
        (inb t3.2 x21.Caps.length).bind fun i6 =>
        (t5.1.Queues[i5]?).bind fun x22 =>
        (x22.Caps[i6]?).bind fun y =>
        some (⟨t5.1.Labels, List.set t5.1.Queues i5 (⟨x22.Path, List.set x22.Caps i6 (⟨n, x17⟩ : Cap), x22.User⟩ : Queue)⟩ : Conf)
      else
        some t5.1).bind fun c1 =>
    some (.inl (c1, w64 (t5.2 + 1)))
  else
    some (.inr t5.1)

def dispatchlaw6_Good_l5 (ns : List Int) (t2 : Conf × Int) (kids : List (List UInt8)) (t3 : Conf × Int) (t4 : Conf × Int × Int) : Option ((Conf × Int × Int) ⊕ Conf) :=
  bif decide (t4.2.2 < (kids.length : Int)) then
    (
      bif decide (t4.2.2 < (w64 ((kids.length : Int) - 1))) then
        (dispatchlaw6_pick ns (w64 ((w64 (t2.2 + t4.2.2)) + t3.2))).bind fun x8 =>
        (dispatchlaw6_within x8 (w64 (t4.2.1 + 1))).bind fun x9 =>
        (dispatchlaw6_pick ns (w64 ((w64 (t2.2 * t4.2.2)) + t3.2))).bind fun x10 =>
        (dispatchlaw6_within x10 4).bind fun x11 =>
        (inb x11 [0, w64 (Int.tdiv t4.2.1 2), t4.2.1, x9].length).bind fun i1 =>
        ([0, w64 (Int.tdiv t4.2.1 2), t4.2.1, x9][i1]?).bind fun x12 =>
        some x12
      else
        some t4.2.1).bind fun n =>
    (dispatchlaw6_pick ns (w64 (t4.2.2 + t3.2))).bind fun x13 =>
    (dispatchlaw6_within x13 (w64 ((w64 (10000 - n)) + 1))).bind fun x14 =>
    (dispatchlaw6_pick ns (w64 (t2.2 + (w64 (2 * t4.2.2))))).bind fun x15 =>
    (dispatchlaw6_within x15 3).bind fun x16 =>
    (inb x16 [10000, n, w64 (n + x14)].length).bind fun i2 =>
    ([10000, n, w64 (n + x14)][i2]?).bind fun x17 =>
    (loop (dispatchlaw6_Good_l6 kids t3 t4 n x17) (t4.1, 0)).bind fun c2 =>
    some (.inl (c2, w64 (t4.2.1 - n), w64 (t4.2.2 + 1)))
  else
    some (.inr t4.1)

def dispatchlaw6_Good_l4 (ns : List Int) (t2 : Conf × Int) (kids : List (List UInt8)) (t3 : Conf × Int) : Option ((Conf × Int) ⊕ Conf) :=
  bif decide (t3.2 < (t3.1.Labels.length : Int)) then
    (loop (dispatchlaw6_Good_l5 ns t2 kids t3) (t3.1, 10000, 0)).bind fun c3 =>
    some (.inl (c3, w64 (t3.2 + 1)))
  else
    some (.inr t3.1)

def dispatchlaw6_Good_l3 (ns : List Int) (x2 : List (List UInt8)) (t2 : Conf × Int) : Option ((Conf × Int) ⊕ Conf) :=
  bif decide (t2.2 < (x2.length : Int)) then
    (idx x2 t2.2).bind fun x7 =>
    (dispatchref6_Kids t2.1 x7).bind fun kids =>
    (loop (dispatchlaw6_Good_l4 ns t2 kids) (t2.1, 0)).bind fun c4 =>
    some (.inl (c4, w64 (t2.2 + 1)))
  else
    some (.inr t2.1)

def dispatchlaw6_Good_l2 (t : Conf × Int) (t1 : Queue × Int) : Option ((Queue × Int) ⊕ Queue) :=
  bif decide (t1.2 < (t.1.Labels.length : Int)) then
    (app 16 t1.1.Caps [(⟨10000, 10000⟩ : Cap)]).bind fun l =>
    some (.inl ((⟨t1.1.Path, l, t1.1.User⟩ : Queue), w64 (t1.2 + 1)))
  else
    some (.inr t1.1)

def dispatchlaw6_Good_l1 (ns : List Int) (x2 : List (List UInt8)) (t : Conf × Int) : Option ((Conf × Int) ⊕ Conf) :=
  bif decide (t.2 < (x2.length : Int)) then
    (idx x2 t.2).bind fun x3 =>
    (
      (
        bif decide (t.2 < (ns.length : Int)) then
          (idx ns t.2).bind fun x4 =>
          some ((Int.tmod x4 3) == 0)
        else
          some false).bind fun q =>
      bif q then
        (idx ns t.2).bind fun x5 =>
        (dispatchlaw6_within x5 20000).bind fun x6 =>
        some (⟨x3, [], w64 (1 + x6)⟩ : Queue)
      else
        some (⟨x3, [], 1000000⟩ : Queue)).bind fun q1 =>
    (loop (dispatchlaw6_Good_l2 t) (q1, 0)).bind fun q2 =>
    (app 48 t.1.Queues [q2]).bind fun l1 =>
    some (.inl ((⟨t.1.Labels, l1⟩ : Conf), w64 (t.2 + 1)))
  else
    some (.inr t.1)

def dispatchlaw6_Good (shape : Int) (ns : List Int) : Option Conf :=
  (dispatchlaw6_within (w64 (Int.tdiv shape 5)) 2).bind fun x =>
  (inS 0 (w64 (1 + x)) [([] : List UInt8), ([103, 112, 117] : List UInt8)].length).bind fun p =>
  (dispatchlaw6_within shape 5).bind fun x1 =>
  (inb x1 [[([114, 111, 111, 116] : List UInt8)], [([114, 111, 111, 116] : List UInt8), ([114, 111, 111, 116, 46, 97] : List UInt8), ([114, 111, 111, 116, 46, 98] : List UInt8)], [([114, 111, 111, 116] : List UInt8), ([114, 111, 111, 116, 46, 97] : List UInt8), ([114, 111, 111, 116, 46, 97, 46, 120] : List UInt8), ([114, 111, 111, 116, 46, 97, 46, 121] : List UInt8), ([114, 111, 111, 116, 46, 98] : List UInt8)], [([114, 111, 111, 116] : List UInt8), ([114, 111, 111, 116, 46, 97] : List UInt8), ([114, 111, 111, 116, 46, 98] : List UInt8), ([114, 111, 111, 116, 46, 98, 46, 120] : List UInt8), ([114, 111, 111, 116, 46, 98, 46, 120, 46, 112] : List UInt8), ([114, 111, 111, 116, 46, 98, 46, 120, 46, 113] : List UInt8), ([114, 111, 111, 116, 46, 99] : List UInt8)], [([114, 111, 111, 116] : List UInt8), ([114, 111, 111, 116, 46, 97] : List UInt8)]].length).bind fun i =>
  ([[([114, 111, 111, 116] : List UInt8)], [([114, 111, 111, 116] : List UInt8), ([114, 111, 111, 116, 46, 97] : List UInt8), ([114, 111, 111, 116, 46, 98] : List UInt8)], [([114, 111, 111, 116] : List UInt8), ([114, 111, 111, 116, 46, 97] : List UInt8), ([114, 111, 111, 116, 46, 97, 46, 120] : List UInt8), ([114, 111, 111, 116, 46, 97, 46, 121] : List UInt8), ([114, 111, 111, 116, 46, 98] : List UInt8)], [([114, 111, 111, 116] : List UInt8), ([114, 111, 111, 116, 46, 97] : List UInt8), ([114, 111, 111, 116, 46, 98] : List UInt8), ([114, 111, 111, 116, 46, 98, 46, 120] : List UInt8), ([114, 111, 111, 116, 46, 98, 46, 120, 46, 112] : List UInt8), ([114, 111, 111, 116, 46, 98, 46, 120, 46, 113] : List UInt8), ([114, 111, 111, 116, 46, 99] : List UInt8)], [([114, 111, 111, 116] : List UInt8), ([114, 111, 111, 116, 46, 97] : List UInt8)]][i]?).bind fun x2 =>
  (loop (dispatchlaw6_Good_l1 ns x2) ((⟨sub [([] : List UInt8), ([103, 112, 117] : List UInt8)] p.1 p.2, []⟩ : Conf), 0)).bind fun c =>
  (loop (dispatchlaw6_Good_l3 ns x2) (c, 0)).bind fun c5 =>
  some c5
def h62 : Hint := (.s .z (.s .z (.s .z (.s .z (.s (.s .z (.b (.l [(6, .box (.st 3) [1001]), (8, .v (.int .i64) [])] [6, 8, 9, 10, 59] [(2, [(6, .box (.st 3) [1001])])] (.s .z (.s (.b (.s .z (.s (.j [9, 59] [(0, [(9, .box (.st 2) [1])])] (.s (.j [] [(0, [(59, .v .bool [])])] .z) .z)) (.s (.s .z (.b (.l [(9, .box (.st 2) [1]), (10, .v (.int .i64) [])] [9, 10] [(4, [(9, .box (.st 2) [1])])] .z))) .z)))) .z))))) (.s (.s .z (.b (.l [(6, .box (.st 3) [1001]), (11, .v (.int .i64) [])] [6, 11, 12, 13, 14, 15, 16, 17, 18] [(6, [(6, .box (.st 3) [1001])])] (.s .z (.s (.b (.s .z (.s .z (.b (.l [(6, .box (.st 3) [1001]), (13, .v (.int .i64) [])] [6, 13, 14, 15, 16, 17, 18] [(8, [(6, .box (.st 3) [1001])])] (.s .z (.s (.b (.s .z (.s .z (.b (.l [(6, .box (.st 3) [1001]), (14, .v (.int .i64) []), (15, .v (.int .i64) [])] [6, 14, 15, 16, 17, 18] [(10, [(6, .box (.st 3) [1001])])] (.s .z (.s (.b (.s .z (.s (.j [16] [(0, [(16, .v (.int .i64) [])])] .z) (.s .z (.s .z (.s .z (.b (.l [(6, .box (.st 3) [1001]), (18, .v (.int .i64) [])] [6, 18] [(12, [(6, .box (.st 3) [1001])])] (.s .z (.s (.j [6] [(0, [(6, .box (.st 3) [1001])])] .z) .z)))))))))) .z))))))) .z))))))) .z))))) .z))))))
noncomputable def sp62 : Spec fam := ⟨[.v (.int .i64) [], .v (.slice (.int .i64)) []], [.v (.st 3) [1001]], fun a => dispatchlaw6_Good a.1 a.2.1⟩

def dispatchlaw7_Leaves_l1 (c : Conf) (t : List (List UInt8) × Int) : Option ((List (List UInt8) × Int) ⊕ List (List UInt8)) :=
  bif decide (t.2 < (c.Queues.length : Int)) then
    (
      (idx c.Queues t.2).bind fun x =>
      (dispatchref6_Leaf c x.Path).bind fun x1 =>
      bif x1 then
        (idx c.Queues t.2).bind fun x2 =>
        (app 16 t.1 [x2.Path]).bind fun l =>
        some l
      else
        some t.1).bind fun l1 =>
    some (.inl (l1, w64 (t.2 + 1)))
  else
    some (.inr t.1)

def dispatchlaw7_Leaves (c : Conf) : Option (List (List UInt8)) :=
  (loop (dispatchlaw7_Leaves_l1 c) ([], 0)).bind fun l2 =>
  some l2
def h18 : Hint := (.s .z (.s .z (.s (.s .z (.b (.l [(3, .v (.slice (.str)) [0]), (4, .v (.int .i64) [])] [3, 4] [(2, [(3, .v (.slice (.str)) [0])])] (.s .z (.s (.j [3] [(0, [(3, .v (.slice (.str)) [0])])] .z) .z))))) .z)))
noncomputable def sp18 : Spec fam := ⟨[.v (.st 3) []], [.v (.slice (.str)) [0]], fun a => dispatchlaw7_Leaves a.1⟩

def dispatchlaw7_within (at_ : Int) (n : Int) : Option Int :=
  (nz n).bind fun _ =>
  (
    bif decide ((Int.tmod at_ n) < 0) then
      let k := w64 ((Int.tmod at_ n) + n)
      some k
    else
      some (Int.tmod at_ n)).bind fun k1 =>
  some k1
def h137 : Hint := (.s .z (.s .z (.s (.j [5] [(0, [(5, .v (.int .i64) [])])] .z) .z)))
noncomputable def sp137 : Spec fam := ⟨[.v (.int .i64) [], .v (.int .i64) []], [.v (.int .i64) []], fun a => dispatchlaw7_within a.1 a.2.1⟩

def dispatchlaw7_size (n : Int) : Option Vec :=
  (dispatchlaw7_within n 5).bind fun x =>
  (inb x [(⟨1, 1⟩ : Vec), (⟨2, 1⟩ : Vec), (⟨4, 4⟩ : Vec), (⟨3, 2⟩ : Vec), (⟨1, 3⟩ : Vec)].length).bind fun i =>
  ([(⟨1, 1⟩ : Vec), (⟨2, 1⟩ : Vec), (⟨4, 4⟩ : Vec), (⟨3, 2⟩ : Vec), (⟨1, 3⟩ : Vec)][i]?).bind fun x1 =>
  some x1
def h138 : Hint := .z
noncomputable def sp138 : Spec fam := ⟨[.v (.int .i64) []], [.v (.st 0) []], fun a => dispatchlaw7_size a.1⟩

def dispatchlaw7_Act_master_l1 (a : Act) (s : State) (x1 : App) (t : Input × Int) : Option ((Input × Int) ⊕ Input) :=
  bif decide (t.2 < (s.Conts.length : Int)) then
    (
      (
        (idx s.Conts t.2).bind fun x11 =>
        bif x11.App == x1.Id then
          (dispatchlaw7_within (w64 (a.D + t.2)) 11).bind fun x12 =>
          some (x12 == 10)
        else
          some false).bind fun q =>
      bif q then
        (idx s.Conts t.2).bind fun x13 =>
        (app 8 t.1.Ids [x13.Id]).bind fun l =>
        some (⟨t.1.Kind, t.1.Id, t.1.Beat, t.1.N, t.1.Text, ⟨t.1.Node.Id, t.1.Node.Label, t.1.Node.Rack, ⟨t.1.Node.Cap.Mem, t.1.Node.Cap.Cores⟩, t.1.Node.Seen, t.1.Node.Beat, t.1.Node.Up⟩, ⟨t.1.App.Id, t.1.App.State, t.1.App.Queue, t.1.App.User, t.1.App.Prio, ⟨t.1.App.Master.Mem, t.1.App.Master.Cores⟩, t.1.App.Asks, t.1.App.Seen, t.1.App.Beat, t.1.App.Grants, t.1.App.Kills, t.1.App.Told, t.1.App.Lost⟩, t.1.Asks, l, ⟨t.1.Plan.Id, t.1.Plan.Label, t.1.Plan.From, t.1.Plan.Until, ⟨t.1.Plan.Need.Mem, t.1.Plan.Need.Cores⟩⟩⟩ : Input)
      else
        some t.1).bind fun x14 =>
    some (.inl (x14, w64 (t.2 + 1)))
  else
    some (.inr t.1)

def dispatchlaw7_Act_master (a : Act) (s : State) : Option Input :=
  bif (s.Apps.length : Int) == 0 then
    some (⟨5, 0, 0, 0, [], ⟨0, 0, 0, ⟨0, 0⟩, 0, 0, false⟩, ⟨0, 0, [], 0, 0, ⟨0, 0⟩, [], 0, 0, [], [], [], []⟩, [], [], ⟨0, 0, 0, 0, ⟨0, 0⟩⟩⟩ : Input)
  else
    (dispatchlaw7_within a.A (s.Apps.length : Int)).bind fun x =>
    (idx s.Apps x).bind fun x1 =>
    (dispatchlaw7_within a.B 8).bind fun x2 =>
    (
      bif decide ((Int.tmod a.C 3) > 0) then
        (dispatchlaw7_within a.B 5).bind fun x3 =>
        (dispatchlaw7_within a.C (s.Conf.Labels.length : Int)).bind fun x4 =>
        (dispatchlaw7_size a.D).bind fun x5 =>
        (dispatchlaw7_within a.D 7).bind fun x6 =>
        (
          bif (Int.tmod a.D 4) == 1 then
            (dispatchlaw7_within a.C 3).bind fun x7 =>
            some (⟨x3, x4, ⟨x5.Mem, x5.Cores⟩, x6, (-1), x7, 0⟩ : Ask)
          else
            some (⟨x3, x4, ⟨x5.Mem, x5.Cores⟩, x6, (-1), (-1), 0⟩ : Ask)).bind fun k =>
        (
          bif (Int.tmod a.D 4) == 2 then
            (dispatchlaw7_within a.C 3).bind fun x8 =>
            (dispatchlaw7_within a.B 6).bind fun x9 =>
            some (⟨k.Prio, k.Label, ⟨k.Size.Mem, k.Size.Cores⟩, k.Count, x9, x8, k.Missed⟩ : Ask)
          else
            some k).bind fun k1 =>
        some (⟨5, x1.Id, w64 ((w64 (x1.Beat + 1)) - (w64 (Int.tdiv x2 6))), 0, [], ⟨0, 0, 0, ⟨0, 0⟩, 0, 0, false⟩, ⟨0, 0, [], 0, 0, ⟨0, 0⟩, [], 0, 0, [], [], [], []⟩, [k1], [], ⟨0, 0, 0, 0, ⟨0, 0⟩⟩⟩ : Input)
      else
        some (⟨5, x1.Id, w64 ((w64 (x1.Beat + 1)) - (w64 (Int.tdiv x2 6))), 0, [], ⟨0, 0, 0, ⟨0, 0⟩, 0, 0, false⟩, ⟨0, 0, [], 0, 0, ⟨0, 0⟩, [], 0, 0, [], [], [], []⟩, [], [], ⟨0, 0, 0, 0, ⟨0, 0⟩⟩⟩ : Input)).bind fun x10 =>
    (loop (dispatchlaw7_Act_master_l1 a s x1) (x10, 0)).bind fun x15 =>
    some x15
def h139 : Hint := (.s .z (.s .z (.s .z (.s .z (.s .z (.s (.j [5, 7] [(0, [(5, .box (.st 15) [20, 23, 24, 25, 26, 27, 28])])] (.s .z (.c (.s .z (.s (.j [7] [(0, [(7, .box (.st 5) [])])] .z) (.s (.j [7] [(0, [(7, .box (.st 5) [])])] .z) .z))) .z))) (.s (.s .z (.b (.l [(5, .box (.st 15) [20, 23, 24, 25, 26, 27, 28]), (8, .v (.int .i64) [])] [5, 8, 104] [(2, [(5, .box (.st 15) [20, 23, 24, 25, 26, 27, 28])])] (.s .z (.s (.j [5, 104] [(0, [(5, .box (.st 15) [20, 23, 24, 25, 26, 27, 28])])] (.b (.s (.j [] [(0, [(104, .v .bool [])])] .z) .z))) .z))))) .z)))))))
noncomputable def sp139 : Spec fam := ⟨[.v (.st 11) [], .v (.st 10) []], [.v (.st 15) [20, 23, 24, 25, 26, 27, 28]], fun a => dispatchlaw7_Act_master a.1 a.2.1⟩

def dispatchlaw7_Act_Input_l2 (a : Act) (s : State) (id_ : Int) (t1 : Input × Int) : Option ((Input × Int) ⊕ Input) :=
  bif decide (t1.2 < (s.Conts.length : Int)) then
    (
      (
        (idx s.Conts t1.2).bind fun x11 =>
        bif x11.Node == id_ then
          (dispatchlaw7_within (w64 (a.C + t1.2)) 9).bind fun x12 =>
          some (x12 == 8)
        else
          some false).bind fun q2 =>
      bif q2 then
        (idx s.Conts t1.2).bind fun x13 =>
        (app 8 t1.1.Ids [x13.Id]).bind fun l =>
        some (⟨t1.1.Kind, t1.1.Id, t1.1.Beat, t1.1.N, t1.1.Text, ⟨t1.1.Node.Id, t1.1.Node.Label, t1.1.Node.Rack, ⟨t1.1.Node.Cap.Mem, t1.1.Node.Cap.Cores⟩, t1.1.Node.Seen, t1.1.Node.Beat, t1.1.Node.Up⟩, ⟨t1.1.App.Id, t1.1.App.State, t1.1.App.Queue, t1.1.App.User, t1.1.App.Prio, ⟨t1.1.App.Master.Mem, t1.1.App.Master.Cores⟩, t1.1.App.Asks, t1.1.App.Seen, t1.1.App.Beat, t1.1.App.Grants, t1.1.App.Kills, t1.1.App.Told, t1.1.App.Lost⟩, t1.1.Asks, l, ⟨t1.1.Plan.Id, t1.1.Plan.Label, t1.1.Plan.From, t1.1.Plan.Until, ⟨t1.1.Plan.Need.Mem, t1.1.Plan.Need.Cores⟩⟩⟩ : Input)
      else
        some t1.1).bind fun x14 =>
    some (.inl (x14, w64 (t1.2 + 1)))
  else
    some (.inr t1.1)

def dispatchlaw7_Act_Input_l1 (a : Act) (s : State) (id_ : Int) (t : Input × Int) : Option ((Input × Int) ⊕ Input) :=
  bif decide (t.2 < (s.Nodes.length : Int)) then
    (
      (idx s.Nodes t.2).bind fun x6 =>
      bif x6.Id == id_ then
        (idx s.Nodes t.2).bind fun x7 =>
        (dispatchlaw7_within a.B 8).bind fun x8 =>
        some (⟨t.1.Kind, t.1.Id, w64 ((w64 (x7.Beat + 1)) - (w64 (Int.tdiv x8 6))), t.1.N, t.1.Text, ⟨t.1.Node.Id, t.1.Node.Label, t.1.Node.Rack, ⟨t.1.Node.Cap.Mem, t.1.Node.Cap.Cores⟩, t.1.Node.Seen, t.1.Node.Beat, t.1.Node.Up⟩, ⟨t.1.App.Id, t.1.App.State, t.1.App.Queue, t.1.App.User, t.1.App.Prio, ⟨t.1.App.Master.Mem, t.1.App.Master.Cores⟩, t.1.App.Asks, t.1.App.Seen, t.1.App.Beat, t.1.App.Grants, t.1.App.Kills, t.1.App.Told, t.1.App.Lost⟩, t.1.Asks, t.1.Ids, ⟨t.1.Plan.Id, t.1.Plan.Label, t.1.Plan.From, t.1.Plan.Until, ⟨t.1.Plan.Need.Mem, t.1.Plan.Need.Cores⟩⟩⟩ : Input)
      else
        some t.1).bind fun x9 =>
    some (.inl (x9, w64 (t.2 + 1)))
  else
    some (.inr t.1)

def dispatchlaw7_Act_Input (a : Act) (s : State) : Option Input :=
  (dispatchlaw7_within a.A 6).bind fun id_ =>
  (dispatchlaw7_Leaves s.Conf).bind fun leaves =>
  (dispatchlaw7_within a.B 4).bind fun x =>
  (
    (dispatchlaw7_within a.Kind 16).bind fun x1 =>
    (
      bif x1 == 0 then
        some (x1 == 0)
      else
        some (x1 == 1)).bind fun q =>
    bif q then
      (dispatchlaw7_within a.B (s.Conf.Labels.length : Int)).bind fun x2 =>
      (dispatchlaw7_within a.C 3).bind fun x3 =>
      (dispatchlaw7_within a.D 12).bind fun x4 =>
      (dispatchlaw7_within a.D 8).bind fun x5 =>
      some (⟨2, id_, 0, w64 (1 + x), [], ⟨id_, x2, x3, ⟨w64 (4 + x4), w64 (4 + x5)⟩, 0, 0, false⟩, ⟨0, 0, [], 0, 0, ⟨0, 0⟩, [], 0, 0, [], [], [], []⟩, [], [], ⟨0, 0, 0, 0, ⟨0, 0⟩⟩⟩ : Input)
    else
      (
        bif x1 == 2 then
          some (x1 == 2)
        else
          bif x1 == 3 then
            some (x1 == 3)
          else
            bif x1 == 4 then
              some (x1 == 4)
            else
              some (x1 == 5)).bind fun q1 =>
      bif q1 then
        (loop (dispatchlaw7_Act_Input_l1 a s id_) ((⟨3, id_, 0, w64 (1 + x), [], ⟨0, 0, 0, ⟨0, 0⟩, 0, 0, false⟩, ⟨0, 0, [], 0, 0, ⟨0, 0⟩, [], 0, 0, [], [], [], []⟩, [], [], ⟨0, 0, 0, 0, ⟨0, 0⟩⟩⟩ : Input), 0)).bind fun x10 =>
        (loop (dispatchlaw7_Act_Input_l2 a s id_) (x10, 0)).bind fun x15 =>
        some x15
      else
        (
          bif x1 == 6 then
            some (x1 == 6)
          else
            some (x1 == 7)).bind fun q3 =>
        bif q3 then
          (dispatchlaw7_within a.A 20).bind fun x16 =>
          (dispatchlaw7_within a.B (leaves.length : Int)).bind fun x17 =>
          (inb x17 leaves.length).bind fun i =>
          (leaves[i]?).bind fun x18 =>
          (dispatchlaw7_within a.C 3).bind fun x19 =>
          (dispatchlaw7_within a.D 3).bind fun x20 =>
          (dispatchlaw7_size (w64 (Int.tdiv a.D 3))).bind fun x21 =>
          some (⟨4, id_, 0, w64 (1 + x), [], ⟨0, 0, 0, ⟨0, 0⟩, 0, 0, false⟩, ⟨x16, 0, x18, x19, x20, ⟨x21.Mem, x21.Cores⟩, [], 0, 0, [], [], [], []⟩, [], [], ⟨0, 0, 0, 0, ⟨0, 0⟩⟩⟩ : Input)
        else
          (
            bif x1 == 8 then
              some (x1 == 8)
            else
              bif x1 == 9 then
                some (x1 == 9)
              else
                some (x1 == 10)).bind fun q4 =>
          bif q4 then
            (dispatchlaw7_Act_master a s).bind fun x22 =>
            some x22
          else
            bif x1 == 11 then
              (dispatchlaw7_within a.B 2).bind fun x23 =>
              (inb x23 [6, 7].length).bind fun i1 =>
              ([6, 7][i1]?).bind fun x24 =>
              (dispatchlaw7_within a.A 20).bind fun x25 =>
              some (⟨x24, x25, 0, w64 (1 + x), [], ⟨0, 0, 0, ⟨0, 0⟩, 0, 0, false⟩, ⟨0, 0, [], 0, 0, ⟨0, 0⟩, [], 0, 0, [], [], [], []⟩, [], [], ⟨0, 0, 0, 0, ⟨0, 0⟩⟩⟩ : Input)
            else
              (
                bif x1 == 12 then
                  some (x1 == 12)
                else
                  some (x1 == 13)).bind fun q5 =>
              bif q5 then
                (dispatchlaw7_within a.A 5).bind fun x26 =>
                some (⟨8, id_, 0, w64 (1 + x26), [], ⟨0, 0, 0, ⟨0, 0⟩, 0, 0, false⟩, ⟨0, 0, [], 0, 0, ⟨0, 0⟩, [], 0, 0, [], [], [], []⟩, [], [], ⟨0, 0, 0, 0, ⟨0, 0⟩⟩⟩ : Input)
              else
                bif x1 == 14 then
                  (dispatchlaw7_within a.D 3).bind fun x27 =>
                  (inb x27 [9, 9, 10].length).bind fun i2 =>
                  ([9, 9, 10][i2]?).bind fun x28 =>
                  (dispatchlaw7_within a.B (s.Conf.Labels.length : Int)).bind fun x29 =>
                  (dispatchlaw7_within a.C 5).bind fun x30 =>
                  (dispatchlaw7_size a.D).bind fun x31 =>
                  (dispatchlaw7_within a.C 12).bind fun x32 =>
                  some (⟨x28, id_, 0, w64 (1 + x32), [], ⟨0, 0, 0, ⟨0, 0⟩, 0, 0, false⟩, ⟨0, 0, [], 0, 0, ⟨0, 0⟩, [], 0, 0, [], [], [], []⟩, [], [], ⟨id_, x29, w64 (s.Now + x30), w64 (s.Now + 20), ⟨x31.Mem, x31.Cores⟩⟩⟩ : Input)
                else
                  bif x1 == 15 then
                    (dispatchlaw7_within a.A 3).bind fun x33 =>
                    (inb x33 [11, 1, 1].length).bind fun i3 =>
                    ([11, 1, 1][i3]?).bind fun x34 =>
                    (dispatchlaw6_Good a.B [a.C, a.D]).bind fun x35 =>
                    (dispatchref5_Text x35).bind fun x36 =>
                    some (⟨x34, id_, 0, w64 (1 + x), x36, ⟨0, 0, 0, ⟨0, 0⟩, 0, 0, false⟩, ⟨0, 0, [], 0, 0, ⟨0, 0⟩, [], 0, 0, [], [], [], []⟩, [], [], ⟨0, 0, 0, 0, ⟨0, 0⟩⟩⟩ : Input)
                  else
                    some (⟨0, id_, 0, w64 (1 + x), [], ⟨0, 0, 0, ⟨0, 0⟩, 0, 0, false⟩, ⟨0, 0, [], 0, 0, ⟨0, 0⟩, [], 0, 0, [], [], [], []⟩, [], [], ⟨0, 0, 0, 0, ⟨0, 0⟩⟩⟩ : Input)).bind fun x37 =>
  some x37
def h63 : Hint := (.s .z (.s .z (.s .z (.s .z (.s (.j [8, 9, 10, 27, 28, 29, 30, 53, 109, 121, 148, 168] [(0, [(8, .box (.st 15) [20, 23, 24, 25, 26, 27, 28])])] (.s .z (.b (.s (.j [] [(0, [(30, .v .bool [])])] .z) (.c .z (.s (.j [] [(0, [(53, .v .bool [])])] .z) (.c (.s .z (.s (.s .z (.b (.l [(8, .box (.st 15) [20, 23, 24, 25, 26, 27, 28]), (9, .v (.int .i64) [])] [8, 9] [(3, [(8, .box (.st 15) [20, 23, 24, 25, 26, 27, 28])])] (.s .z (.s (.j [8] [(0, [(8, .box (.st 15) [20, 23, 24, 25, 26, 27, 28])])] .z) .z))))) (.s .z (.b (.l [(8, .box (.st 15) [20, 23, 24, 25, 26, 27, 28]), (10, .v (.int .i64) [])] [8, 10, 109] [(5, [(8, .box (.st 15) [20, 23, 24, 25, 26, 27, 28])])] (.s .z (.s (.j [8, 109] [(0, [(8, .box (.st 15) [20, 23, 24, 25, 26, 27, 28])])] (.b (.s (.j [] [(0, [(109, .v .bool [])])] .z) .z))) .z))))))) (.s (.j [] [(0, [(121, .v .bool [])])] .z) (.c .z (.s (.j [] [(0, [(148, .v .bool [])])] .z) (.c .z (.s .z (.c .z (.s (.j [] [(0, [(168, .v .bool [])])] .z) .z)))))))))))))) .z)))))
noncomputable def sp63 : Spec fam := ⟨[.v (.st 11) [], .v (.st 10) []], [.v (.st 15) [20, 23, 24, 25, 26, 27, 28]], fun a => dispatchlaw7_Act_Input a.1 a.2.1⟩

def dispatchlaw7_Script_State_l1 (x : Script) (t : State × Int) : Option ((State × Int) ⊕ State) :=
  bif decide (t.2 < (x.Acts.length : Int)) then
    (idx x.Acts t.2).bind fun x5 =>
    (dispatchlaw7_Act_Input x5 t.1).bind fun x6 =>
    (dispatchref19_Step t.1 x6).bind fun x7 =>
    some (.inl (x7.1, w64 (t.2 + 1)))
  else
    some (.inr t.1)

def dispatchlaw7_Script_State (x : Script) : Option State :=
  (dispatchref19_New).bind fun x1 =>
  (dispatchlaw6_Good x.Shape x.Ns).bind fun x2 =>
  (dispatchref5_Text x2).bind fun x3 =>
  (dispatchref19_Step x1 (⟨1, 0, 0, 0, x3, ⟨0, 0, 0, ⟨0, 0⟩, 0, 0, false⟩, ⟨0, 0, [], 0, 0, ⟨0, 0⟩, [], 0, 0, [], [], [], []⟩, [], [], ⟨0, 0, 0, 0, ⟨0, 0⟩⟩⟩ : Input)).bind fun x4 =>
  (
    bif x4.2.Err == 0 then
      some x4.1
    else
      some x1).bind fun s =>
  (loop (dispatchlaw7_Script_State_l1 x) (s, 0)).bind fun s1 =>
  some s1
def h17 : Hint := (.s .z (.s .z (.s .z (.s (.j [3] [(0, [(3, .box (.st 10) [])])] .z) (.s (.s .z (.b (.l [(3, .box (.st 10) []), (6, .v (.int .i64) [])] [3, 6] [(2, [(3, .box (.st 10) [])])] .z))) .z)))))
noncomputable def sp17 : Spec fam := ⟨[.v (.st 12) []], [.v (.st 10) []], fun a => dispatchlaw7_Script_State a.1⟩

def apps_Live (a : App) : Option Bool :=
  bif a.State == 1 then
    some true
  else
    some (a.State == 2)
def h65 : Hint := .z
noncomputable def sp65 : Spec fam := ⟨[.v (.st 6) []], [.v .bool []], fun a => apps_Live a.1⟩

def api_App__l2 (a : Int) (cmp : (TupT fam [.st 6, .st 6] → Option Int)) (t1 : List App × Int) : Option ((List App × Int) ⊕ List App) :=
  (
    bif decide (t1.2 > a) then
      (inb t1.2 t1.1.length).bind fun i =>
      (t1.1[i]?).bind fun x =>
      (inb (w64 (t1.2 - 1)) t1.1.length).bind fun i1 =>
      (t1.1[i1]?).bind fun x1 =>
      (cmp (x, x1, ())).bind fun r =>
      some (decide (r < 0))
    else
      some false).bind fun q =>
  bif q then
    (inb (w64 (t1.2 - 1)) t1.1.length).bind fun i2 =>
    (t1.1[i2]?).bind fun x2 =>
    (inb t1.2 t1.1.length).bind fun i3 =>
    (t1.1[i3]?).bind fun x3 =>
    (inb t1.2 t1.1.length).bind fun i4 =>
    (t1.1[i4]?).bind fun x4 =>
    (inb (w64 (t1.2 - 1)) (List.set t1.1 i4 x2).length).bind fun i5 =>
    ((List.set t1.1 i4 x2)[i5]?).bind fun x5 =>
    some (.inl (List.set (List.set t1.1 i4 x2) i5 x3, w64 (t1.2 - 1)))
  else
    some (.inr t1.1)

def api_App__l1 (a : Int) (b : Int) (cmp : (TupT fam [.st 6, .st 6] → Option Int)) (t : List App × Int) : Option ((List App × Int) ⊕ List App) :=
  bif decide (t.2 < b) then
    (loop (api_App__l2 a cmp) (t.1, t.2)).bind fun data1 =>
    some (.inl (data1, w64 (t.2 + 1)))
  else
    some (.inr t.1)

def api_App_ (data : List App) (a : Int) (b : Int) (cmp : (TupT fam [.st 6, .st 6] → Option Int)) : Option (List App) :=
  (loop (api_App__l1 a b cmp) (data, w64 (a + 1))).bind fun data2 =>
  some data2
def h219 : Hint := (.s .z (.b (.l [(0, .row (.st 6) false), (8, .v (.int .i64) [])] [0, 8, 9, 34] [(2, [(0, .row (.st 6) false)])] (.s .z (.s (.b (.s .z (.b (.l [(0, .row (.st 6) false), (9, .v (.int .i64) [])] [0, 9, 34] [(4, [(0, .row (.st 6) false)])] (.s (.s (.j [] [(0, [(34, .v .bool [])])] .z) .z) .z))))) .z)))))
noncomputable def sp219 : Spec fam := ⟨[.row (.st 6) false, .v (.int .i64) [], .v (.int .i64) [], .fn [.st 6, .st 6] (.int .i64)], [], fun a => api_App_ a.1 a.2.1 a.2.2.1 a.2.2.2.1⟩

def api_App__345_l1 (a : Int) (b : Int) (n : Int) (t : List App × Int) : Option ((List App × Int) ⊕ List App) :=
  bif decide (t.2 < n) then
    (inb (w64 (b + t.2)) t.1.length).bind fun i =>
    (t.1[i]?).bind fun x =>
    (inb (w64 (a + t.2)) t.1.length).bind fun i1 =>
    (t.1[i1]?).bind fun x1 =>
    (inb (w64 (a + t.2)) t.1.length).bind fun i2 =>
    (t.1[i2]?).bind fun x2 =>
    (inb (w64 (b + t.2)) (List.set t.1 i2 x).length).bind fun i3 =>
    ((List.set t.1 i2 x)[i3]?).bind fun x3 =>
    some (.inl (List.set (List.set t.1 i2 x) i3 x1, w64 (t.2 + 1)))
  else
    some (.inr t.1)

def api_App__345 (data : List App) (a : Int) (b : Int) (n : Int) (cmp : (TupT fam [.st 6, .st 6] → Option Int)) : Option (List App) :=
  (loop (api_App__345_l1 a b n) (data, 0)).bind fun data1 =>
  some data1
def h345 : Hint := (.s .z (.b (.l [(0, .row (.st 6) false), (10, .v (.int .i64) [])] [0, 10] [(2, [(0, .row (.st 6) false)])] .z)))
noncomputable def sp345 : Spec fam := ⟨[.row (.st 6) false, .v (.int .i64) [], .v (.int .i64) [], .v (.int .i64) [], .fn [.st 6, .st 6] (.int .i64)], [], fun a => api_App__345 a.1 a.2.1 a.2.2.1 a.2.2.2.1 a.2.2.2.2.1⟩

def api_App__299_l1 (m : Int) (cmp : (TupT fam [.st 6, .st 6] → Option Int)) (t : List App × Int × Int) : Option ((List App × Int × Int) ⊕ ((List App × Int))) :=
  bif t.2.1 != t.2.2 then
    bif decide (t.2.1 > t.2.2) then
      (api_App__345 t.1 (w64 (m - t.2.1)) m t.2.2 cmp).bind fun x =>
      let i := w64 (t.2.1 - t.2.2)
      some (.inl (x, i, t.2.2))
    else
      (api_App__345 t.1 (w64 (m - t.2.1)) (w64 ((w64 (m + t.2.2)) - t.2.1)) t.2.1 cmp).bind fun x1 =>
      let j := w64 (t.2.2 - t.2.1)
      some (.inl (x1, t.2.1, j))
  else
    some (.inr (t.1, t.2.1))

def api_App__299 (data : List App) (a : Int) (m : Int) (b : Int) (cmp : (TupT fam [.st 6, .st 6] → Option Int)) : Option (List App) :=
  (loop (api_App__299_l1 m cmp) (data, w64 (m - a), w64 (b - m))).bind fun q =>
  (api_App__345 q.1 (w64 (m - q.2)) m q.2 cmp).bind fun x2 =>
  some x2
def h299 : Hint := (.s .z (.s .z (.s (.b (.l [(0, .row (.st 6) false), (10, .v (.int .i64) []), (11, .v (.int .i64) [])] [0, 10, 11] [(2, [(0, .row (.st 6) false), (10, .v (.int .i64) [])])] .z)) .z)))
noncomputable def sp299 : Spec fam := ⟨[.row (.st 6) false, .v (.int .i64) [], .v (.int .i64) [], .v (.int .i64) [], .fn [.st 6, .st 6] (.int .i64)], [], fun a => api_App__299 a.1 a.2.1 a.2.2.1 a.2.2.2.1 a.2.2.2.2.1⟩

def api_App__220_s_l5 (data : List App) (cmp : (TupT fam [.st 6, .st 6] → Option Int)) (p : Int) (t4 : Int × Int) : Option ((Int × Int) ⊕ Int) :=
  bif decide (t4.1 < t4.2) then
    let c := w64 (shrK .u64 (IntKind.u64.wrap (w64 (t4.1 + t4.2))) 1)
    (inb (w64 (p - c)) data.length).bind fun i14 =>
    (data[i14]?).bind fun x12 =>
    (inb c data.length).bind fun i15 =>
    (data[i15]?).bind fun x13 =>
    (cmp (x12, x13, ())).bind fun r2 =>
    bif ! (decide (r2 < 0)) then
      some (.inl (w64 (c + 1), t4.2))
    else
      some (.inl (t4.1, c))
  else
    some (.inr t4.1)

def api_App__220_s_l4 (i9 : Int) (t3 : List App × Int) : Option ((List App × Int) ⊕ List App) :=
  bif decide (t3.2 > i9) then
    (inb (w64 (t3.2 - 1)) t3.1.length).bind fun i10 =>
    (t3.1[i10]?).bind fun x8 =>
    (inb t3.2 t3.1.length).bind fun i11 =>
    (t3.1[i11]?).bind fun x9 =>
    (inb t3.2 t3.1.length).bind fun i12 =>
    (t3.1[i12]?).bind fun x10 =>
    (inb (w64 (t3.2 - 1)) (List.set t3.1 i12 x8).length).bind fun i13 =>
    ((List.set t3.1 i12 x8)[i13]?).bind fun x11 =>
    some (.inl (List.set (List.set t3.1 i12 x8) i13 x9, w64 (t3.2 - 1)))
  else
    some (.inr t3.1)

def api_App__220_s_l3 (data : List App) (m : Int) (cmp : (TupT fam [.st 6, .st 6] → Option Int)) (t2 : Int × Int) : Option ((Int × Int) ⊕ Int) :=
  bif decide (t2.1 < t2.2) then
    let h1 := w64 (shrK .u64 (IntKind.u64.wrap (w64 (t2.1 + t2.2))) 1)
    (inb m data.length).bind fun i7 =>
    (data[i7]?).bind fun x6 =>
    (inb h1 data.length).bind fun i8 =>
    (data[i8]?).bind fun x7 =>
    (cmp (x6, x7, ())).bind fun r1 =>
    bif ! (decide (r1 < 0)) then
      some (.inl (w64 (h1 + 1), t2.2))
    else
      some (.inl (t2.1, h1))
  else
    some (.inr t2.1)

def api_App__220_s_l2 (i2 : Int) (t1 : List App × Int) : Option ((List App × Int) ⊕ List App) :=
  bif decide (t1.2 < (w64 (i2 - 1))) then
    (inb (w64 (t1.2 + 1)) t1.1.length).bind fun i3 =>
    (t1.1[i3]?).bind fun x2 =>
    (inb t1.2 t1.1.length).bind fun i4 =>
    (t1.1[i4]?).bind fun x3 =>
    (inb t1.2 t1.1.length).bind fun i5 =>
    (t1.1[i5]?).bind fun x4 =>
    (inb (w64 (t1.2 + 1)) (List.set t1.1 i5 x2).length).bind fun i6 =>
    ((List.set t1.1 i5 x2)[i6]?).bind fun x5 =>
    some (.inl (List.set (List.set t1.1 i5 x2) i6 x3, w64 (t1.2 + 1)))
  else
    some (.inr t1.1)

def api_App__220_s_l1 (data : List App) (a : Int) (cmp : (TupT fam [.st 6, .st 6] → Option Int)) (t : Int × Int) : Option ((Int × Int) ⊕ Int) :=
  bif decide (t.1 < t.2) then
    let h := w64 (shrK .u64 (IntKind.u64.wrap (w64 (t.1 + t.2))) 1)
    (inb h data.length).bind fun i =>
    (data[i]?).bind fun x =>
    (inb a data.length).bind fun i1 =>
    (data[i1]?).bind fun x1 =>
    (cmp (x, x1, ())).bind fun r =>
    bif decide (r < 0) then
      some (.inl (w64 (h + 1), t.2))
    else
      some (.inl (t.1, h))
  else
    some (.inr t.1)

def api_App__220_s (self : (List App) → Int → Int → Int → ((TupT fam [.st 6, .st 6] → Option Int)) → Option (List App)) (data : List App) (a : Int) (m : Int) (b : Int) (cmp : (TupT fam [.st 6, .st 6] → Option Int)) : Option (List App) :=
  bif (w64 (m - a)) == 1 then
    (loop (api_App__220_s_l1 data a cmp) (m, b)).bind fun i2 =>
    (loop (api_App__220_s_l2 i2) (data, a)).bind fun data1 =>
    some data1
  else
    bif (w64 (b - m)) == 1 then
      (loop (api_App__220_s_l3 data m cmp) (a, m)).bind fun i9 =>
      (loop (api_App__220_s_l4 i9) (data, m)).bind fun data2 =>
      some data2
    else
      let mid := w64 (shrK .u64 (IntKind.u64.wrap (w64 (a + b))) 1)
      (
        bif decide (m > mid) then
          let start := w64 ((w64 (mid + m)) - b)
          some (start, mid)
        else
          some (a, m)).bind fun q =>
      let p := w64 ((w64 (mid + m)) - 1)
      (loop (api_App__220_s_l5 data cmp p) (q.1, q.2)).bind fun start1 =>
      let end_ := w64 ((w64 (mid + m)) - start1)
      (
        (
          bif decide (start1 < m) then
            some (decide (m < end_))
          else
            some false).bind fun q1 =>
        bif q1 then
          (api_App__299 data start1 m end_ cmp).bind fun x14 =>
          some x14
        else
          some data).bind fun data3 =>
      (
        (
          bif decide (a < start1) then
            some (decide (start1 < mid))
          else
            some false).bind fun q2 =>
        bif q2 then
          (self data3 a start1 mid cmp).bind fun x15 =>
          some x15
        else
          some data3).bind fun data4 =>
      (
        bif decide (mid < end_) then
          some (decide (end_ < b))
        else
          some false).bind fun q3 =>
      bif q3 then
        (self data4 mid end_ b cmp).bind fun x16 =>
        some x16
      else
        some data4

def api_App__220_r : Nat → (List App) → Int → Int → Int → ((TupT fam [.st 6, .st 6] → Option Int)) → Option (List App)
  | 0 => fun _ _ _ _ _ => none
  | n + 1 => api_App__220_s (api_App__220_r n)

def api_App__220 (a0 : List App) (a1 : Int) (a2 : Int) (a3 : Int) (a4 : (TupT fam [.st 6, .st 6] → Option Int)) : Option (List App) := api_App__220_r 64 a0 a1 a2 a3 a4
def h220 : Hint := (.s (.s .z (.c (.s .z (.s .z (.s (.b (.l [(10, .v (.int .i64) []), (11, .v (.int .i64) [])] [10, 11, 12] [(2, [(10, .v (.int .i64) [])])] .z)) (.s (.s .z (.b (.l [(0, .row (.st 6) false), (13, .v (.int .i64) [])] [0, 13] [(4, [(0, .row (.st 6) false)])] .z))) .z)))) .z)) (.s (.s .z (.c (.s .z (.s .z (.s (.b (.l [(14, .v (.int .i64) []), (15, .v (.int .i64) [])] [14, 15, 16] [(6, [(14, .v (.int .i64) [])])] .z)) (.s (.s .z (.b (.l [(0, .row (.st 6) false), (17, .v (.int .i64) [])] [0, 17] [(8, [(0, .row (.st 6) false)])] .z))) .z)))) .z)) (.s .z (.s .z (.s .z (.s (.j [20, 21] [(0, [(20, .v (.int .i64) []), (21, .v (.int .i64) [])])] .z) (.s .z (.s (.b (.l [(20, .v (.int .i64) []), (21, .v (.int .i64) [])] [20, 21, 23] [(10, [(20, .v (.int .i64) [])])] .z)) (.s .z (.s (.j [0, 185] [(0, [(0, .row (.st 6) false)])] (.s (.j [] [(0, [(185, .v .bool [])])] .z) .z)) (.s (.j [0, 199] [(0, [(0, .row (.st 6) false)])] (.s (.j [] [(0, [(199, .v .bool [])])] .z) .z)) (.s (.j [] [(0, [(213, .v .bool [])])] .z) .z))))))))))))
noncomputable def sp220 : Spec fam := ⟨[.row (.st 6) false, .v (.int .i64) [], .v (.int .i64) [], .v (.int .i64) [], .fn [.st 6, .st 6] (.int .i64)], [], fun a => api_App__220 a.1 a.2.1 a.2.2.1 a.2.2.2.1 a.2.2.2.2.1⟩

noncomputable def sp220_r (n : Nat) : Spec fam := ⟨[.row (.st 6) false, .v (.int .i64) [], .v (.int .i64) [], .v (.int .i64) [], .fn [.st 6, .st 6] (.int .i64)], [], fun a => api_App__220_r n a.1 a.2.1 a.2.2.1 a.2.2.2.1 a.2.2.2.2.1⟩

def api_App__140_l3 (n : Int) (cmp : (TupT fam [.st 6, .st 6] → Option Int)) (t1 : List App × Int) (t2 : List App × Int × Int) : Option ((List App × Int × Int) ⊕ ((List App × Int))) :=
  bif decide (t2.2.2 ≤ n) then
    (api_App__220 t2.1 t2.2.1 (w64 (t2.2.1 + t1.2)) t2.2.2 cmp).bind fun x2 =>
    let b := w64 (t2.2.2 + (w64 (2 * t1.2)))
    some (.inl (x2, t2.2.2, b))
  else
    some (.inr (t2.1, t2.2.1))

def api_App__140_l2 (n : Int) (cmp : (TupT fam [.st 6, .st 6] → Option Int)) (t1 : List App × Int) : Option ((List App × Int) ⊕ List App) :=
  bif decide (t1.2 < n) then
    (loop (api_App__140_l3 n cmp t1) (t1.1, 0, w64 (2 * t1.2))).bind fun q1 =>
    (
      let m := w64 (q1.2 + t1.2)
      bif decide (m < n) then
        (api_App__220 q1.1 q1.2 m n cmp).bind fun x3 =>
        some x3
      else
        some q1.1).bind fun data1 =>
    some (.inl (data1, w64 (t1.2 * 2)))
  else
    some (.inr t1.1)

def api_App__140_l1 (n : Int) (cmp : (TupT fam [.st 6, .st 6] → Option Int)) (t : List App × Int × Int) : Option ((List App × Int × Int) ⊕ ((List App × Int))) :=
  bif decide (t.2.2 ≤ n) then
    (api_App_ t.1 t.2.1 t.2.2 cmp).bind fun x =>
    some (.inl (x, t.2.2, w64 (t.2.2 + 20)))
  else
    some (.inr (t.1, t.2.1))

def api_App__140 (data : List App) (n : Int) (cmp : (TupT fam [.st 6, .st 6] → Option Int)) : Option (List App) :=
  (loop (api_App__140_l1 n cmp) (data, 0, 20)).bind fun q =>
  (api_App_ q.1 q.2 n cmp).bind fun x1 =>
  (loop (api_App__140_l2 n cmp) (x1, 20)).bind fun data2 =>
  some data2
def h140 : Hint := (.s .z (.s .z (.s (.b (.l [(0, .row (.st 6) false), (7, .v (.int .i64) []), (8, .v (.int .i64) [])] [0, 7, 8] [(2, [(0, .row (.st 6) false), (7, .v (.int .i64) [])])] .z)) (.s .z (.b (.l [(0, .row (.st 6) false), (6, .v (.int .i64) [])] [0, 6, 7, 8, 9] [(4, [(0, .row (.st 6) false)])] (.s .z (.b (.s .z (.s (.b (.l [(0, .row (.st 6) false), (7, .v (.int .i64) []), (8, .v (.int .i64) [])] [0, 7, 8] [(6, [(0, .row (.st 6) false), (7, .v (.int .i64) [])])] .z)) (.s (.j [0, 9] [(0, [(0, .row (.st 6) false)])] .z) .z)))))))))))
noncomputable def sp140 : Spec fam := ⟨[.row (.st 6) false, .v (.int .i64) [], .fn [.st 6, .st 6] (.int .i64)], [], fun a => api_App__140 a.1 a.2.1 a.2.2.1⟩

def api_App__66 (x : List App) (cmp : (TupT fam [.st 6, .st 6] → Option Int)) : Option (List App) :=
  (api_App__140 x (x.length : Int) cmp).bind fun x1 =>
  some x1
def h66 : Hint := .z
noncomputable def sp66 : Spec fam := ⟨[.row (.st 6) false, .fn [.st 6, .st 6] (.int .i64)], [], fun a => api_App__66 a.1 a.2.1⟩

def cmp_isNaN_int_ (x : Int) : Option Bool :=
  some (x != x)
def h141 : Hint := .z
noncomputable def sp141 : Spec fam := ⟨[.v (.int .i64) []], [.v .bool []], fun a => cmp_isNaN_int_ a.1⟩

def cmp_Compare_int_ (x : Int) (y : Int) : Option Int :=
  (cmp_isNaN_int_ x).bind fun xNaN =>
  (cmp_isNaN_int_ y).bind fun yNaN =>
  bif xNaN then
    bif yNaN then
      some 0
    else
      some (-1)
  else
    bif yNaN then
      some 1
    else
      bif decide (x < y) then
        some (-1)
      else
        bif decide (x > y) then
          some 1
        else
          some 0
def h69 : Hint := .z
noncomputable def sp69 : Spec fam := ⟨[.v (.int .i64) [], .v (.int .i64) []], [.v (.int .i64) []], fun a => cmp_Compare_int_ a.1 a.2.1⟩

def order_Apps_1 (a : App) (b : App) : Option Int :=
  (cmp_Compare_int_ b.Prio a.Prio).bind fun x =>
  (cmp_Compare_int_ a.Id b.Id).bind fun x1 =>
  (cmp_Or_int_ [x, x1]).bind fun x2 =>
  some x2
def h67 : Hint := .z
noncomputable def sp67 : Spec fam := ⟨[.v (.st 6) [], .v (.st 6) []], [.v (.int .i64) []], fun a => order_Apps_1 a.1 a.2.1⟩

def order_Apps_l2 (x2 : List App) (t1 : List Int × Int) : Option ((List Int × Int) ⊕ List Int) :=
  bif decide (t1.2 < (x2.length : Int)) then
    (inb t1.2 x2.length).bind fun i =>
    (x2[i]?).bind fun x3 =>
    (inb t1.2 t1.1.length).bind fun i1 =>
    (t1.1[i1]?).bind fun x4 =>
    some (.inl (List.set t1.1 i1 x3.Id, w64 (t1.2 + 1)))
  else
    some (.inr t1.1)

def order_Apps_l1 (s : State) (queue : List UInt8) (t : List App × Int) : Option ((List App × Int) ⊕ List App) :=
  bif decide (t.2 < (s.Apps.length : Int)) then
    (
      (idx s.Apps t.2).bind fun x =>
      (
        (apps_Live x).bind fun x1 =>
        bif x1 then
          some (x.Queue == queue)
        else
          some false).bind fun q =>
      bif q then
        (app 200 t.1 [x]).bind fun l =>
        some l
      else
        some t.1).bind fun l1 =>
    some (.inl (l1, w64 (t.2 + 1)))
  else
    some (.inr t.1)

def order_Apps (s : State) (queue : List UInt8) : Option (List Int) :=
  (loop (order_Apps_l1 s queue) ([], 0)).bind fun l2 =>
  (api_App__66 l2 (fun a' => order_Apps_1 a'.1 a'.2.1)).bind fun x2 =>
  (mkl 8 (x2.length : Int) (x2.length : Int) 0).bind fun l3 =>
  (loop (order_Apps_l2 x2) (l3, 0)).bind fun out =>
  some out
def h19 : Hint := (.s .z (.s .z (.s (.s .z (.b (.l [(5, .v (.slice (.st 6)) [0]), (14, .v (.int .i64) [])] [5, 7, 14, 15, 16, 17, 18, 19, 20, 21, 22, 23, 24, 25, 26, 27, 28, 29, 30] [(2, [(5, .v (.slice (.st 6)) [0])])] (.s .z (.s .z (.s (.j [5, 7, 16, 17, 18, 19, 20, 21, 22, 23, 24, 25, 26, 27, 28, 29] [(0, [(5, .v (.slice (.st 6)) [0])])] (.b (.s .z (.s (.j [18, 19, 20, 21, 22, 23, 24, 25] [(0, [(25, .v .bool [])])] .z) .z)))) .z)))))) (.s .z (.s .z (.s (.s .z (.b (.l [(8, .row (.int .i64) false), (38, .v (.int .i64) [])] [8, 9, 10, 38] [(4, [(8, .row (.int .i64) false)])] .z))) .z))))))
noncomputable def sp19 : Spec fam := ⟨[.v (.st 10) [], .v .str []], [.v (.slice (.int .i64)) [0]], fun a => order_Apps a.1 a.2.1⟩

def dispatchlaw12_OrderApps_l3 (x3 : State) (t1 : Int × Int) : Option ((Int × Int) ⊕ Int) :=
  bif decide (t1.2 < (x3.Apps.length : Int)) then
    (
      (idx x3.Apps t1.2).bind fun x11 =>
      (dispatchref10_Live x11).bind fun x12 =>
      bif x12 then
        some (w64 (t1.1 + 1))
      else
        some t1.1).bind fun live =>
    some (.inl (live, w64 (t1.2 + 1)))
  else
    some (.inr t1.1)

def dispatchlaw12_OrderApps_l2 (x3 : State) (l : List (List UInt8)) (t : Int × Int) (ids : List Int) (k : Int) : Option (Int ⊕ (Bool ⊕ Unit)) :=
  bif decide (k < (ids.length : Int)) then
    (
      (inb k ids.length).bind fun i1 =>
      (ids[i1]?).bind fun x5 =>
      (dispatchref10_Find x3 x5).bind fun x6 =>
      (
        bif ! x6.2 then
          some true
        else
          (dispatchref10_Live x6.1).bind fun x7 =>
          bif ! x7 then
            some true
          else
            (inb t.2 l.length).bind fun i2 =>
            (l[i2]?).bind fun x8 =>
            some (! (x6.1.Queue == x8))).bind fun q =>
      bif q then
        some (.inr false)
      else
        bif decide (k > 0) then
          (inb (w64 (k - 1)) ids.length).bind fun i3 =>
          (ids[i3]?).bind fun x9 =>
          (dispatchref10_Find x3 x9).bind fun x10 =>
          (
            bif decide (x10.1.Prio < x6.1.Prio) then
              some true
            else
              bif x10.1.Prio == x6.1.Prio then
                some (decide (x10.1.Id ≥ x6.1.Id))
              else
                some false).bind fun q1 =>
          bif q1 then
            some (.inr false)
          else
            some (.inl ())
        else
          some (.inl ()) : Option (Unit ⊕ Bool)).bind fun q0 =>
    match q0 with
    | .inl _ =>
      some (.inl (w64 (k + 1)))
    | .inr q2 =>
      some (.inr (.inl q2))
  else
    some (.inr (.inr ()))

def dispatchlaw12_OrderApps_l1 (x3 : State) (l : List (List UInt8)) (t : Int × Int) : Option ((Int × Int) ⊕ (Bool ⊕ Int)) :=
  bif decide (t.2 < (l.length : Int)) then
    (inb t.2 l.length).bind fun i =>
    (l[i]?).bind fun x4 =>
    (order_Apps x3 x4).bind fun ids =>
    let n := w64 (t.1 + (ids.length : Int))
    (loop (dispatchlaw12_OrderApps_l2 x3 l t ids) 0).bind fun q0 =>
    match q0 with
    | .inl q3 =>
      some (.inr (.inl q3))
    | .inr _ =>
      some (.inl (n, w64 (t.2 + 1)))
  else
    some (.inr (.inr (t.1)))

def dispatchlaw12_OrderApps (x : Script) : Option Bool :=
  (dispatchlaw12_known).bind fun x1 =>
  bif ! x1 then
    some false
  else
    (dispatchlaw7_Script_Few x).bind fun x2 =>
    bif ! x2 then
      some true
    else
      (dispatchlaw7_Script_State x).bind fun x3 =>
      (dispatchlaw7_Leaves x3.Conf).bind fun l =>
      (loop (dispatchlaw12_OrderApps_l1 x3 l) (0, 0)).bind fun q0 =>
      match q0 with
      | .inl q4 =>
        some q4
      | .inr n1 =>
        (loop (dispatchlaw12_OrderApps_l3 x3) (0, 0)).bind fun live1 =>
        some (n1 == live1)
def h3 : Hint := (.s .z (.s .z (.s .z (.s .z (.s .z (.s .z (.s (.s .z (.b (.l [(5, .v (.int .i64) []), (6, .v (.int .i64) [])] [2, 5, 6, 7, 8, 9, 10, 11, 12, 71, 102] [(1, [(2, .v .bool [])]), (2, [(5, .v (.int .i64) [])])] (.s .z (.s (.b (.s .z (.s .z (.s .z (.b (.l [(8, .v (.int .i64) [])] [2, 8, 9, 10, 11, 12, 71, 102] [(1, [(2, .v .bool [])]), (4, [])] (.s .z (.s (.j [2, 9, 10, 11, 12, 71, 102] [(0, []), (1, [(2, .v .bool [])])] (.b (.s .z (.s (.s (.j [] [(0, [(71, .v .bool [])])] .z) .z) (.s .z (.c (.s .z (.s (.j [] [(0, [(102, .v .bool [])])] .z) .z)) .z)))))) .z)))))))) .z))))) (.s .z (.s (.s .z (.b (.l [(13, .v (.int .i64) []), (14, .v (.int .i64) [])] [13, 14] [(6, [(13, .v (.int .i64) [])])] (.s .z (.s (.j [13] [(0, [(13, .v (.int .i64) [])])] .z) .z))))) .z)))))))))
noncomputable def sp3 : Spec fam := ⟨[.v (.st 12) []], [.v .bool []], fun a => dispatchlaw12_OrderApps a.1⟩

end
end Go.Fx.D
