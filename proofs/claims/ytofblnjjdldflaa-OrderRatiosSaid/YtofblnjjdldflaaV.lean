/-
  Laws over plain data: true at all inputs. Conditions: none.
-/
import Derived.Test.YtofblnjjdldflaaD
import Derived.Test.YtofblnjjdldflaaFxC
namespace Go.Fx.D
open Go Go.Fx
set_option linter.unusedVariables false
set_option linter.unusedSimpArgs false
set_option maxRecDepth 100000

def c_dispatchref19_New : Option State :=
  some (⟨⟨[([] : List UInt8)], [(⟨([114, 111, 111, 116] : List UInt8), [(⟨10000, 10000⟩ : Cap)], 10000⟩ : Queue)]⟩, [], [], [], [], [], 0, 0, 0⟩ : State)
theorem le_dispatchref19_New : Lo (c_dispatchref19_New) (dispatchref19_New) := by
  unfold c_dispatchref19_New dispatchref19_New
  repeat' (first | with_reducible refine lo_bind4 ?_ ?_ ?_ ?_ ?_ | with_reducible refine lo_bind3 ?_ ?_ ?_ ?_ | with_reducible refine lo_bind2 ?_ ?_ ?_ | with_reducible refine lo_bind ?_ ?_ | with_reducible refine lo_cond ?_ ?_ | with_reducible refine lo_iter ?_ _ | (intro _) | with_reducible exact lo_refl _ | exact lo_none | (dsimp only))
def c_bytealg_LastIndexByteString_l1 (s : List UInt8) (c : Int) (i1 : Int) : Option (Int ⊕ (Int ⊕ Unit)) :=
  bif decide (i1 ≥ 0) then
    (idx s i1).bind fun ch =>
    bif (ch.toNat : Int) == c then
      some (.inr (.inl i1))
    else
      some (.inl (w64 (i1 - 1)))
  else
    some (.inr (.inr ()))
theorem le_bytealg_LastIndexByteString_l1 (s : List UInt8) (c : Int) (i1 : Int) : Lo (c_bytealg_LastIndexByteString_l1 s c i1) (bytealg_LastIndexByteString_l1 s c i1) := by
  unfold c_bytealg_LastIndexByteString_l1 bytealg_LastIndexByteString_l1
  repeat' (first | with_reducible refine lo_bind4 ?_ ?_ ?_ ?_ ?_ | with_reducible refine lo_bind3 ?_ ?_ ?_ ?_ | with_reducible refine lo_bind2 ?_ ?_ ?_ | with_reducible refine lo_bind ?_ ?_ | with_reducible refine lo_cond ?_ ?_ | with_reducible refine lo_iter ?_ _ | (intro _) | with_reducible exact lo_refl _ | exact lo_none | (dsimp only))
def c_bytealg_LastIndexByteString (s : List UInt8) (c : Int) : Option Int :=
  let i := w64 ((s.length : Int) - 1)
  (itr 4096 (c_bytealg_LastIndexByteString_l1 s c) i).bind fun q0 =>
  match q0 with
  | .inl q =>
    some q
  | .inr _ =>
    some (-1)
theorem le_bytealg_LastIndexByteString (s : List UInt8) (c : Int) : Lo (c_bytealg_LastIndexByteString s c) (bytealg_LastIndexByteString s c) := by
  unfold c_bytealg_LastIndexByteString bytealg_LastIndexByteString
  repeat' (first | with_reducible exact le_bytealg_LastIndexByteString_l1 _ _ _ | with_reducible refine lo_bind4 ?_ ?_ ?_ ?_ ?_ | with_reducible refine lo_bind3 ?_ ?_ ?_ ?_ | with_reducible refine lo_bind2 ?_ ?_ ?_ | with_reducible refine lo_bind ?_ ?_ | with_reducible refine lo_cond ?_ ?_ | with_reducible refine lo_iter ?_ _ | (intro _) | with_reducible exact lo_refl _ | exact lo_none | (dsimp only))
def c_bytealg_hashStrRev_string__l2 (t1 : Int × Int × Int) : Option ((Int × Int × Int) ⊕ Int) :=
  bif decide (t1.2.2 > 0) then
    (
      bif (andK .i64 t1.2.2 1) != 0 then
        let pow := IntKind.u32.wrap (t1.1 * t1.2.1)
        some pow
      else
        some t1.1).bind fun pow1 =>
    let sq := IntKind.u32.wrap (t1.2.1 * t1.2.1)
    some (.inl (pow1, sq, shrK .i64 t1.2.2 1))
  else
    some (.inr t1.1)
theorem le_bytealg_hashStrRev_string__l2 (t1 : Int × Int × Int) : Lo (c_bytealg_hashStrRev_string__l2 t1) (bytealg_hashStrRev_string__l2 t1) := by
  unfold c_bytealg_hashStrRev_string__l2 bytealg_hashStrRev_string__l2
  repeat' (first | with_reducible refine lo_bind4 ?_ ?_ ?_ ?_ ?_ | with_reducible refine lo_bind3 ?_ ?_ ?_ ?_ | with_reducible refine lo_bind2 ?_ ?_ ?_ | with_reducible refine lo_bind ?_ ?_ | with_reducible refine lo_cond ?_ ?_ | with_reducible refine lo_iter ?_ _ | (intro _) | with_reducible exact lo_refl _ | exact lo_none | (dsimp only))
def c_bytealg_hashStrRev_string__l1 (sep : List UInt8) (t : Int × Int) : Option ((Int × Int) ⊕ Int) :=
  bif decide (t.2 ≥ 0) then
    (idx sep t.2).bind fun ch =>
    let hash := IntKind.u32.wrap ((IntKind.u32.wrap (t.1 * 16777619)) + (IntKind.u32.wrap (ch.toNat : Int)))
    some (.inl (hash, w64 (t.2 - 1)))
  else
    some (.inr t.1)
theorem le_bytealg_hashStrRev_string__l1 (sep : List UInt8) (t : Int × Int) : Lo (c_bytealg_hashStrRev_string__l1 sep t) (bytealg_hashStrRev_string__l1 sep t) := by
  unfold c_bytealg_hashStrRev_string__l1 bytealg_hashStrRev_string__l1
  repeat' (first | with_reducible refine lo_bind4 ?_ ?_ ?_ ?_ ?_ | with_reducible refine lo_bind3 ?_ ?_ ?_ ?_ | with_reducible refine lo_bind2 ?_ ?_ ?_ | with_reducible refine lo_bind ?_ ?_ | with_reducible refine lo_cond ?_ ?_ | with_reducible refine lo_iter ?_ _ | (intro _) | with_reducible exact lo_refl _ | exact lo_none | (dsimp only))
def c_bytealg_hashStrRev_string_ (sep : List UInt8) : Option (Int × Int) :=
  let i := w64 ((sep.length : Int) - 1)
  (itr 4096 (c_bytealg_hashStrRev_string__l1 sep) (0, i)).bind fun hash1 =>
  (itr 4096 c_bytealg_hashStrRev_string__l2 (1, 16777619, (sep.length : Int))).bind fun pow2 =>
  some (hash1, pow2)
theorem le_bytealg_hashStrRev_string_ (sep : List UInt8) : Lo (c_bytealg_hashStrRev_string_ sep) (bytealg_hashStrRev_string_ sep) := by
  unfold c_bytealg_hashStrRev_string_ bytealg_hashStrRev_string_
  repeat' (first | with_reducible exact le_bytealg_hashStrRev_string__l1 _ _ | with_reducible exact le_bytealg_hashStrRev_string__l2 _ | with_reducible refine lo_bind4 ?_ ?_ ?_ ?_ ?_ | with_reducible refine lo_bind3 ?_ ?_ ?_ ?_ | with_reducible refine lo_bind2 ?_ ?_ ?_ | with_reducible refine lo_bind ?_ ?_ | with_reducible refine lo_cond ?_ ?_ | with_reducible refine lo_iter ?_ _ | (intro _) | with_reducible exact lo_refl _ | exact lo_none | (dsimp only))
def c_bytealg_LastIndexRabinKarp_string__l2 (s : List UInt8) (sep : List UInt8) (x : Int × Int) (t1 : Int × Int) : Option ((Int × Int) ⊕ (Int ⊕ Unit)) :=
  bif decide (t1.2 ≥ 0) then
    (idx s t1.2).bind fun ch1 =>
    let h2 := IntKind.u32.wrap ((IntKind.u32.wrap (t1.1 * 16777619)) + (IntKind.u32.wrap (ch1.toNat : Int)))
    (idx s (w64 (t1.2 + (sep.length : Int)))).bind fun ch2 =>
    let h3 := IntKind.u32.wrap (h2 - (IntKind.u32.wrap (x.2 * (IntKind.u32.wrap (ch2.toNat : Int)))))
    (
      bif h3 == x.1 then
        (slc s t1.2 (w64 (t1.2 + (sep.length : Int)))).bind fun s2 =>
        some (s2 == sep)
      else
        some false).bind fun q1 =>
    bif q1 then
      some (.inr (.inl (t1.2)))
    else
      some (.inl (h3, w64 (t1.2 - 1)))
  else
    some (.inr (.inr ()))
theorem le_bytealg_LastIndexRabinKarp_string__l2 (s : List UInt8) (sep : List UInt8) (x : Int × Int) (t1 : Int × Int) : Lo (c_bytealg_LastIndexRabinKarp_string__l2 s sep x t1) (bytealg_LastIndexRabinKarp_string__l2 s sep x t1) := by
  unfold c_bytealg_LastIndexRabinKarp_string__l2 bytealg_LastIndexRabinKarp_string__l2
  repeat' (first | with_reducible refine lo_bind4 ?_ ?_ ?_ ?_ ?_ | with_reducible refine lo_bind3 ?_ ?_ ?_ ?_ | with_reducible refine lo_bind2 ?_ ?_ ?_ | with_reducible refine lo_bind ?_ ?_ | with_reducible refine lo_cond ?_ ?_ | with_reducible refine lo_iter ?_ _ | (intro _) | with_reducible exact lo_refl _ | exact lo_none | (dsimp only))
def c_bytealg_LastIndexRabinKarp_string__l1 (s : List UInt8) (last : Int) (t : Int × Int) : Option ((Int × Int) ⊕ Int) :=
  bif decide (t.2 ≥ last) then
    (idx s t.2).bind fun ch =>
    let h := IntKind.u32.wrap ((IntKind.u32.wrap (t.1 * 16777619)) + (IntKind.u32.wrap (ch.toNat : Int)))
    some (.inl (h, w64 (t.2 - 1)))
  else
    some (.inr t.1)
theorem le_bytealg_LastIndexRabinKarp_string__l1 (s : List UInt8) (last : Int) (t : Int × Int) : Lo (c_bytealg_LastIndexRabinKarp_string__l1 s last t) (bytealg_LastIndexRabinKarp_string__l1 s last t) := by
  unfold c_bytealg_LastIndexRabinKarp_string__l1 bytealg_LastIndexRabinKarp_string__l1
  repeat' (first | with_reducible refine lo_bind4 ?_ ?_ ?_ ?_ ?_ | with_reducible refine lo_bind3 ?_ ?_ ?_ ?_ | with_reducible refine lo_bind2 ?_ ?_ ?_ | with_reducible refine lo_bind ?_ ?_ | with_reducible refine lo_cond ?_ ?_ | with_reducible refine lo_iter ?_ _ | (intro _) | with_reducible exact lo_refl _ | exact lo_none | (dsimp only))
def c_bytealg_LastIndexRabinKarp_string_ (s : List UInt8) (sep : List UInt8) : Option Int :=
  (c_bytealg_hashStrRev_string_ sep).bind fun x =>
  let last := w64 ((s.length : Int) - (sep.length : Int))
  let i := w64 ((s.length : Int) - 1)
  (itr 4096 (c_bytealg_LastIndexRabinKarp_string__l1 s last) (0, i)).bind fun h1 =>
  (
    bif h1 == x.1 then
      (slc s last (s.length : Int)).bind fun s1 =>
      some (s1 == sep)
    else
      some false).bind fun q =>
  bif q then
    some last
  else
    (itr 4096 (c_bytealg_LastIndexRabinKarp_string__l2 s sep x) (h1, w64 (last - 1))).bind fun q0 =>
    match q0 with
    | .inl q2 =>
      some q2
    | .inr _ =>
      some (-1)
theorem le_bytealg_LastIndexRabinKarp_string_ (s : List UInt8) (sep : List UInt8) : Lo (c_bytealg_LastIndexRabinKarp_string_ s sep) (bytealg_LastIndexRabinKarp_string_ s sep) := by
  unfold c_bytealg_LastIndexRabinKarp_string_ bytealg_LastIndexRabinKarp_string_
  repeat' (first | with_reducible exact le_bytealg_hashStrRev_string_ _ | with_reducible exact le_bytealg_LastIndexRabinKarp_string__l1 _ _ _ | with_reducible exact le_bytealg_LastIndexRabinKarp_string__l2 _ _ _ _ | with_reducible refine lo_bind4 ?_ ?_ ?_ ?_ ?_ | with_reducible refine lo_bind3 ?_ ?_ ?_ ?_ | with_reducible refine lo_bind2 ?_ ?_ ?_ | with_reducible refine lo_bind ?_ ?_ | with_reducible refine lo_cond ?_ ?_ | with_reducible refine lo_iter ?_ _ | (intro _) | with_reducible exact lo_refl _ | exact lo_none | (dsimp only))
def c_strings_LastIndex (s : List UInt8) (substr : List UInt8) : Option Int :=
  bif (substr.length : Int) == 0 then
    some (s.length : Int)
  else
    bif (substr.length : Int) == 1 then
      (idx substr 0).bind fun ch =>
      (c_bytealg_LastIndexByteString s (ch.toNat : Int)).bind fun x =>
      some x
    else
      bif (substr.length : Int) == (s.length : Int) then
        bif substr == s then
          some 0
        else
          some (-1)
      else
        bif decide ((substr.length : Int) > (s.length : Int)) then
          some (-1)
        else
          (c_bytealg_LastIndexRabinKarp_string_ s substr).bind fun x1 =>
          some x1
theorem le_strings_LastIndex (s : List UInt8) (substr : List UInt8) : Lo (c_strings_LastIndex s substr) (strings_LastIndex s substr) := by
  unfold c_strings_LastIndex strings_LastIndex
  repeat' (first | with_reducible exact le_bytealg_LastIndexByteString _ _ | with_reducible exact le_bytealg_LastIndexRabinKarp_string_ _ _ | with_reducible refine lo_bind4 ?_ ?_ ?_ ?_ ?_ | with_reducible refine lo_bind3 ?_ ?_ ?_ ?_ | with_reducible refine lo_bind2 ?_ ?_ ?_ | with_reducible refine lo_bind ?_ ?_ | with_reducible refine lo_cond ?_ ?_ | with_reducible refine lo_iter ?_ _ | (intro _) | with_reducible exact lo_refl _ | exact lo_none | (dsimp only))
def c_rule_above (path : List UInt8) : Option (List UInt8 × Bool) :=
  (c_strings_LastIndex path ([46] : List UInt8)).bind fun i =>
  bif decide (i < 0) then
    some (([] : List UInt8), false)
  else
    (slc path 0 i).bind fun s =>
    some (s, true)
theorem le_rule_above (path : List UInt8) : Lo (c_rule_above path) (rule_above path) := by
  unfold c_rule_above rule_above
  repeat' (first | with_reducible exact le_strings_LastIndex _ _ | with_reducible refine lo_bind4 ?_ ?_ ?_ ?_ ?_ | with_reducible refine lo_bind3 ?_ ?_ ?_ ?_ | with_reducible refine lo_bind2 ?_ ?_ ?_ | with_reducible refine lo_bind ?_ ?_ | with_reducible refine lo_cond ?_ ?_ | with_reducible refine lo_iter ?_ _ | (intro _) | with_reducible exact lo_refl _ | exact lo_none | (dsimp only))
def c_rule_Kids_l1 (c : Conf) (path : List UInt8) (t : List (List UInt8) × Int) : Option ((List (List UInt8) × Int) ⊕ List (List UInt8)) :=
  bif decide (t.2 < (c.Queues.length : Int)) then
    (
      (idx c.Queues t.2).bind fun x =>
      (c_rule_above x.Path).bind fun x1 =>
      (
        bif x1.2 then
          some (x1.1 == path)
        else
          some false).bind fun q =>
      bif q then
        (app 16 t.1 [x.Path]).bind fun l =>
        some l
      else
        some t.1).bind fun out =>
    some (.inl (out, w64 (t.2 + 1)))
  else
    some (.inr t.1)
theorem le_rule_Kids_l1 (c : Conf) (path : List UInt8) (t : List (List UInt8) × Int) : Lo (c_rule_Kids_l1 c path t) (rule_Kids_l1 c path t) := by
  unfold c_rule_Kids_l1 rule_Kids_l1
  repeat' (first | with_reducible exact le_rule_above _ | with_reducible refine lo_bind4 ?_ ?_ ?_ ?_ ?_ | with_reducible refine lo_bind3 ?_ ?_ ?_ ?_ | with_reducible refine lo_bind2 ?_ ?_ ?_ | with_reducible refine lo_bind ?_ ?_ | with_reducible refine lo_cond ?_ ?_ | with_reducible refine lo_iter ?_ _ | (intro _) | with_reducible exact lo_refl _ | exact lo_none | (dsimp only))
def c_rule_Kids (c : Conf) (path : List UInt8) : Option (List (List UInt8)) :=
  (itr 4096 (c_rule_Kids_l1 c path) ([], 0)).bind fun out1 =>
  some out1
theorem le_rule_Kids (c : Conf) (path : List UInt8) : Lo (c_rule_Kids c path) (rule_Kids c path) := by
  unfold c_rule_Kids rule_Kids
  repeat' (first | with_reducible exact le_rule_Kids_l1 _ _ _ | with_reducible refine lo_bind4 ?_ ?_ ?_ ?_ ?_ | with_reducible refine lo_bind3 ?_ ?_ ?_ ?_ | with_reducible refine lo_bind2 ?_ ?_ ?_ | with_reducible refine lo_bind ?_ ?_ | with_reducible refine lo_cond ?_ ?_ | with_reducible refine lo_iter ?_ _ | (intro _) | with_reducible exact lo_refl _ | exact lo_none | (dsimp only))
def c_qtree_view_owner_l1 (v : View) (c : Cont) (t : App × Int) : Option ((App × Int) ⊕ ((App × Bool) ⊕ App)) :=
  bif decide (t.2 < (v.s.Apps.length : Int)) then
    (idx v.s.Apps t.2).bind fun x =>
    bif x.Id == c.App then
      some (.inr (.inl (x, true)))
    else
      some (.inl (t.1, w64 (t.2 + 1)))
  else
    some (.inr (.inr (t.1)))
theorem le_qtree_view_owner_l1 (v : View) (c : Cont) (t : App × Int) : Lo (c_qtree_view_owner_l1 v c t) (qtree_view_owner_l1 v c t) := by
  unfold c_qtree_view_owner_l1 qtree_view_owner_l1
  repeat' (first | with_reducible refine lo_bind4 ?_ ?_ ?_ ?_ ?_ | with_reducible refine lo_bind3 ?_ ?_ ?_ ?_ | with_reducible refine lo_bind2 ?_ ?_ ?_ | with_reducible refine lo_bind ?_ ?_ | with_reducible refine lo_cond ?_ ?_ | with_reducible refine lo_iter ?_ _ | (intro _) | with_reducible exact lo_refl _ | exact lo_none | (dsimp only))
def c_qtree_view_owner (v : View) (c : Cont) : Option (App × Bool) :=
  (itr 4096 (c_qtree_view_owner_l1 v c) ((⟨0, 0, [], 0, 0, ⟨0, 0⟩, [], 0, 0, [], [], [], []⟩ : App), 0)).bind fun q0 =>
  match q0 with
  | .inl q =>
    some (q.1, q.2)
  | .inr q1 =>
    some ((⟨0, 0, [], 0, 0, ⟨0, 0⟩, [], 0, 0, [], [], [], []⟩ : App), false)
theorem le_qtree_view_owner (v : View) (c : Cont) : Lo (c_qtree_view_owner v c) (qtree_view_owner v c) := by
  unfold c_qtree_view_owner qtree_view_owner
  repeat' (first | with_reducible exact le_qtree_view_owner_l1 _ _ _ | with_reducible refine lo_bind4 ?_ ?_ ?_ ?_ ?_ | with_reducible refine lo_bind3 ?_ ?_ ?_ ?_ | with_reducible refine lo_bind2 ?_ ?_ ?_ | with_reducible refine lo_bind ?_ ?_ | with_reducible refine lo_cond ?_ ?_ | with_reducible refine lo_iter ?_ _ | (intro _) | with_reducible exact lo_refl _ | exact lo_none | (dsimp only))
def c_stringslite_HasPrefix (s : List UInt8) (prefix_ : List UInt8) : Option Bool :=
  bif decide ((s.length : Int) ≥ (prefix_.length : Int)) then
    (slc s 0 (prefix_.length : Int)).bind fun s1 =>
    some (s1 == prefix_)
  else
    some false
theorem le_stringslite_HasPrefix (s : List UInt8) (prefix_ : List UInt8) : Lo (c_stringslite_HasPrefix s prefix_) (stringslite_HasPrefix s prefix_) := by
  unfold c_stringslite_HasPrefix stringslite_HasPrefix
  repeat' (first | with_reducible refine lo_bind4 ?_ ?_ ?_ ?_ ?_ | with_reducible refine lo_bind3 ?_ ?_ ?_ ?_ | with_reducible refine lo_bind2 ?_ ?_ ?_ | with_reducible refine lo_bind ?_ ?_ | with_reducible refine lo_cond ?_ ?_ | with_reducible refine lo_iter ?_ _ | (intro _) | with_reducible exact lo_refl _ | exact lo_none | (dsimp only))
def c_strings_HasPrefix (s : List UInt8) (prefix_ : List UInt8) : Option Bool :=
  (c_stringslite_HasPrefix s prefix_).bind fun x =>
  some x
theorem le_strings_HasPrefix (s : List UInt8) (prefix_ : List UInt8) : Lo (c_strings_HasPrefix s prefix_) (strings_HasPrefix s prefix_) := by
  unfold c_strings_HasPrefix strings_HasPrefix
  repeat' (first | with_reducible exact le_stringslite_HasPrefix _ _ | with_reducible refine lo_bind4 ?_ ?_ ?_ ?_ ?_ | with_reducible refine lo_bind3 ?_ ?_ ?_ ?_ | with_reducible refine lo_bind2 ?_ ?_ ?_ | with_reducible refine lo_bind ?_ ?_ | with_reducible refine lo_cond ?_ ?_ | with_reducible refine lo_iter ?_ _ | (intro _) | with_reducible exact lo_refl _ | exact lo_none | (dsimp only))
def c_qtree_view_has (v : View) (a : App) : Option Bool :=
  (
    bif a.Queue == v.path then
      some true
    else
      (cat v.path ([46] : List UInt8)).bind fun s =>
      (c_strings_HasPrefix a.Queue s).bind fun x =>
      some x).bind fun below =>
  bif below then
    bif v.user == (-1) then
      some true
    else
      some (a.User == v.user)
  else
    some false
theorem le_qtree_view_has (v : View) (a : App) : Lo (c_qtree_view_has v a) (qtree_view_has v a) := by
  unfold c_qtree_view_has qtree_view_has
  repeat' (first | with_reducible exact le_strings_HasPrefix _ _ | with_reducible refine lo_bind4 ?_ ?_ ?_ ?_ ?_ | with_reducible refine lo_bind3 ?_ ?_ ?_ ?_ | with_reducible refine lo_bind2 ?_ ?_ ?_ | with_reducible refine lo_bind ?_ ?_ | with_reducible refine lo_cond ?_ ?_ | with_reducible refine lo_iter ?_ _ | (intro _) | with_reducible exact lo_refl _ | exact lo_none | (dsimp only))
def c_rvec_vec_good (v : Vec) : Option Bool :=
  bif decide (v.Mem ≥ 0) then
    bif decide (v.Mem ≤ 1125899906842624) then
      bif decide (v.Cores ≥ 0) then
        some (decide (v.Cores ≤ 1125899906842624))
      else
        some false
    else
      some false
  else
    some false
theorem le_rvec_vec_good (v : Vec) : Lo (c_rvec_vec_good v) (rvec_vec_good v) := by
  unfold c_rvec_vec_good rvec_vec_good
  repeat' (first | with_reducible refine lo_bind4 ?_ ?_ ?_ ?_ ?_ | with_reducible refine lo_bind3 ?_ ?_ ?_ ?_ | with_reducible refine lo_bind2 ?_ ?_ ?_ | with_reducible refine lo_bind ?_ ?_ | with_reducible refine lo_cond ?_ ?_ | with_reducible refine lo_iter ?_ _ | (intro _) | with_reducible exact lo_refl _ | exact lo_none | (dsimp only))
def c_rvec_over (v : Vec) : Option (Vec × Int) :=
  (c_rvec_vec_good v).bind fun x =>
  bif ! x then
    some ((⟨0, 0⟩ : Vec), 11)
  else
    some (v, 0)
theorem le_rvec_over (v : Vec) : Lo (c_rvec_over v) (rvec_over v) := by
  unfold c_rvec_over rvec_over
  repeat' (first | with_reducible exact le_rvec_vec_good _ | with_reducible refine lo_bind4 ?_ ?_ ?_ ?_ ?_ | with_reducible refine lo_bind3 ?_ ?_ ?_ ?_ | with_reducible refine lo_bind2 ?_ ?_ ?_ | with_reducible refine lo_bind ?_ ?_ | with_reducible refine lo_cond ?_ ?_ | with_reducible refine lo_iter ?_ _ | (intro _) | with_reducible exact lo_refl _ | exact lo_none | (dsimp only))
def c_rvec_Add (a : Vec) (b : Vec) : Option (Vec × Int) :=
  (
    (c_rvec_vec_good a).bind fun x =>
    bif ! x then
      some true
    else
      (c_rvec_vec_good b).bind fun x1 =>
      some (! x1)).bind fun q =>
  bif q then
    some ((⟨0, 0⟩ : Vec), 1)
  else
    (c_rvec_over (⟨w64 (a.Mem + b.Mem), w64 (a.Cores + b.Cores)⟩ : Vec)).bind fun x2 =>
    some (x2.1, x2.2)
theorem le_rvec_Add (a : Vec) (b : Vec) : Lo (c_rvec_Add a b) (rvec_Add a b) := by
  unfold c_rvec_Add rvec_Add
  repeat' (first | with_reducible exact le_rvec_vec_good _ | with_reducible exact le_rvec_over _ | with_reducible refine lo_bind4 ?_ ?_ ?_ ?_ ?_ | with_reducible refine lo_bind3 ?_ ?_ ?_ ?_ | with_reducible refine lo_bind2 ?_ ?_ ?_ | with_reducible refine lo_bind ?_ ?_ | with_reducible refine lo_cond ?_ ?_ | with_reducible refine lo_iter ?_ _ | (intro _) | with_reducible exact lo_refl _ | exact lo_none | (dsimp only))
def c_qtree_view_used_l1 (v : View) (t : Vec × Int) : Option ((Vec × Int) ⊕ Vec) :=
  bif decide (t.2 < (v.s.Conts.length : Int)) then
    (
      (idx v.s.Conts t.2).bind fun x =>
      (c_qtree_view_owner v x).bind fun x1 =>
      (
        bif x1.2 then
          bif x.Label == v.label then
            (c_qtree_view_has v x1.1).bind fun x2 =>
            some x2
          else
            some false
        else
          some false).bind fun q =>
      bif q then
        (c_rvec_Add t.1 x.Size).bind fun x3 =>
        some x3.1
      else
        some t.1).bind fun out =>
    some (.inl (out, w64 (t.2 + 1)))
  else
    some (.inr t.1)
theorem le_qtree_view_used_l1 (v : View) (t : Vec × Int) : Lo (c_qtree_view_used_l1 v t) (qtree_view_used_l1 v t) := by
  unfold c_qtree_view_used_l1 qtree_view_used_l1
  repeat' (first | with_reducible exact le_qtree_view_owner _ _ | with_reducible exact le_qtree_view_has _ _ | with_reducible exact le_rvec_Add _ _ | with_reducible refine lo_bind4 ?_ ?_ ?_ ?_ ?_ | with_reducible refine lo_bind3 ?_ ?_ ?_ ?_ | with_reducible refine lo_bind2 ?_ ?_ ?_ | with_reducible refine lo_bind ?_ ?_ | with_reducible refine lo_cond ?_ ?_ | with_reducible refine lo_iter ?_ _ | (intro _) | with_reducible exact lo_refl _ | exact lo_none | (dsimp only))
def c_qtree_view_used (v : View) : Option Vec :=
  (itr 4096 (c_qtree_view_used_l1 v) ((⟨0, 0⟩ : Vec), 0)).bind fun out1 =>
  some out1
theorem le_qtree_view_used (v : View) : Lo (c_qtree_view_used v) (qtree_view_used v) := by
  unfold c_qtree_view_used qtree_view_used
  repeat' (first | with_reducible exact le_qtree_view_used_l1 _ _ | with_reducible refine lo_bind4 ?_ ?_ ?_ ?_ ?_ | with_reducible refine lo_bind3 ?_ ?_ ?_ ?_ | with_reducible refine lo_bind2 ?_ ?_ ?_ | with_reducible refine lo_bind ?_ ?_ | with_reducible refine lo_cond ?_ ?_ | with_reducible refine lo_iter ?_ _ | (intro _) | with_reducible exact lo_refl _ | exact lo_none | (dsimp only))
def c_qtree_Used (s : State) (path : List UInt8) (label : Int) : Option Vec :=
  (c_qtree_view_used (⟨⟨⟨s.Conf.Labels, s.Conf.Queues⟩, s.Nodes, s.Apps, s.Conts, s.Slots, s.Plans, s.Now, s.Epoch, s.Seq⟩, path, label, (-1)⟩ : View)).bind fun x =>
  some x
theorem le_qtree_Used (s : State) (path : List UInt8) (label : Int) : Lo (c_qtree_Used s path label) (qtree_Used s path label) := by
  unfold c_qtree_Used qtree_Used
  repeat' (first | with_reducible exact le_qtree_view_used _ | with_reducible refine lo_bind4 ?_ ?_ ?_ ?_ ?_ | with_reducible refine lo_bind3 ?_ ?_ ?_ ?_ | with_reducible refine lo_bind2 ?_ ?_ ?_ | with_reducible refine lo_bind ?_ ?_ | with_reducible refine lo_cond ?_ ?_ | with_reducible refine lo_iter ?_ _ | (intro _) | with_reducible exact lo_refl _ | exact lo_none | (dsimp only))
def c_rule_Up_l1 (t : List UInt8 × List (List UInt8)) : Option ((List UInt8 × List (List UInt8)) ⊕ List (List UInt8)) :=
  bif ! (t.1 == ([] : List UInt8)) then
    (app 16 t.2 [t.1]).bind fun l =>
    (c_rule_above t.1).bind fun x =>
    some (.inl (x.1, l))
  else
    some (.inr t.2)
theorem le_rule_Up_l1 (t : List UInt8 × List (List UInt8)) : Lo (c_rule_Up_l1 t) (rule_Up_l1 t) := by
  unfold c_rule_Up_l1 rule_Up_l1
  repeat' (first | with_reducible exact le_rule_above _ | with_reducible refine lo_bind4 ?_ ?_ ?_ ?_ ?_ | with_reducible refine lo_bind3 ?_ ?_ ?_ ?_ | with_reducible refine lo_bind2 ?_ ?_ ?_ | with_reducible refine lo_bind ?_ ?_ | with_reducible refine lo_cond ?_ ?_ | with_reducible refine lo_iter ?_ _ | (intro _) | with_reducible exact lo_refl _ | exact lo_none | (dsimp only))
def c_rule_Up (path : List UInt8) : Option (List (List UInt8)) :=
  (itr 4096 c_rule_Up_l1 (path, [])).bind fun out =>
  some out
theorem le_rule_Up (path : List UInt8) : Lo (c_rule_Up path) (rule_Up path) := by
  unfold c_rule_Up rule_Up
  repeat' (first | with_reducible exact le_rule_Up_l1 _ | with_reducible refine lo_bind4 ?_ ?_ ?_ ?_ ?_ | with_reducible refine lo_bind3 ?_ ?_ ?_ ?_ | with_reducible refine lo_bind2 ?_ ?_ ?_ | with_reducible refine lo_bind ?_ ?_ | with_reducible refine lo_cond ?_ ?_ | with_reducible refine lo_iter ?_ _ | (intro _) | with_reducible exact lo_refl _ | exact lo_none | (dsimp only))
def c_api_Queue__l1 (s : List Queue) (f : (TupT fam [.st 1] → Option Bool)) (t : Int) : Option (Int ⊕ (Int ⊕ Unit)) :=
  bif decide (t < (s.length : Int)) then
    (idx s t).bind fun x =>
    (f (x, ())).bind fun r =>
    bif r then
      some (.inr (.inl t))
    else
      some (.inl (w64 (t + 1)))
  else
    some (.inr (.inr ()))
theorem le_api_Queue__l1 (s : List Queue) (f f_' : (TupT fam [.st 1] → Option Bool)) (h_f : ∀ a, Lo (f a) (f_' a)) (t : Int) : Lo (c_api_Queue__l1 s f t) (api_Queue__l1 s f_' t) := by
  unfold c_api_Queue__l1 api_Queue__l1
  repeat' (first | exact h_f _ | with_reducible refine lo_bind4 ?_ ?_ ?_ ?_ ?_ | with_reducible refine lo_bind3 ?_ ?_ ?_ ?_ | with_reducible refine lo_bind2 ?_ ?_ ?_ | with_reducible refine lo_bind ?_ ?_ | with_reducible refine lo_cond ?_ ?_ | with_reducible refine lo_iter ?_ _ | (intro _) | with_reducible exact lo_refl _ | exact lo_none | (dsimp only))
def c_api_Queue_ (s : List Queue) (f : (TupT fam [.st 1] → Option Bool)) : Option Int :=
  (itr 4096 (c_api_Queue__l1 s f) 0).bind fun q0 =>
  match q0 with
  | .inl q =>
    some q
  | .inr _ =>
    some (-1)
theorem le_api_Queue_ (s : List Queue) (f f_' : (TupT fam [.st 1] → Option Bool)) (h_f : ∀ a, Lo (f a) (f_' a)) : Lo (c_api_Queue_ s f) (api_Queue_ s f_') := by
  unfold c_api_Queue_ api_Queue_
  repeat' (first | with_reducible refine le_api_Queue__l1 _ _ _ ?_ _ | exact h_f _ | with_reducible refine lo_bind4 ?_ ?_ ?_ ?_ ?_ | with_reducible refine lo_bind3 ?_ ?_ ?_ ?_ | with_reducible refine lo_bind2 ?_ ?_ ?_ | with_reducible refine lo_bind ?_ ?_ | with_reducible refine lo_cond ?_ ?_ | with_reducible refine lo_iter ?_ _ | (intro _) | with_reducible exact lo_refl _ | exact lo_none | (dsimp only))
def c_rule_Find_1 (q : Queue) (p : List UInt8) : Option Bool :=
  some (q.Path == p)
theorem le_rule_Find_1 (q : Queue) (p : List UInt8) : Lo (c_rule_Find_1 q p) (rule_Find_1 q p) := by
  unfold c_rule_Find_1 rule_Find_1
  repeat' (first | with_reducible refine lo_bind4 ?_ ?_ ?_ ?_ ?_ | with_reducible refine lo_bind3 ?_ ?_ ?_ ?_ | with_reducible refine lo_bind2 ?_ ?_ ?_ | with_reducible refine lo_bind ?_ ?_ | with_reducible refine lo_cond ?_ ?_ | with_reducible refine lo_iter ?_ _ | (intro _) | with_reducible exact lo_refl _ | exact lo_none | (dsimp only))
def c_api_Cap__ne (s : List Cap) : Option (List Cap) :=
  bif s.isEmpty then
    none
  else
    (app 16 [] s).bind fun l =>
    some l
theorem le_api_Cap__ne (s : List Cap) : Lo (c_api_Cap__ne s) (api_Cap__ne s) := by
  unfold c_api_Cap__ne api_Cap__ne
  repeat' (first | with_reducible refine lo_bind4 ?_ ?_ ?_ ?_ ?_ | with_reducible refine lo_bind3 ?_ ?_ ?_ ?_ | with_reducible refine lo_bind2 ?_ ?_ ?_ | with_reducible refine lo_bind ?_ ?_ | with_reducible refine lo_cond ?_ ?_ | with_reducible refine lo_iter ?_ _ | (intro _) | with_reducible exact lo_refl _ | exact lo_none | (dsimp only))
def c_api_Cap_ (s : List Cap) : Option (List Cap) := app 16 [] s
theorem le_api_Cap_ (s : List Cap) : Lo (c_api_Cap_ s) (api_Cap_ s) := by
  unfold c_api_Cap_ api_Cap_
  repeat' (first | with_reducible refine lo_bind4 ?_ ?_ ?_ ?_ ?_ | with_reducible refine lo_bind3 ?_ ?_ ?_ ?_ | with_reducible refine lo_bind2 ?_ ?_ ?_ | with_reducible refine lo_bind ?_ ?_ | with_reducible refine lo_cond ?_ ?_ | with_reducible refine lo_iter ?_ _ | (intro _) | with_reducible exact lo_refl _ | exact lo_none | (dsimp only))
def c_rule_Find (c : Conf) (path : List UInt8) : Option (Queue × Bool) :=
  (c_api_Queue_ c.Queues (fun a' => c_rule_Find_1 a'.1 path)).bind fun i =>
  bif decide (i < 0) then
    some ((⟨[], [], 0⟩ : Queue), false)
  else
    (idx c.Queues i).bind fun x =>
    (c_api_Cap_ x.Caps).bind fun x1 =>
    some ((⟨x.Path, x1, x.User⟩ : Queue), true)
theorem le_rule_Find (c : Conf) (path : List UInt8) : Lo (c_rule_Find c path) (rule_Find c path) := by
  unfold c_rule_Find rule_Find
  repeat' (first | with_reducible refine le_api_Queue_ _ _ _ ?_ | with_reducible exact le_rule_Find_1 _ _ | with_reducible exact le_api_Cap_ _ | with_reducible refine lo_bind4 ?_ ?_ ?_ ?_ ?_ | with_reducible refine lo_bind3 ?_ ?_ ?_ ?_ | with_reducible refine lo_bind2 ?_ ?_ ?_ | with_reducible refine lo_bind ?_ ?_ | with_reducible refine lo_cond ?_ ?_ | with_reducible refine lo_iter ?_ _ | (intro _) | with_reducible exact lo_refl _ | exact lo_none | (dsimp only))
def c_share_sum_l1 (l : List Vec) (t : Vec × Int) : Option ((Vec × Int) ⊕ Vec) :=
  bif decide (t.2 < (l.length : Int)) then
    (idx l t.2).bind fun x =>
    (c_rvec_Add t.1 x).bind fun x1 =>
    some (.inl (x1.1, w64 (t.2 + 1)))
  else
    some (.inr t.1)
theorem le_share_sum_l1 (l : List Vec) (t : Vec × Int) : Lo (c_share_sum_l1 l t) (share_sum_l1 l t) := by
  unfold c_share_sum_l1 share_sum_l1
  repeat' (first | with_reducible exact le_rvec_Add _ _ | with_reducible refine lo_bind4 ?_ ?_ ?_ ?_ ?_ | with_reducible refine lo_bind3 ?_ ?_ ?_ ?_ | with_reducible refine lo_bind2 ?_ ?_ ?_ | with_reducible refine lo_bind ?_ ?_ | with_reducible refine lo_cond ?_ ?_ | with_reducible refine lo_iter ?_ _ | (intro _) | with_reducible exact lo_refl _ | exact lo_none | (dsimp only))
def c_share_sum (l : List Vec) : Option Vec :=
  (itr 4096 (c_share_sum_l1 l) ((⟨0, 0⟩ : Vec), 0)).bind fun out =>
  some out
theorem le_share_sum (l : List Vec) : Lo (c_share_sum l) (share_sum l) := by
  unfold c_share_sum share_sum
  repeat' (first | with_reducible exact le_share_sum_l1 _ _ | with_reducible refine lo_bind4 ?_ ?_ ?_ ?_ ?_ | with_reducible refine lo_bind3 ?_ ?_ ?_ ?_ | with_reducible refine lo_bind2 ?_ ?_ ?_ | with_reducible refine lo_bind ?_ ?_ | with_reducible refine lo_cond ?_ ?_ | with_reducible refine lo_iter ?_ _ | (intro _) | with_reducible exact lo_refl _ | exact lo_none | (dsimp only))
def c_share_Total_l1 (s : State) (label : Int) (t : List Vec × Int) : Option ((List Vec × Int) ⊕ List Vec) :=
  bif decide (t.2 < (s.Nodes.length : Int)) then
    (
      (idx s.Nodes t.2).bind fun x =>
      (
        bif x.Up then
          some (x.Label == label)
        else
          some false).bind fun q =>
      bif q then
        (app 16 t.1 [x.Cap]).bind fun l =>
        some l
      else
        some t.1).bind fun l1 =>
    some (.inl (l1, w64 (t.2 + 1)))
  else
    some (.inr t.1)
theorem le_share_Total_l1 (s : State) (label : Int) (t : List Vec × Int) : Lo (c_share_Total_l1 s label t) (share_Total_l1 s label t) := by
  unfold c_share_Total_l1 share_Total_l1
  repeat' (first | with_reducible refine lo_bind4 ?_ ?_ ?_ ?_ ?_ | with_reducible refine lo_bind3 ?_ ?_ ?_ ?_ | with_reducible refine lo_bind2 ?_ ?_ ?_ | with_reducible refine lo_bind ?_ ?_ | with_reducible refine lo_cond ?_ ?_ | with_reducible refine lo_iter ?_ _ | (intro _) | with_reducible exact lo_refl _ | exact lo_none | (dsimp only))
def c_share_Total (s : State) (label : Int) : Option Vec :=
  (itr 4096 (c_share_Total_l1 s label) ([], 0)).bind fun l2 =>
  (c_share_sum l2).bind fun x1 =>
  some x1
theorem le_share_Total (s : State) (label : Int) : Lo (c_share_Total s label) (share_Total s label) := by
  unfold c_share_Total share_Total
  repeat' (first | with_reducible exact le_share_Total_l1 _ _ _ | with_reducible exact le_share_sum _ | with_reducible refine lo_bind4 ?_ ?_ ?_ ?_ ?_ | with_reducible refine lo_bind3 ?_ ?_ ?_ ?_ | with_reducible refine lo_bind2 ?_ ?_ ?_ | with_reducible refine lo_bind ?_ ?_ | with_reducible refine lo_cond ?_ ?_ | with_reducible refine lo_iter ?_ _ | (intro _) | with_reducible exact lo_refl _ | exact lo_none | (dsimp only))
def c_bits_Mul64 (x : Int) (y : Int) : Option (Int × Int) :=
  let w0 := IntKind.u64.wrap ((andK .u64 x 4294967295) * (andK .u64 y 4294967295))
  let t := IntKind.u64.wrap ((IntKind.u64.wrap ((shrK .u64 x 32) * (andK .u64 y 4294967295))) + (shrK .u64 w0 32))
  let w1 := IntKind.u64.wrap ((andK .u64 t 4294967295) + (IntKind.u64.wrap ((andK .u64 x 4294967295) * (shrK .u64 y 32))))
  let hi := IntKind.u64.wrap ((IntKind.u64.wrap ((IntKind.u64.wrap ((shrK .u64 x 32) * (shrK .u64 y 32))) + (shrK .u64 t 32))) + (shrK .u64 w1 32))
  some (hi, IntKind.u64.wrap (x * y))
theorem le_bits_Mul64 (x : Int) (y : Int) : Lo (c_bits_Mul64 x y) (bits_Mul64 x y) := by
  unfold c_bits_Mul64 bits_Mul64
  repeat' (first | with_reducible refine lo_bind4 ?_ ?_ ?_ ?_ ?_ | with_reducible refine lo_bind3 ?_ ?_ ?_ ?_ | with_reducible refine lo_bind2 ?_ ?_ ?_ | with_reducible refine lo_bind ?_ ?_ | with_reducible refine lo_cond ?_ ?_ | with_reducible refine lo_iter ?_ _ | (intro _) | with_reducible exact lo_refl _ | exact lo_none | (dsimp only))
def c_bits_Len64 (x : Int) : Option Int :=
  (
    bif decide (x ≥ 4294967296) then
      some (shrK .u64 x 32, 32)
    else
      some (x, 0)).bind fun q =>
  (
    bif decide (q.1 ≥ 65536) then
      some (shrK .u64 q.1 16, w64 (q.2 + 16))
    else
      some (q.1, q.2)).bind fun q1 =>
  (
    bif decide (q1.1 ≥ 256) then
      some (shrK .u64 q1.1 8, w64 (q1.2 + 8))
    else
      some (q1.1, q1.2)).bind fun q2 =>
  (idx ([0, 1, 2, 2, 3, 3, 3, 3, 4, 4, 4, 4, 4, 4, 4, 4, 5, 5, 5, 5, 5, 5, 5, 5, 5, 5, 5, 5, 5, 5, 5, 5, 6, 6, 6, 6, 6, 6, 6, 6, 6, 6, 6, 6, 6, 6, 6, 6, 6, 6, 6, 6, 6, 6, 6, 6, 6, 6, 6, 6, 6, 6, 6, 6, 7, 7, 7, 7, 7, 7, 7, 7, 7, 7, 7, 7, 7, 7, 7, 7, 7, 7, 7, 7, 7, 7, 7, 7, 7, 7, 7, 7, 7, 7, 7, 7, 7, 7, 7, 7, 7, 7, 7, 7, 7, 7, 7, 7, 7, 7, 7, 7, 7, 7, 7, 7, 7, 7, 7, 7, 7, 7, 7, 7, 7, 7, 7, 7, 8, 8, 8, 8, 8, 8, 8, 8, 8, 8, 8, 8, 8, 8, 8, 8, 8, 8, 8, 8, 8, 8, 8, 8, 8, 8, 8, 8, 8, 8, 8, 8, 8, 8, 8, 8, 8, 8, 8, 8, 8, 8, 8, 8, 8, 8, 8, 8, 8, 8, 8, 8, 8, 8, 8, 8, 8, 8, 8, 8, 8, 8, 8, 8, 8, 8, 8, 8, 8, 8, 8, 8, 8, 8, 8, 8, 8, 8, 8, 8, 8, 8, 8, 8, 8, 8, 8, 8, 8, 8, 8, 8, 8, 8, 8, 8, 8, 8, 8, 8, 8, 8, 8, 8, 8, 8, 8, 8, 8, 8, 8, 8, 8, 8, 8, 8, 8, 8, 8, 8, 8, 8, 8, 8, 8, 8, 8, 8] : List UInt8) (IntKind.u8.wrap q2.1)).bind fun ch =>
  let n := w64 (q2.2 + (w64 (ch.toNat : Int)))
  some n
theorem le_bits_Len64 (x : Int) : Lo (c_bits_Len64 x) (bits_Len64 x) := by
  unfold c_bits_Len64 bits_Len64
  repeat' (first | with_reducible refine lo_bind4 ?_ ?_ ?_ ?_ ?_ | with_reducible refine lo_bind3 ?_ ?_ ?_ ?_ | with_reducible refine lo_bind2 ?_ ?_ ?_ | with_reducible refine lo_bind ?_ ?_ | with_reducible refine lo_cond ?_ ?_ | with_reducible refine lo_iter ?_ _ | (intro _) | with_reducible exact lo_refl _ | exact lo_none | (dsimp only))
def c_bits_LeadingZeros64 (x : Int) : Option Int :=
  (c_bits_Len64 x).bind fun x1 =>
  some (w64 (64 - x1))
theorem le_bits_LeadingZeros64 (x : Int) : Lo (c_bits_LeadingZeros64 x) (bits_LeadingZeros64 x) := by
  unfold c_bits_LeadingZeros64 bits_LeadingZeros64
  repeat' (first | with_reducible exact le_bits_Len64 _ | with_reducible refine lo_bind4 ?_ ?_ ?_ ?_ ?_ | with_reducible refine lo_bind3 ?_ ?_ ?_ ?_ | with_reducible refine lo_bind2 ?_ ?_ ?_ | with_reducible refine lo_bind ?_ ?_ | with_reducible refine lo_cond ?_ ?_ | with_reducible refine lo_iter ?_ _ | (intro _) | with_reducible exact lo_refl _ | exact lo_none | (dsimp only))
def c_bits_Div64_l2 (yn1 : Int) (yn0 : Int) (un0 : Int) (t1 : Int × Int) : Option ((Int × Int) ⊕ Int) :=
  (
    bif decide (t1.2 ≥ 4294967296) then
      some true
    else
      some (decide ((IntKind.u64.wrap (t1.2 * yn0)) > (IntKind.u64.wrap ((IntKind.u64.wrap (4294967296 * t1.1)) + un0))))).bind fun q2 =>
  bif q2 then
    bif decide ((IntKind.u64.wrap (t1.1 + yn1)) ≥ 4294967296) then
      some (.inr (IntKind.u64.wrap (t1.2 - 1)))
    else
      some (.inl (IntKind.u64.wrap (t1.1 + yn1), IntKind.u64.wrap (t1.2 - 1)))
  else
    some (.inr t1.2)
theorem le_bits_Div64_l2 (yn1 : Int) (yn0 : Int) (un0 : Int) (t1 : Int × Int) : Lo (c_bits_Div64_l2 yn1 yn0 un0 t1) (bits_Div64_l2 yn1 yn0 un0 t1) := by
  unfold c_bits_Div64_l2 bits_Div64_l2
  repeat' (first | with_reducible refine lo_bind4 ?_ ?_ ?_ ?_ ?_ | with_reducible refine lo_bind3 ?_ ?_ ?_ ?_ | with_reducible refine lo_bind2 ?_ ?_ ?_ | with_reducible refine lo_bind ?_ ?_ | with_reducible refine lo_cond ?_ ?_ | with_reducible refine lo_iter ?_ _ | (intro _) | with_reducible exact lo_refl _ | exact lo_none | (dsimp only))
def c_bits_Div64_l1 (yn1 : Int) (yn0 : Int) (un1 : Int) (t : Int × Int) : Option ((Int × Int) ⊕ Int) :=
  (
    bif decide (t.1 ≥ 4294967296) then
      some true
    else
      some (decide ((IntKind.u64.wrap (t.1 * yn0)) > (IntKind.u64.wrap ((IntKind.u64.wrap (4294967296 * t.2)) + un1))))).bind fun q =>
  bif q then
    bif decide ((IntKind.u64.wrap (t.2 + yn1)) ≥ 4294967296) then
      some (.inr (IntKind.u64.wrap (t.1 - 1)))
    else
      some (.inl (IntKind.u64.wrap (t.1 - 1), IntKind.u64.wrap (t.2 + yn1)))
  else
    some (.inr t.1)
theorem le_bits_Div64_l1 (yn1 : Int) (yn0 : Int) (un1 : Int) (t : Int × Int) : Lo (c_bits_Div64_l1 yn1 yn0 un1 t) (bits_Div64_l1 yn1 yn0 un1 t) := by
  unfold c_bits_Div64_l1 bits_Div64_l1
  repeat' (first | with_reducible refine lo_bind4 ?_ ?_ ?_ ?_ ?_ | with_reducible refine lo_bind3 ?_ ?_ ?_ ?_ | with_reducible refine lo_bind2 ?_ ?_ ?_ | with_reducible refine lo_bind ?_ ?_ | with_reducible refine lo_cond ?_ ?_ | with_reducible refine lo_iter ?_ _ | (intro _) | with_reducible exact lo_refl _ | exact lo_none | (dsimp only))
def c_bits_Div64 (hi : Int) (lo : Int) (y : Int) : Option (Int × Int) :=
  bif y == 0 then
    none
  else
    bif decide (y ≤ hi) then
      none
    else
      bif hi == 0 then
        (nz y).bind fun _ =>
        (nz y).bind fun _ =>
        some (IntKind.u64.wrap (Int.tdiv lo y), Int.tmod lo y)
      else
        (c_bits_LeadingZeros64 y).bind fun x =>
        (nn (IntKind.u64.wrap x)).bind fun _ =>
        let yn1 := shrK .u64 (shlK .u64 y (IntKind.u64.wrap x)) 32
        let yn0 := andK .u64 (shlK .u64 y (IntKind.u64.wrap x)) 4294967295
        (nn (IntKind.u64.wrap x)).bind fun _ =>
        (nn (IntKind.u64.wrap (64 - (IntKind.u64.wrap x)))).bind fun _ =>
        let un32 := orK .u64 (shlK .u64 hi (IntKind.u64.wrap x)) (shrK .u64 lo (IntKind.u64.wrap (64 - (IntKind.u64.wrap x))))
        (nn (IntKind.u64.wrap x)).bind fun _ =>
        let un1 := shrK .u64 (shlK .u64 lo (IntKind.u64.wrap x)) 32
        let un0 := andK .u64 (shlK .u64 lo (IntKind.u64.wrap x)) 4294967295
        (nz yn1).bind fun _ =>
        let rhat := IntKind.u64.wrap (un32 - (IntKind.u64.wrap ((IntKind.u64.wrap (Int.tdiv un32 yn1)) * yn1)))
        (itr 4096 (c_bits_Div64_l1 yn1 yn0 un1) (IntKind.u64.wrap (Int.tdiv un32 yn1), rhat)).bind fun q1 =>
        let un21 := IntKind.u64.wrap ((IntKind.u64.wrap ((IntKind.u64.wrap (un32 * 4294967296)) + un1)) - (IntKind.u64.wrap (q1 * (shlK .u64 y (IntKind.u64.wrap x)))))
        (nz yn1).bind fun _ =>
        let rhat1 := IntKind.u64.wrap (un21 - (IntKind.u64.wrap ((IntKind.u64.wrap (Int.tdiv un21 yn1)) * yn1)))
        (itr 4096 (c_bits_Div64_l2 yn1 yn0 un0) (rhat1, IntKind.u64.wrap (Int.tdiv un21 yn1))).bind fun q0 =>
        (nn (IntKind.u64.wrap x)).bind fun _ =>
        let quo := IntKind.u64.wrap ((IntKind.u64.wrap (q1 * 4294967296)) + q0)
        let rem := shrK .u64 (IntKind.u64.wrap ((IntKind.u64.wrap ((IntKind.u64.wrap (un21 * 4294967296)) + un0)) - (IntKind.u64.wrap (q0 * (shlK .u64 y (IntKind.u64.wrap x)))))) (IntKind.u64.wrap x)
        some (quo, rem)
theorem le_bits_Div64 (hi : Int) (lo : Int) (y : Int) : Lo (c_bits_Div64 hi lo y) (bits_Div64 hi lo y) := by
  unfold c_bits_Div64 bits_Div64
  repeat' (first | with_reducible exact le_bits_LeadingZeros64 _ | with_reducible exact le_bits_Div64_l1 _ _ _ _ | with_reducible exact le_bits_Div64_l2 _ _ _ _ | with_reducible refine lo_bind4 ?_ ?_ ?_ ?_ ?_ | with_reducible refine lo_bind3 ?_ ?_ ?_ ?_ | with_reducible refine lo_bind2 ?_ ?_ ?_ | with_reducible refine lo_bind ?_ ?_ | with_reducible refine lo_cond ?_ ?_ | with_reducible refine lo_iter ?_ _ | (intro _) | with_reducible exact lo_refl _ | exact lo_none | (dsimp only))
def c_rvec_part (n : Int) (bp : Int) : Option Int :=
  (c_bits_Mul64 (IntKind.u64.wrap n) (IntKind.u64.wrap bp)).bind fun x =>
  (c_bits_Div64 x.1 x.2 10000).bind fun x1 =>
  some (w64 x1.1)
theorem le_rvec_part (n : Int) (bp : Int) : Lo (c_rvec_part n bp) (rvec_part n bp) := by
  unfold c_rvec_part rvec_part
  repeat' (first | with_reducible exact le_bits_Mul64 _ _ | with_reducible exact le_bits_Div64 _ _ _ | with_reducible refine lo_bind4 ?_ ?_ ?_ ?_ ?_ | with_reducible refine lo_bind3 ?_ ?_ ?_ ?_ | with_reducible refine lo_bind2 ?_ ?_ ?_ | with_reducible refine lo_bind ?_ ?_ | with_reducible refine lo_cond ?_ ?_ | with_reducible refine lo_iter ?_ _ | (intro _) | with_reducible exact lo_refl _ | exact lo_none | (dsimp only))
def c_rvec_Scale (a : Vec) (bp : Int) : Option (Vec × Int) :=
  (
    (c_rvec_vec_good a).bind fun x =>
    bif ! x then
      some true
    else
      bif decide (bp < 0) then
        some true
      else
        some (decide (bp > 1000000))).bind fun q =>
  bif q then
    some ((⟨0, 0⟩ : Vec), 1)
  else
    (c_rvec_part a.Mem bp).bind fun x1 =>
    (c_rvec_part a.Cores bp).bind fun x2 =>
    (c_rvec_over (⟨x1, x2⟩ : Vec)).bind fun x3 =>
    some (x3.1, x3.2)
theorem le_rvec_Scale (a : Vec) (bp : Int) : Lo (c_rvec_Scale a bp) (rvec_Scale a bp) := by
  unfold c_rvec_Scale rvec_Scale
  repeat' (first | with_reducible exact le_rvec_vec_good _ | with_reducible exact le_rvec_part _ _ | with_reducible exact le_rvec_over _ | with_reducible refine lo_bind4 ?_ ?_ ?_ ?_ ?_ | with_reducible refine lo_bind3 ?_ ?_ ?_ ?_ | with_reducible refine lo_bind2 ?_ ?_ ?_ | with_reducible refine lo_bind ?_ ?_ | with_reducible refine lo_cond ?_ ?_ | with_reducible refine lo_iter ?_ _ | (intro _) | with_reducible exact lo_refl _ | exact lo_none | (dsimp only))
def c_share_down_l1 (s : State) (label : Int) (part : (TupT fam [.st 0] → Option Int)) (up : List (List UInt8)) (t : Vec × Vec × Int) : Option ((Vec × Vec × Int) ⊕ (Vec ⊕ (Vec × Vec))) :=
  bif decide (t.2.2 ≥ 0) then
    (inb t.2.2 up.length).bind fun i1 =>
    (up[i1]?).bind fun x2 =>
    (c_rule_Find s.Conf x2).bind fun x3 =>
    (
      bif ! x3.2 then
        some true
      else
        bif decide (label < 0) then
          some true
        else
          some (decide (label ≥ (x3.1.Caps.length : Int)))).bind fun q =>
    bif q then
      some (.inr (.inl (⟨0, 0⟩ : Vec)))
    else
      (inb label x3.1.Caps.length).bind fun i2 =>
      (x3.1.Caps[i2]?).bind fun x4 =>
      (part (x4, ())).bind fun r =>
      (c_rvec_Scale t.2.1 r).bind fun x5 =>
      some (.inl (t.1, x5.1, w64 (t.2.2 - 1)))
  else
    some (.inr (.inr (t.1, t.2.1)))
theorem le_share_down_l1 (s : State) (label : Int) (part part_' : (TupT fam [.st 0] → Option Int)) (h_part : ∀ a, Lo (part a) (part_' a)) (up : List (List UInt8)) (t : Vec × Vec × Int) : Lo (c_share_down_l1 s label part up t) (share_down_l1 s label part_' up t) := by
  unfold c_share_down_l1 share_down_l1
  repeat' (first | with_reducible exact le_rule_Find _ _ | with_reducible exact le_rvec_Scale _ _ | exact h_part _ | with_reducible refine lo_bind4 ?_ ?_ ?_ ?_ ?_ | with_reducible refine lo_bind3 ?_ ?_ ?_ ?_ | with_reducible refine lo_bind2 ?_ ?_ ?_ | with_reducible refine lo_bind ?_ ?_ | with_reducible refine lo_cond ?_ ?_ | with_reducible refine lo_iter ?_ _ | (intro _) | with_reducible exact lo_refl _ | exact lo_none | (dsimp only))
def c_share_down (s : State) (path : List UInt8) (label : Int) (part : (TupT fam [.st 0] → Option Int)) : Option Vec :=
  (c_rule_Up path).bind fun up =>
  (c_rule_Find s.Conf path).bind fun x =>
  bif ! x.2 then
    some (⟨0, 0⟩ : Vec)
  else
    (c_share_Total s label).bind fun x1 =>
    let i := w64 ((up.length : Int) - 2)
    (itr 4096 (c_share_down_l1 s label part up) ((⟨0, 0⟩ : Vec), x1, i)).bind fun q0 =>
    match q0 with
    | .inl q1 =>
      some q1
    | .inr q2 =>
      some q2.2
theorem le_share_down (s : State) (path : List UInt8) (label : Int) (part part_' : (TupT fam [.st 0] → Option Int)) (h_part : ∀ a, Lo (part a) (part_' a)) : Lo (c_share_down s path label part) (share_down s path label part_') := by
  unfold c_share_down share_down
  repeat' (first | with_reducible exact le_rule_Up _ | with_reducible exact le_rule_Find _ _ | with_reducible exact le_share_Total _ _ | with_reducible refine le_share_down_l1 _ _ _ _ ?_ _ _ | exact h_part _ | with_reducible refine lo_bind4 ?_ ?_ ?_ ?_ ?_ | with_reducible refine lo_bind3 ?_ ?_ ?_ ?_ | with_reducible refine lo_bind2 ?_ ?_ ?_ | with_reducible refine lo_bind ?_ ?_ | with_reducible refine lo_cond ?_ ?_ | with_reducible refine lo_iter ?_ _ | (intro _) | with_reducible exact lo_refl _ | exact lo_none | (dsimp only))
def c_share_capacity_least (c : Cap) : Option Int :=
  some c.Least
theorem le_share_capacity_least (c : Cap) : Lo (c_share_capacity_least c) (share_capacity_least c) := by
  unfold c_share_capacity_least share_capacity_least
  repeat' (first | with_reducible refine lo_bind4 ?_ ?_ ?_ ?_ ?_ | with_reducible refine lo_bind3 ?_ ?_ ?_ ?_ | with_reducible refine lo_bind2 ?_ ?_ ?_ | with_reducible refine lo_bind ?_ ?_ | with_reducible refine lo_cond ?_ ?_ | with_reducible refine lo_iter ?_ _ | (intro _) | with_reducible exact lo_refl _ | exact lo_none | (dsimp only))
def c_share_Least (s : State) (path : List UInt8) (label : Int) : Option Vec :=
  (c_share_down s path label (fun a' => c_share_capacity_least a'.1)).bind fun x =>
  some x
theorem le_share_Least (s : State) (path : List UInt8) (label : Int) : Lo (c_share_Least s path label) (share_Least s path label) := by
  unfold c_share_Least share_Least
  repeat' (first | with_reducible refine le_share_down _ _ _ _ _ ?_ | with_reducible exact le_share_capacity_least _ | with_reducible refine lo_bind4 ?_ ?_ ?_ ?_ ?_ | with_reducible refine lo_bind3 ?_ ?_ ?_ ?_ | with_reducible refine lo_bind2 ?_ ?_ ?_ | with_reducible refine lo_bind ?_ ?_ | with_reducible refine lo_cond ?_ ?_ | with_reducible refine lo_iter ?_ _ | (intro _) | with_reducible exact lo_refl _ | exact lo_none | (dsimp only))
def c_order_load_ (s : List Load) (f : (TupT fam [.st 12, .st 12] → Option Int)) : Option (List Load) := sortG (F := fam) (.st 12) f s
theorem le_order_load_ (s : List Load) (f f_' : (TupT fam [.st 12, .st 12] → Option Int)) (h_f : ∀ a, Lo (f a) (f_' a)) : Lo (c_order_load_ s f) (order_load_ s f_') := by
  unfold c_order_load_ order_load_
  repeat' (first | with_reducible refine lo_sortG ?_ _ | exact h_f _ | with_reducible refine lo_bind4 ?_ ?_ ?_ ?_ ?_ | with_reducible refine lo_bind3 ?_ ?_ ?_ ?_ | with_reducible refine lo_bind2 ?_ ?_ ?_ | with_reducible refine lo_bind ?_ ?_ | with_reducible refine lo_cond ?_ ?_ | with_reducible refine lo_iter ?_ _ | (intro _) | with_reducible exact lo_refl _ | exact lo_none | (dsimp only))
def c_cmp_Or_int__l1 (vals : List Int) (t : Int) : Option (Int ⊕ (Int ⊕ Unit)) :=
  bif decide (t < (vals.length : Int)) then
    (idx vals t).bind fun x =>
    bif x != 0 then
      some (.inr (.inl x))
    else
      some (.inl (w64 (t + 1)))
  else
    some (.inr (.inr ()))
theorem le_cmp_Or_int__l1 (vals : List Int) (t : Int) : Lo (c_cmp_Or_int__l1 vals t) (cmp_Or_int__l1 vals t) := by
  unfold c_cmp_Or_int__l1 cmp_Or_int__l1
  repeat' (first | with_reducible refine lo_bind4 ?_ ?_ ?_ ?_ ?_ | with_reducible refine lo_bind3 ?_ ?_ ?_ ?_ | with_reducible refine lo_bind2 ?_ ?_ ?_ | with_reducible refine lo_bind ?_ ?_ | with_reducible refine lo_cond ?_ ?_ | with_reducible refine lo_iter ?_ _ | (intro _) | with_reducible exact lo_refl _ | exact lo_none | (dsimp only))
def c_cmp_Or_int_ (vals : List Int) : Option Int :=
  (itr 4096 (c_cmp_Or_int__l1 vals) 0).bind fun q0 =>
  match q0 with
  | .inl q =>
    some q
  | .inr _ =>
    some 0
theorem le_cmp_Or_int_ (vals : List Int) : Lo (c_cmp_Or_int_ vals) (cmp_Or_int_ vals) := by
  unfold c_cmp_Or_int_ cmp_Or_int_
  repeat' (first | with_reducible exact le_cmp_Or_int__l1 _ _ | with_reducible refine lo_bind4 ?_ ?_ ?_ ?_ ?_ | with_reducible refine lo_bind3 ?_ ?_ ?_ ?_ | with_reducible refine lo_bind2 ?_ ?_ ?_ | with_reducible refine lo_bind ?_ ?_ | with_reducible refine lo_cond ?_ ?_ | with_reducible refine lo_iter ?_ _ | (intro _) | with_reducible exact lo_refl _ | exact lo_none | (dsimp only))
def c_rvec_ratio_compare (r : Ratio) (q : Ratio) : Option Int :=
  (
    bif r.of == 0 then
      some (q.of == 0)
    else
      some false).bind fun q1 =>
  bif q1 then
    some 0
  else
    bif r.of == 0 then
      some 1
    else
      bif q.of == 0 then
        some (-1)
      else
        (c_bits_Mul64 r.n q.of).bind fun x =>
        (c_bits_Mul64 q.n r.of).bind fun x1 =>
        (
          bif decide (x.1 < x1.1) then
            some true
          else
            bif x.1 == x1.1 then
              some (decide (x.2 < x1.2))
            else
              some false).bind fun q2 =>
        bif q2 then
          some (-1)
        else
          (
            bif x.1 == x1.1 then
              some (x.2 == x1.2)
            else
              some false).bind fun q3 =>
          bif q3 then
            some 0
          else
            some 1
theorem le_rvec_ratio_compare (r : Ratio) (q : Ratio) : Lo (c_rvec_ratio_compare r q) (rvec_ratio_compare r q) := by
  unfold c_rvec_ratio_compare rvec_ratio_compare
  repeat' (first | with_reducible exact le_bits_Mul64 _ _ | with_reducible refine lo_bind4 ?_ ?_ ?_ ?_ ?_ | with_reducible refine lo_bind3 ?_ ?_ ?_ ?_ | with_reducible refine lo_bind2 ?_ ?_ ?_ | with_reducible refine lo_bind ?_ ?_ | with_reducible refine lo_cond ?_ ?_ | with_reducible refine lo_iter ?_ _ | (intro _) | with_reducible exact lo_refl _ | exact lo_none | (dsimp only))
def c_rvec_of (a : Vec) (p : Vec) (get : (TupT fam [.st 3] → Option Int)) : Option Ratio :=
  (get (a, ())).bind fun r =>
  (get (p, ())).bind fun r1 =>
  bif r == 0 then
    some (⟨0, 1⟩ : Ratio)
  else
    some (⟨IntKind.u64.wrap r, IntKind.u64.wrap r1⟩ : Ratio)
theorem le_rvec_of (a : Vec) (p : Vec) (get get_' : (TupT fam [.st 3] → Option Int)) (h_get : ∀ a, Lo (get a) (get_' a)) : Lo (c_rvec_of a p get) (rvec_of a p get_') := by
  unfold c_rvec_of rvec_of
  repeat' (first | exact h_get _ | with_reducible refine lo_bind4 ?_ ?_ ?_ ?_ ?_ | with_reducible refine lo_bind3 ?_ ?_ ?_ ?_ | with_reducible refine lo_bind2 ?_ ?_ ?_ | with_reducible refine lo_bind ?_ ?_ | with_reducible refine lo_cond ?_ ?_ | with_reducible refine lo_iter ?_ _ | (intro _) | with_reducible exact lo_refl _ | exact lo_none | (dsimp only))
def c_rvec_vec_mem (v : Vec) : Option Int :=
  some v.Mem
theorem le_rvec_vec_mem (v : Vec) : Lo (c_rvec_vec_mem v) (rvec_vec_mem v) := by
  unfold c_rvec_vec_mem rvec_vec_mem
  repeat' (first | with_reducible refine lo_bind4 ?_ ?_ ?_ ?_ ?_ | with_reducible refine lo_bind3 ?_ ?_ ?_ ?_ | with_reducible refine lo_bind2 ?_ ?_ ?_ | with_reducible refine lo_bind ?_ ?_ | with_reducible refine lo_cond ?_ ?_ | with_reducible refine lo_iter ?_ _ | (intro _) | with_reducible exact lo_refl _ | exact lo_none | (dsimp only))
def c_rvec_vec_cores (v : Vec) : Option Int :=
  some v.Cores
theorem le_rvec_vec_cores (v : Vec) : Lo (c_rvec_vec_cores v) (rvec_vec_cores v) := by
  unfold c_rvec_vec_cores rvec_vec_cores
  repeat' (first | with_reducible refine lo_bind4 ?_ ?_ ?_ ?_ ?_ | with_reducible refine lo_bind3 ?_ ?_ ?_ ?_ | with_reducible refine lo_bind2 ?_ ?_ ?_ | with_reducible refine lo_bind ?_ ?_ | with_reducible refine lo_cond ?_ ?_ | with_reducible refine lo_iter ?_ _ | (intro _) | with_reducible exact lo_refl _ | exact lo_none | (dsimp only))
def c_rvec_load (a : Vec) (p : Vec) : Option Ratio :=
  (c_rvec_of a p (fun a' => c_rvec_vec_mem a'.1)).bind fun x =>
  (c_rvec_of a p (fun a' => c_rvec_vec_cores a'.1)).bind fun x1 =>
  (c_rvec_ratio_compare x x1).bind fun x2 =>
  bif decide (x2 < 0) then
    some x1
  else
    some x
theorem le_rvec_load (a : Vec) (p : Vec) : Lo (c_rvec_load a p) (rvec_load a p) := by
  unfold c_rvec_load rvec_load
  repeat' (first | with_reducible refine le_rvec_of _ _ _ _ ?_ | with_reducible exact le_rvec_vec_mem _ | with_reducible exact le_rvec_vec_cores _ | with_reducible exact le_rvec_ratio_compare _ _ | with_reducible refine lo_bind4 ?_ ?_ ?_ ?_ ?_ | with_reducible refine lo_bind3 ?_ ?_ ?_ ?_ | with_reducible refine lo_bind2 ?_ ?_ ?_ | with_reducible refine lo_bind ?_ ?_ | with_reducible refine lo_cond ?_ ?_ | with_reducible refine lo_iter ?_ _ | (intro _) | with_reducible exact lo_refl _ | exact lo_none | (dsimp only))
def c_rvec_Order (a : Vec) (p : Vec) (b : Vec) (q : Vec) : Option Int :=
  (
    (c_rvec_vec_good a).bind fun x =>
    bif ! x then
      some true
    else
      (c_rvec_vec_good p).bind fun x1 =>
      bif ! x1 then
        some true
      else
        (c_rvec_vec_good b).bind fun x2 =>
        bif ! x2 then
          some true
        else
          (c_rvec_vec_good q).bind fun x3 =>
          some (! x3)).bind fun q1 =>
  bif q1 then
    some 0
  else
    (c_rvec_load a p).bind fun x4 =>
    (c_rvec_load b q).bind fun x5 =>
    (c_rvec_ratio_compare x4 x5).bind fun x6 =>
    some x6
theorem le_rvec_Order (a : Vec) (p : Vec) (b : Vec) (q : Vec) : Lo (c_rvec_Order a p b q) (rvec_Order a p b q) := by
  unfold c_rvec_Order rvec_Order
  repeat' (first | with_reducible exact le_rvec_vec_good _ | with_reducible exact le_rvec_load _ _ | with_reducible exact le_rvec_ratio_compare _ _ | with_reducible refine lo_bind4 ?_ ?_ ?_ ?_ ?_ | with_reducible refine lo_bind3 ?_ ?_ ?_ ?_ | with_reducible refine lo_bind2 ?_ ?_ ?_ | with_reducible refine lo_bind ?_ ?_ | with_reducible refine lo_cond ?_ ?_ | with_reducible refine lo_iter ?_ _ | (intro _) | with_reducible exact lo_refl _ | exact lo_none | (dsimp only))
def c_cmp_isNaN_string_ (x : List UInt8) : Option Bool :=
  some (! (x == x))
theorem le_cmp_isNaN_string_ (x : List UInt8) : Lo (c_cmp_isNaN_string_ x) (cmp_isNaN_string_ x) := by
  unfold c_cmp_isNaN_string_ cmp_isNaN_string_
  repeat' (first | with_reducible refine lo_bind4 ?_ ?_ ?_ ?_ ?_ | with_reducible refine lo_bind3 ?_ ?_ ?_ ?_ | with_reducible refine lo_bind2 ?_ ?_ ?_ | with_reducible refine lo_bind ?_ ?_ | with_reducible refine lo_cond ?_ ?_ | with_reducible refine lo_iter ?_ _ | (intro _) | with_reducible exact lo_refl _ | exact lo_none | (dsimp only))
def c_cmp_Compare_string_ (x : List UInt8) (y : List UInt8) : Option Int :=
  (c_cmp_isNaN_string_ x).bind fun xNaN =>
  (c_cmp_isNaN_string_ y).bind fun yNaN =>
  bif xNaN then
    bif yNaN then
      some 0
    else
      some (-1)
  else
    bif yNaN then
      some 1
    else
      bif Op.bytesLess x y then
        some (-1)
      else
        bif ! (strLe x y) then
          some 1
        else
          some 0
theorem le_cmp_Compare_string_ (x : List UInt8) (y : List UInt8) : Lo (c_cmp_Compare_string_ x y) (cmp_Compare_string_ x y) := by
  unfold c_cmp_Compare_string_ cmp_Compare_string_
  repeat' (first | with_reducible exact le_cmp_isNaN_string_ _ | with_reducible refine lo_bind4 ?_ ?_ ?_ ?_ ?_ | with_reducible refine lo_bind3 ?_ ?_ ?_ ?_ | with_reducible refine lo_bind2 ?_ ?_ ?_ | with_reducible refine lo_bind ?_ ?_ | with_reducible refine lo_cond ?_ ?_ | with_reducible refine lo_iter ?_ _ | (intro _) | with_reducible exact lo_refl _ | exact lo_none | (dsimp only))
def c_order_load_compare (a : Load) (b : Load) : Option Int :=
  (c_rvec_Order a.used a.least b.used b.least).bind fun x =>
  (c_cmp_Compare_string_ a.path b.path).bind fun x1 =>
  (c_cmp_Or_int_ [x, x1]).bind fun x2 =>
  some x2
theorem le_order_load_compare (a : Load) (b : Load) : Lo (c_order_load_compare a b) (order_load_compare a b) := by
  unfold c_order_load_compare order_load_compare
  repeat' (first | with_reducible exact le_rvec_Order _ _ _ _ | with_reducible exact le_cmp_Compare_string_ _ _ | with_reducible exact le_cmp_Or_int_ _ | with_reducible refine lo_bind4 ?_ ?_ ?_ ?_ ?_ | with_reducible refine lo_bind3 ?_ ?_ ?_ ?_ | with_reducible refine lo_bind2 ?_ ?_ ?_ | with_reducible refine lo_bind ?_ ?_ | with_reducible refine lo_cond ?_ ?_ | with_reducible refine lo_iter ?_ _ | (intro _) | with_reducible exact lo_refl _ | exact lo_none | (dsimp only))
def c_order_Kids_l2 (x4 : List Load) (t1 : List (List UInt8) × Int) : Option ((List (List UInt8) × Int) ⊕ List (List UInt8)) :=
  bif decide (t1.2 < (x4.length : Int)) then
    (inb t1.2 x4.length).bind fun i1 =>
    (x4[i1]?).bind fun x5 =>
    (inS t1.2 (t1.1.length : Int) t1.1.length).bind fun p =>
    some (.inl (cpy t1.1 p.1 p.2 [x5.path], w64 (t1.2 + 1)))
  else
    some (.inr t1.1)
theorem le_order_Kids_l2 (x4 : List Load) (t1 : List (List UInt8) × Int) : Lo (c_order_Kids_l2 x4 t1) (order_Kids_l2 x4 t1) := by
  unfold c_order_Kids_l2 order_Kids_l2
  repeat' (first | with_reducible refine lo_bind4 ?_ ?_ ?_ ?_ ?_ | with_reducible refine lo_bind3 ?_ ?_ ?_ ?_ | with_reducible refine lo_bind2 ?_ ?_ ?_ | with_reducible refine lo_bind ?_ ?_ | with_reducible refine lo_cond ?_ ?_ | with_reducible refine lo_iter ?_ _ | (intro _) | with_reducible exact lo_refl _ | exact lo_none | (dsimp only))
def c_order_Kids_l1 (s : State) (label : Int) (x : List (List UInt8)) (t : List Load × Int) : Option ((List Load × Int) ⊕ List Load) :=
  bif decide (t.2 < (x.length : Int)) then
    (inb t.2 x.length).bind fun i =>
    (x[i]?).bind fun x1 =>
    (c_qtree_Used s x1 label).bind fun x2 =>
    (c_share_Least s x1 label).bind fun x3 =>
    (app 48 t.1 [(⟨x1, ⟨x2.Mem, x2.Cores⟩, ⟨x3.Mem, x3.Cores⟩⟩ : Load)]).bind fun l =>
    some (.inl (l, w64 (t.2 + 1)))
  else
    some (.inr t.1)
theorem le_order_Kids_l1 (s : State) (label : Int) (x : List (List UInt8)) (t : List Load × Int) : Lo (c_order_Kids_l1 s label x t) (order_Kids_l1 s label x t) := by
  unfold c_order_Kids_l1 order_Kids_l1
  repeat' (first | with_reducible exact le_qtree_Used _ _ _ | with_reducible exact le_share_Least _ _ _ | with_reducible refine lo_bind4 ?_ ?_ ?_ ?_ ?_ | with_reducible refine lo_bind3 ?_ ?_ ?_ ?_ | with_reducible refine lo_bind2 ?_ ?_ ?_ | with_reducible refine lo_bind ?_ ?_ | with_reducible refine lo_cond ?_ ?_ | with_reducible refine lo_iter ?_ _ | (intro _) | with_reducible exact lo_refl _ | exact lo_none | (dsimp only))
def c_order_Kids (s : State) (path : List UInt8) (label : Int) : Option (List (List UInt8)) :=
  (c_rule_Kids s.Conf path).bind fun x =>
  (itr 4096 (c_order_Kids_l1 s label x) ([], 0)).bind fun l1 =>
  (c_order_load_ l1 (fun a' => c_order_load_compare a'.1 a'.2.1)).bind fun x4 =>
  (mkl 16 (x4.length : Int) (x4.length : Int) []).bind fun l2 =>
  (itr 4096 (c_order_Kids_l2 x4) (l2, 0)).bind fun out =>
  some out
theorem le_order_Kids (s : State) (path : List UInt8) (label : Int) : Lo (c_order_Kids s path label) (order_Kids s path label) := by
  unfold c_order_Kids order_Kids
  repeat' (first | with_reducible exact le_rule_Kids _ _ | with_reducible exact le_order_Kids_l1 _ _ _ _ | with_reducible refine le_order_load_ _ _ _ ?_ | with_reducible exact le_order_load_compare _ _ | with_reducible exact le_order_Kids_l2 _ _ | with_reducible refine lo_bind4 ?_ ?_ ?_ ?_ ?_ | with_reducible refine lo_bind3 ?_ ?_ ?_ ?_ | with_reducible refine lo_bind2 ?_ ?_ ?_ | with_reducible refine lo_bind ?_ ?_ | with_reducible refine lo_cond ?_ ?_ | with_reducible refine lo_iter ?_ _ | (intro _) | with_reducible exact lo_refl _ | exact lo_none | (dsimp only))
def c_order_below_s_l1 (s : State) (label : Int) (deep : Int) (self : State → (List UInt8) → Int → Int → Option (List (List UInt8))) (kids : List (List UInt8)) (t : List (List UInt8) × Int) : Option ((List (List UInt8) × Int) ⊕ List (List UInt8)) :=
  bif decide (t.2 < (kids.length : Int)) then
    (inb t.2 kids.length).bind fun i =>
    (kids[i]?).bind fun x =>
    (self s x label (w64 (deep + 1))).bind fun x1 =>
    (app 16 t.1 x1).bind fun l =>
    some (.inl (l, w64 (t.2 + 1)))
  else
    some (.inr t.1)
theorem le_order_below_s_l1 (s : State) (label : Int) (deep : Int) (self self_' : State → (List UInt8) → Int → Int → Option (List (List UInt8))) (h_self : ∀ (a0 : State) (a1 : (List UInt8)) (a2 : Int) (a3 : Int), Lo (self a0 a1 a2 a3) (self_' a0 a1 a2 a3)) (kids : List (List UInt8)) (t : List (List UInt8) × Int) : Lo (c_order_below_s_l1 s label deep self kids t) (order_below_s_l1 s label deep self_' kids t) := by
  unfold c_order_below_s_l1 order_below_s_l1
  repeat' (first | with_reducible refine h_self _ _ _ _ | with_reducible refine lo_bind4 ?_ ?_ ?_ ?_ ?_ | with_reducible refine lo_bind3 ?_ ?_ ?_ ?_ | with_reducible refine lo_bind2 ?_ ?_ ?_ | with_reducible refine lo_bind ?_ ?_ | with_reducible refine lo_cond ?_ ?_ | with_reducible refine lo_iter ?_ _ | (intro _) | with_reducible exact lo_refl _ | exact lo_none | (dsimp only))
def c_order_below_s (self : State → (List UInt8) → Int → Int → Option (List (List UInt8))) (s : State) (path : List UInt8) (label : Int) (deep : Int) : Option (List (List UInt8)) :=
  (c_order_Kids s path label).bind fun kids =>
  (
    bif (kids.length : Int) == 0 then
      some true
    else
      some (decide (deep > 4))).bind fun q =>
  bif q then
    some [path]
  else
    (itr 4096 (c_order_below_s_l1 s label deep self kids) ([], 0)).bind fun out =>
    some out
theorem le_order_below_s (self self_' : State → (List UInt8) → Int → Int → Option (List (List UInt8))) (h_self : ∀ (a0 : State) (a1 : (List UInt8)) (a2 : Int) (a3 : Int), Lo (self a0 a1 a2 a3) (self_' a0 a1 a2 a3)) (s : State) (path : List UInt8) (label : Int) (deep : Int) : Lo (c_order_below_s self s path label deep) (order_below_s self_' s path label deep) := by
  unfold c_order_below_s order_below_s
  repeat' (first | with_reducible exact le_order_Kids _ _ _ | with_reducible refine le_order_below_s_l1 _ _ _ _ _ ?_ _ _ | with_reducible refine h_self _ _ _ _ | with_reducible refine lo_bind4 ?_ ?_ ?_ ?_ ?_ | with_reducible refine lo_bind3 ?_ ?_ ?_ ?_ | with_reducible refine lo_bind2 ?_ ?_ ?_ | with_reducible refine lo_bind ?_ ?_ | with_reducible refine lo_cond ?_ ?_ | with_reducible refine lo_iter ?_ _ | (intro _) | with_reducible exact lo_refl _ | exact lo_none | (dsimp only))
def c_order_below_r : Nat → State → (List UInt8) → Int → Int → Option (List (List UInt8))
  | 0 => fun _ _ _ _ => none
  | n + 1 => c_order_below_s (c_order_below_r n)
theorem le_order_below_r : ∀ (n : Nat), ∀ (a0 : State) (a1 : List UInt8) (a2 : Int) (a3 : Int), Lo (c_order_below_r n a0 a1 a2 a3) (order_below_r n a0 a1 a2 a3)
  | 0 => fun _ _ _ _ => lo_none
  | n + 1 => fun a0 a1 a2 a3 => le_order_below_s (c_order_below_r n) (order_below_r n) (le_order_below_r n) a0 a1 a2 a3
def c_order_below (a0 : State) (a1 : List UInt8) (a2 : Int) (a3 : Int) : Option (List (List UInt8)) := c_order_below_r 64 a0 a1 a2 a3
theorem le_order_below (a0 : State) (a1 : List UInt8) (a2 : Int) (a3 : Int) : Lo (c_order_below a0 a1 a2 a3) (order_below a0 a1 a2 a3) := by
  unfold c_order_below order_below
  repeat' (first | with_reducible refine le_order_below_r _ _ _ _ _ | with_reducible refine lo_bind4 ?_ ?_ ?_ ?_ ?_ | with_reducible refine lo_bind3 ?_ ?_ ?_ ?_ | with_reducible refine lo_bind2 ?_ ?_ ?_ | with_reducible refine lo_bind ?_ ?_ | with_reducible refine lo_cond ?_ ?_ | with_reducible refine lo_iter ?_ _ | (intro _) | with_reducible exact lo_refl _ | exact lo_none | (dsimp only))
def c_order_Leaves (s : State) (label : Int) : Option (List (List UInt8)) :=
  (c_order_below s ([114, 111, 111, 116] : List UInt8) label 1).bind fun x =>
  some x
theorem le_order_Leaves (s : State) (label : Int) : Lo (c_order_Leaves s label) (order_Leaves s label) := by
  unfold c_order_Leaves order_Leaves
  repeat' (first | with_reducible exact le_order_below _ _ _ _ | with_reducible refine lo_bind4 ?_ ?_ ?_ ?_ ?_ | with_reducible refine lo_bind3 ?_ ?_ ?_ ?_ | with_reducible refine lo_bind2 ?_ ?_ ?_ | with_reducible refine lo_bind ?_ ?_ | with_reducible refine lo_cond ?_ ?_ | with_reducible refine lo_iter ?_ _ | (intro _) | with_reducible exact lo_refl _ | exact lo_none | (dsimp only))
def c_dispatchlaw12_known : Option Bool :=
  (c_dispatchref19_New).bind fun x =>
  (c_order_Leaves x 0).bind fun l =>
  bif (l.length : Int) == 1 then
    (inb 0 l.length).bind fun i =>
    (l[i]?).bind fun x1 =>
    bif x1 == ([114, 111, 111, 116] : List UInt8) then
      (c_dispatchref19_New).bind fun x2 =>
      (c_order_Kids x2 ([114, 111, 111, 116] : List UInt8) 0).bind fun x3 =>
      some ((x3.length : Int) == 0)
    else
      some false
  else
    some false
theorem le_dispatchlaw12_known : Lo (c_dispatchlaw12_known) (dispatchlaw12_known) := by
  unfold c_dispatchlaw12_known dispatchlaw12_known
  repeat' (first | with_reducible exact le_dispatchref19_New  | with_reducible exact le_order_Leaves _ _ | with_reducible exact le_order_Kids _ _ _ | with_reducible refine lo_bind4 ?_ ?_ ?_ ?_ ?_ | with_reducible refine lo_bind3 ?_ ?_ ?_ ?_ | with_reducible refine lo_bind2 ?_ ?_ ?_ | with_reducible refine lo_bind ?_ ?_ | with_reducible refine lo_cond ?_ ?_ | with_reducible refine lo_iter ?_ _ | (intro _) | with_reducible exact lo_refl _ | exact lo_none | (dsimp only))
def c_dispatchlaw12_within (at_ : Int) (n : Int) : Option Int :=
  (nz n).bind fun _ =>
  (
    bif decide ((Int.tmod at_ n) < 0) then
      let k := w64 ((Int.tmod at_ n) + n)
      some k
    else
      some (Int.tmod at_ n)).bind fun k1 =>
  some k1
theorem le_dispatchlaw12_within (at_ : Int) (n : Int) : Lo (c_dispatchlaw12_within at_ n) (dispatchlaw12_within at_ n) := by
  unfold c_dispatchlaw12_within dispatchlaw12_within
  repeat' (first | with_reducible refine lo_bind4 ?_ ?_ ?_ ?_ ?_ | with_reducible refine lo_bind3 ?_ ?_ ?_ ?_ | with_reducible refine lo_bind2 ?_ ?_ ?_ | with_reducible refine lo_bind ?_ ?_ | with_reducible refine lo_cond ?_ ?_ | with_reducible refine lo_iter ?_ _ | (intro _) | with_reducible exact lo_refl _ | exact lo_none | (dsimp only))
def c_dispatchref6_Name_l1 (s : List UInt8) (i : Int) : Option (Int ⊕ (Bool ⊕ Unit)) :=
  bif decide (i < (s.length : Int)) then
    (idx s i).bind fun ch =>
    (
      bif decide ((ch.toNat : Int) < 97) then
        bif decide ((ch.toNat : Int) < 48) then
          some ((ch.toNat : Int) != 45)
        else
          bif decide ((ch.toNat : Int) > 57) then
            some ((ch.toNat : Int) != 45)
          else
            some false
      else
        bif decide ((ch.toNat : Int) > 122) then
          bif decide ((ch.toNat : Int) < 48) then
            some ((ch.toNat : Int) != 45)
          else
            bif decide ((ch.toNat : Int) > 57) then
              some ((ch.toNat : Int) != 45)
            else
              some false
        else
          some false).bind fun q1 =>
    bif q1 then
      some (.inr (.inl false))
    else
      some (.inl (w64 (i + 1)))
  else
    some (.inr (.inr ()))
theorem le_dispatchref6_Name_l1 (s : List UInt8) (i : Int) : Lo (c_dispatchref6_Name_l1 s i) (dispatchref6_Name_l1 s i) := by
  unfold c_dispatchref6_Name_l1 dispatchref6_Name_l1
  repeat' (first | with_reducible refine lo_bind4 ?_ ?_ ?_ ?_ ?_ | with_reducible refine lo_bind3 ?_ ?_ ?_ ?_ | with_reducible refine lo_bind2 ?_ ?_ ?_ | with_reducible refine lo_bind ?_ ?_ | with_reducible refine lo_cond ?_ ?_ | with_reducible refine lo_iter ?_ _ | (intro _) | with_reducible exact lo_refl _ | exact lo_none | (dsimp only))
def c_dispatchref6_Name (s : List UInt8) : Option Bool :=
  (
    bif decide ((s.length : Int) < 1) then
      some true
    else
      some (decide ((s.length : Int) > 12))).bind fun q =>
  bif q then
    some false
  else
    (itr 4096 (c_dispatchref6_Name_l1 s) 0).bind fun q0 =>
    match q0 with
    | .inl q2 =>
      some q2
    | .inr _ =>
      some true
theorem le_dispatchref6_Name (s : List UInt8) : Lo (c_dispatchref6_Name s) (dispatchref6_Name s) := by
  unfold c_dispatchref6_Name dispatchref6_Name
  repeat' (first | with_reducible exact le_dispatchref6_Name_l1 _ _ | with_reducible refine lo_bind4 ?_ ?_ ?_ ?_ ?_ | with_reducible refine lo_bind3 ?_ ?_ ?_ ?_ | with_reducible refine lo_bind2 ?_ ?_ ?_ | with_reducible refine lo_bind ?_ ?_ | with_reducible refine lo_cond ?_ ?_ | with_reducible refine lo_iter ?_ _ | (intro _) | with_reducible exact lo_refl _ | exact lo_none | (dsimp only))
def c_dispatchref6_labels_l3 (c : Conf) (i1 : Int) (k : Int) : Option (Int ⊕ (Int ⊕ Unit)) :=
  bif decide (k < i1) then
    (idx c.Labels i1).bind fun x3 =>
    (idx c.Labels k).bind fun x4 =>
    bif x3 == x4 then
      some (.inr (.inl 7))
    else
      some (.inl (w64 (k + 1)))
  else
    some (.inr (.inr ()))
theorem le_dispatchref6_labels_l3 (c : Conf) (i1 : Int) (k : Int) : Lo (c_dispatchref6_labels_l3 c i1 k) (dispatchref6_labels_l3 c i1 k) := by
  unfold c_dispatchref6_labels_l3 dispatchref6_labels_l3
  repeat' (first | with_reducible refine lo_bind4 ?_ ?_ ?_ ?_ ?_ | with_reducible refine lo_bind3 ?_ ?_ ?_ ?_ | with_reducible refine lo_bind2 ?_ ?_ ?_ | with_reducible refine lo_bind ?_ ?_ | with_reducible refine lo_cond ?_ ?_ | with_reducible refine lo_iter ?_ _ | (intro _) | with_reducible exact lo_refl _ | exact lo_none | (dsimp only))
def c_dispatchref6_labels_l2 (c : Conf) (i1 : Int) : Option (Int ⊕ (Int ⊕ Unit)) :=
  bif decide (i1 < (c.Labels.length : Int)) then
    (itr 4096 (c_dispatchref6_labels_l3 c i1) 1).bind fun q0 =>
    match q0 with
    | .inl q2 =>
      some (.inr (.inl q2))
    | .inr _ =>
      some (.inl (w64 (i1 + 1)))
  else
    some (.inr (.inr ()))
theorem le_dispatchref6_labels_l2 (c : Conf) (i1 : Int) : Lo (c_dispatchref6_labels_l2 c i1) (dispatchref6_labels_l2 c i1) := by
  unfold c_dispatchref6_labels_l2 dispatchref6_labels_l2
  repeat' (first | with_reducible exact le_dispatchref6_labels_l3 _ _ _ | with_reducible refine lo_bind4 ?_ ?_ ?_ ?_ ?_ | with_reducible refine lo_bind3 ?_ ?_ ?_ ?_ | with_reducible refine lo_bind2 ?_ ?_ ?_ | with_reducible refine lo_bind ?_ ?_ | with_reducible refine lo_cond ?_ ?_ | with_reducible refine lo_iter ?_ _ | (intro _) | with_reducible exact lo_refl _ | exact lo_none | (dsimp only))
def c_dispatchref6_labels_l1 (c : Conf) (i : Int) : Option (Int ⊕ (Int ⊕ Unit)) :=
  bif decide (i < (c.Labels.length : Int)) then
    (idx c.Labels i).bind fun x1 =>
    (c_dispatchref6_Name x1).bind fun x2 =>
    bif ! x2 then
      some (.inr (.inl 12))
    else
      some (.inl (w64 (i + 1)))
  else
    some (.inr (.inr ()))
theorem le_dispatchref6_labels_l1 (c : Conf) (i : Int) : Lo (c_dispatchref6_labels_l1 c i) (dispatchref6_labels_l1 c i) := by
  unfold c_dispatchref6_labels_l1 dispatchref6_labels_l1
  repeat' (first | with_reducible exact le_dispatchref6_Name _ | with_reducible refine lo_bind4 ?_ ?_ ?_ ?_ ?_ | with_reducible refine lo_bind3 ?_ ?_ ?_ ?_ | with_reducible refine lo_bind2 ?_ ?_ ?_ | with_reducible refine lo_bind ?_ ?_ | with_reducible refine lo_cond ?_ ?_ | with_reducible refine lo_iter ?_ _ | (intro _) | with_reducible exact lo_refl _ | exact lo_none | (dsimp only))
def c_dispatchref6_labels (c : Conf) : Option Int :=
  (
    bif decide ((c.Labels.length : Int) < 1) then
      some true
    else
      bif decide ((c.Labels.length : Int) > 3) then
        some true
      else
        some (decide ((c.Queues.length : Int) > 16))).bind fun q =>
  bif q then
    some 4
  else
    (idx c.Labels 0).bind fun x =>
    bif ! (x == ([] : List UInt8)) then
      some 12
    else
      (itr 4096 (c_dispatchref6_labels_l1 c) 1).bind fun q0 =>
      match q0 with
      | .inl q1 =>
        some q1
      | .inr _ =>
        (itr 4096 (c_dispatchref6_labels_l2 c) 1).bind fun q0 =>
        match q0 with
        | .inl q3 =>
          some q3
        | .inr _ =>
          some 0
theorem le_dispatchref6_labels (c : Conf) : Lo (c_dispatchref6_labels c) (dispatchref6_labels c) := by
  unfold c_dispatchref6_labels dispatchref6_labels
  repeat' (first | with_reducible exact le_dispatchref6_labels_l1 _ _ | with_reducible exact le_dispatchref6_labels_l2 _ _ | with_reducible refine lo_bind4 ?_ ?_ ?_ ?_ ?_ | with_reducible refine lo_bind3 ?_ ?_ ?_ ?_ | with_reducible refine lo_bind2 ?_ ?_ ?_ | with_reducible refine lo_bind ?_ ?_ | with_reducible refine lo_cond ?_ ?_ | with_reducible refine lo_iter ?_ _ | (intro _) | with_reducible exact lo_refl _ | exact lo_none | (dsimp only))
def c_dispatchref6_Find_l1 (c : Conf) (path : List UInt8) (t : Queue × Int) : Option ((Queue × Int) ⊕ ((Queue × Bool) ⊕ Queue)) :=
  bif decide (t.2 < (c.Queues.length : Int)) then
    (idx c.Queues t.2).bind fun x =>
    bif x.Path == path then
      (idx c.Queues t.2).bind fun x1 =>
      (app 16 [] x1.Caps).bind fun l =>
      some (.inr (.inl ((⟨x1.Path, l, x1.User⟩ : Queue), true)))
    else
      some (.inl (t.1, w64 (t.2 + 1)))
  else
    some (.inr (.inr (t.1)))
theorem le_dispatchref6_Find_l1 (c : Conf) (path : List UInt8) (t : Queue × Int) : Lo (c_dispatchref6_Find_l1 c path t) (dispatchref6_Find_l1 c path t) := by
  unfold c_dispatchref6_Find_l1 dispatchref6_Find_l1
  repeat' (first | with_reducible refine lo_bind4 ?_ ?_ ?_ ?_ ?_ | with_reducible refine lo_bind3 ?_ ?_ ?_ ?_ | with_reducible refine lo_bind2 ?_ ?_ ?_ | with_reducible refine lo_bind ?_ ?_ | with_reducible refine lo_cond ?_ ?_ | with_reducible refine lo_iter ?_ _ | (intro _) | with_reducible exact lo_refl _ | exact lo_none | (dsimp only))
def c_dispatchref6_Find (c : Conf) (path : List UInt8) : Option (Queue × Bool) :=
  (itr 4096 (c_dispatchref6_Find_l1 c path) ((⟨[], [], 0⟩ : Queue), 0)).bind fun q0 =>
  match q0 with
  | .inl q =>
    some (q.1, q.2)
  | .inr q1 =>
    some ((⟨[], [], 0⟩ : Queue), false)
theorem le_dispatchref6_Find (c : Conf) (path : List UInt8) : Lo (c_dispatchref6_Find c path) (dispatchref6_Find c path) := by
  unfold c_dispatchref6_Find dispatchref6_Find
  repeat' (first | with_reducible exact le_dispatchref6_Find_l1 _ _ _ | with_reducible refine lo_bind4 ?_ ?_ ?_ ?_ ?_ | with_reducible refine lo_bind3 ?_ ?_ ?_ ?_ | with_reducible refine lo_bind2 ?_ ?_ ?_ | with_reducible refine lo_bind ?_ ?_ | with_reducible refine lo_cond ?_ ?_ | with_reducible refine lo_iter ?_ _ | (intro _) | with_reducible exact lo_refl _ | exact lo_none | (dsimp only))
def c_dispatchref6_isPath_l1 (s : List UInt8) (t : Int × Int × Int) : Option ((Int × Int × Int) ⊕ (Bool ⊕ Int)) :=
  bif decide (t.2.2 ≤ (s.length : Int)) then
    (
      (
        bif decide (t.2.2 < (s.length : Int)) then
          (idx s t.2.2).bind fun ch =>
          some ((ch.toNat : Int) != 46)
        else
          some false).bind fun q =>
      bif q then
        some (.inl (t.1, t.2.1))
      else
        (
          (slc s t.1 t.2.2).bind fun s1 =>
          (c_dispatchref6_Name s1).bind fun x =>
          bif ! x then
            some true
          else
            bif t.2.1 == 0 then
              (slc s t.1 t.2.2).bind fun s2 =>
              some (! (s2 == ([114, 111, 111, 116] : List UInt8)))
            else
              some false).bind fun q1 =>
        bif q1 then
          some (.inr false)
        else
          some (.inl (w64 (t.2.2 + 1), w64 (t.2.1 + 1))) : Option ((Int × Int) ⊕ Bool)).bind fun q0 =>
    match q0 with
    | .inl q2 =>
      some (.inl (q2.1, q2.2, w64 (t.2.2 + 1)))
    | .inr q3 =>
      some (.inr (.inl q3))
  else
    some (.inr (.inr (t.2.1)))
theorem le_dispatchref6_isPath_l1 (s : List UInt8) (t : Int × Int × Int) : Lo (c_dispatchref6_isPath_l1 s t) (dispatchref6_isPath_l1 s t) := by
  unfold c_dispatchref6_isPath_l1 dispatchref6_isPath_l1
  repeat' (first | with_reducible exact le_dispatchref6_Name _ | with_reducible refine lo_bind4 ?_ ?_ ?_ ?_ ?_ | with_reducible refine lo_bind3 ?_ ?_ ?_ ?_ | with_reducible refine lo_bind2 ?_ ?_ ?_ | with_reducible refine lo_bind ?_ ?_ | with_reducible refine lo_cond ?_ ?_ | with_reducible refine lo_iter ?_ _ | (intro _) | with_reducible exact lo_refl _ | exact lo_none | (dsimp only))
def c_dispatchref6_isPath (s : List UInt8) : Option Bool :=
  (itr 4096 (c_dispatchref6_isPath_l1 s) (0, 0, 0)).bind fun q0 =>
  match q0 with
  | .inl q4 =>
    some q4
  | .inr n =>
    some (decide (n ≤ 4))
theorem le_dispatchref6_isPath (s : List UInt8) : Lo (c_dispatchref6_isPath s) (dispatchref6_isPath s) := by
  unfold c_dispatchref6_isPath dispatchref6_isPath
  repeat' (first | with_reducible exact le_dispatchref6_isPath_l1 _ _ | with_reducible refine lo_bind4 ?_ ?_ ?_ ?_ ?_ | with_reducible refine lo_bind3 ?_ ?_ ?_ ?_ | with_reducible refine lo_bind2 ?_ ?_ ?_ | with_reducible refine lo_bind ?_ ?_ | with_reducible refine lo_cond ?_ ?_ | with_reducible refine lo_iter ?_ _ | (intro _) | with_reducible exact lo_refl _ | exact lo_none | (dsimp only))
def c_dispatchref6_above_l1 (path : List UInt8) (k1 : Int) : Option (Int ⊕ Int) :=
  (
    bif decide (k1 ≥ 0) then
      (idx path k1).bind fun ch =>
      some ((ch.toNat : Int) != 46)
    else
      some false).bind fun q =>
  bif q then
    some (.inl (w64 (k1 - 1)))
  else
    some (.inr k1)
theorem le_dispatchref6_above_l1 (path : List UInt8) (k1 : Int) : Lo (c_dispatchref6_above_l1 path k1) (dispatchref6_above_l1 path k1) := by
  unfold c_dispatchref6_above_l1 dispatchref6_above_l1
  repeat' (first | with_reducible refine lo_bind4 ?_ ?_ ?_ ?_ ?_ | with_reducible refine lo_bind3 ?_ ?_ ?_ ?_ | with_reducible refine lo_bind2 ?_ ?_ ?_ | with_reducible refine lo_bind ?_ ?_ | with_reducible refine lo_cond ?_ ?_ | with_reducible refine lo_iter ?_ _ | (intro _) | with_reducible exact lo_refl _ | exact lo_none | (dsimp only))
def c_dispatchref6_above (path : List UInt8) : Option (List UInt8) :=
  let k := w64 ((path.length : Int) - 1)
  (itr 4096 (c_dispatchref6_above_l1 path) k).bind fun k2 =>
  bif decide (k2 < 0) then
    some ([] : List UInt8)
  else
    (slc path 0 k2).bind fun s =>
    some s
theorem le_dispatchref6_above (path : List UInt8) : Lo (c_dispatchref6_above path) (dispatchref6_above path) := by
  unfold c_dispatchref6_above dispatchref6_above
  repeat' (first | with_reducible exact le_dispatchref6_above_l1 _ _ | with_reducible refine lo_bind4 ?_ ?_ ?_ ?_ ?_ | with_reducible refine lo_bind3 ?_ ?_ ?_ ?_ | with_reducible refine lo_bind2 ?_ ?_ ?_ | with_reducible refine lo_bind ?_ ?_ | with_reducible refine lo_cond ?_ ?_ | with_reducible refine lo_iter ?_ _ | (intro _) | with_reducible exact lo_refl _ | exact lo_none | (dsimp only))
def c_dispatchref6_queue_l1 (x : Queue) (k : Int) : Option (Int ⊕ (Int ⊕ Unit)) :=
  bif decide (k < (x.Caps.length : Int)) then
    (idx x.Caps k).bind fun x5 =>
    (
      bif decide (x5.Least < 0) then
        some true
      else
        bif decide (x5.Least > 10000) then
          some true
        else
          bif decide (x5.Most < 0) then
            some true
          else
            bif decide (x5.Most > 10000) then
              some true
            else
              some (decide (x5.Least > x5.Most))).bind fun q3 =>
    bif q3 then
      some (.inr (.inl 1))
    else
      some (.inl (w64 (k + 1)))
  else
    some (.inr (.inr ()))
theorem le_dispatchref6_queue_l1 (x : Queue) (k : Int) : Lo (c_dispatchref6_queue_l1 x k) (dispatchref6_queue_l1 x k) := by
  unfold c_dispatchref6_queue_l1 dispatchref6_queue_l1
  repeat' (first | with_reducible refine lo_bind4 ?_ ?_ ?_ ?_ ?_ | with_reducible refine lo_bind3 ?_ ?_ ?_ ?_ | with_reducible refine lo_bind2 ?_ ?_ ?_ | with_reducible refine lo_bind ?_ ?_ | with_reducible refine lo_cond ?_ ?_ | with_reducible refine lo_iter ?_ _ | (intro _) | with_reducible exact lo_refl _ | exact lo_none | (dsimp only))
def c_dispatchref6_queue (c : Conf) (i : Int) : Option Int :=
  (idx c.Queues i).bind fun x =>
  (c_dispatchref6_isPath x.Path).bind fun x1 =>
  bif ! x1 then
    some 12
  else
    (
      bif decide (i > 0) then
        (idx c.Queues (w64 (i - 1))).bind fun x2 =>
        some (strLe x.Path x2.Path)
      else
        some false).bind fun q =>
    bif q then
      some 7
    else
      (c_dispatchref6_above x.Path).bind fun x3 =>
      (c_dispatchref6_Find c x3).bind fun x4 =>
      (
        bif decide (i > 0) then
          some (! x4.2)
        else
          some false).bind fun q1 =>
      bif q1 then
        some 12
      else
        (
          bif decide (x.User < 1) then
            some true
          else
            bif decide (x.User > 1000000) then
              some true
            else
              some ((x.Caps.length : Int) != (c.Labels.length : Int))).bind fun q2 =>
        bif q2 then
          some 1
        else
          (itr 4096 (c_dispatchref6_queue_l1 x) 0).bind fun q0 =>
          match q0 with
          | .inl q4 =>
            some q4
          | .inr _ =>
            some 0
theorem le_dispatchref6_queue (c : Conf) (i : Int) : Lo (c_dispatchref6_queue c i) (dispatchref6_queue c i) := by
  unfold c_dispatchref6_queue dispatchref6_queue
  repeat' (first | with_reducible exact le_dispatchref6_isPath _ | with_reducible exact le_dispatchref6_above _ | with_reducible exact le_dispatchref6_Find _ _ | with_reducible exact le_dispatchref6_queue_l1 _ _ | with_reducible refine lo_bind4 ?_ ?_ ?_ ?_ ?_ | with_reducible refine lo_bind3 ?_ ?_ ?_ ?_ | with_reducible refine lo_bind2 ?_ ?_ ?_ | with_reducible refine lo_bind ?_ ?_ | with_reducible refine lo_cond ?_ ?_ | with_reducible refine lo_iter ?_ _ | (intro _) | with_reducible exact lo_refl _ | exact lo_none | (dsimp only))
def c_dispatchref6_Kids_l1 (c : Conf) (path : List UInt8) (t : List (List UInt8) × Int) : Option ((List (List UInt8) × Int) ⊕ List (List UInt8)) :=
  bif decide (t.2 < (c.Queues.length : Int)) then
    (
      (
        bif ! (path == ([] : List UInt8)) then
          (idx c.Queues t.2).bind fun x =>
          (c_dispatchref6_above x.Path).bind fun x1 =>
          some (x1 == path)
        else
          some false).bind fun q =>
      bif q then
        (idx c.Queues t.2).bind fun x2 =>
        (app 16 t.1 [x2.Path]).bind fun l =>
        some l
      else
        some t.1).bind fun l1 =>
    some (.inl (l1, w64 (t.2 + 1)))
  else
    some (.inr t.1)
theorem le_dispatchref6_Kids_l1 (c : Conf) (path : List UInt8) (t : List (List UInt8) × Int) : Lo (c_dispatchref6_Kids_l1 c path t) (dispatchref6_Kids_l1 c path t) := by
  unfold c_dispatchref6_Kids_l1 dispatchref6_Kids_l1
  repeat' (first | with_reducible exact le_dispatchref6_above _ | with_reducible refine lo_bind4 ?_ ?_ ?_ ?_ ?_ | with_reducible refine lo_bind3 ?_ ?_ ?_ ?_ | with_reducible refine lo_bind2 ?_ ?_ ?_ | with_reducible refine lo_bind ?_ ?_ | with_reducible refine lo_cond ?_ ?_ | with_reducible refine lo_iter ?_ _ | (intro _) | with_reducible exact lo_refl _ | exact lo_none | (dsimp only))
def c_dispatchref6_Kids (c : Conf) (path : List UInt8) : Option (List (List UInt8)) :=
  (itr 4096 (c_dispatchref6_Kids_l1 c path) ([], 0)).bind fun l2 =>
  some l2
theorem le_dispatchref6_Kids (c : Conf) (path : List UInt8) : Lo (c_dispatchref6_Kids c path) (dispatchref6_Kids c path) := by
  unfold c_dispatchref6_Kids dispatchref6_Kids
  repeat' (first | with_reducible exact le_dispatchref6_Kids_l1 _ _ _ | with_reducible refine lo_bind4 ?_ ?_ ?_ ?_ ?_ | with_reducible refine lo_bind3 ?_ ?_ ?_ ?_ | with_reducible refine lo_bind2 ?_ ?_ ?_ | with_reducible refine lo_bind ?_ ?_ | with_reducible refine lo_cond ?_ ?_ | with_reducible refine lo_iter ?_ _ | (intro _) | with_reducible exact lo_refl _ | exact lo_none | (dsimp only))
def c_dispatchref6_sums_l3 (c : Conf) (kids : List (List UInt8)) (k : Int) (t : Int × Int) : Option ((Int × Int) ⊕ Int) :=
  bif decide (t.2 < (kids.length : Int)) then
    (inb t.2 kids.length).bind fun i1 =>
    (kids[i1]?).bind fun x1 =>
    (c_dispatchref6_Find c x1).bind fun x2 =>
    (inb k x2.1.Caps.length).bind fun i2 =>
    (x2.1.Caps[i2]?).bind fun x3 =>
    let n := w64 (t.1 + x3.Least)
    some (.inl (n, w64 (t.2 + 1)))
  else
    some (.inr t.1)
theorem le_dispatchref6_sums_l3 (c : Conf) (kids : List (List UInt8)) (k : Int) (t : Int × Int) : Lo (c_dispatchref6_sums_l3 c kids k t) (dispatchref6_sums_l3 c kids k t) := by
  unfold c_dispatchref6_sums_l3 dispatchref6_sums_l3
  repeat' (first | with_reducible exact le_dispatchref6_Find _ _ | with_reducible refine lo_bind4 ?_ ?_ ?_ ?_ ?_ | with_reducible refine lo_bind3 ?_ ?_ ?_ ?_ | with_reducible refine lo_bind2 ?_ ?_ ?_ | with_reducible refine lo_bind ?_ ?_ | with_reducible refine lo_cond ?_ ?_ | with_reducible refine lo_iter ?_ _ | (intro _) | with_reducible exact lo_refl _ | exact lo_none | (dsimp only))
def c_dispatchref6_sums_l2 (c : Conf) (kids : List (List UInt8)) (k : Int) : Option (Int ⊕ (Bool ⊕ Unit)) :=
  (
    bif decide (k < (c.Labels.length : Int)) then
      some (decide ((kids.length : Int) > 0))
    else
      some false).bind fun q =>
  bif q then
    (itr 4096 (c_dispatchref6_sums_l3 c kids k) (0, 0)).bind fun n1 =>
    bif n1 != 10000 then
      some (.inr (.inl false))
    else
      some (.inl (w64 (k + 1)))
  else
    some (.inr (.inr ()))
theorem le_dispatchref6_sums_l2 (c : Conf) (kids : List (List UInt8)) (k : Int) : Lo (c_dispatchref6_sums_l2 c kids k) (dispatchref6_sums_l2 c kids k) := by
  unfold c_dispatchref6_sums_l2 dispatchref6_sums_l2
  repeat' (first | with_reducible exact le_dispatchref6_sums_l3 _ _ _ _ | with_reducible refine lo_bind4 ?_ ?_ ?_ ?_ ?_ | with_reducible refine lo_bind3 ?_ ?_ ?_ ?_ | with_reducible refine lo_bind2 ?_ ?_ ?_ | with_reducible refine lo_bind ?_ ?_ | with_reducible refine lo_cond ?_ ?_ | with_reducible refine lo_iter ?_ _ | (intro _) | with_reducible exact lo_refl _ | exact lo_none | (dsimp only))
def c_dispatchref6_sums_l1 (c : Conf) (i : Int) : Option (Int ⊕ (Bool ⊕ Unit)) :=
  bif decide (i < (c.Queues.length : Int)) then
    (idx c.Queues i).bind fun x =>
    (c_dispatchref6_Kids c x.Path).bind fun kids =>
    (itr 4096 (c_dispatchref6_sums_l2 c kids) 0).bind fun q0 =>
    match q0 with
    | .inl q1 =>
      some (.inr (.inl q1))
    | .inr _ =>
      some (.inl (w64 (i + 1)))
  else
    some (.inr (.inr ()))
theorem le_dispatchref6_sums_l1 (c : Conf) (i : Int) : Lo (c_dispatchref6_sums_l1 c i) (dispatchref6_sums_l1 c i) := by
  unfold c_dispatchref6_sums_l1 dispatchref6_sums_l1
  repeat' (first | with_reducible exact le_dispatchref6_Kids _ _ | with_reducible exact le_dispatchref6_sums_l2 _ _ _ | with_reducible refine lo_bind4 ?_ ?_ ?_ ?_ ?_ | with_reducible refine lo_bind3 ?_ ?_ ?_ ?_ | with_reducible refine lo_bind2 ?_ ?_ ?_ | with_reducible refine lo_bind ?_ ?_ | with_reducible refine lo_cond ?_ ?_ | with_reducible refine lo_iter ?_ _ | (intro _) | with_reducible exact lo_refl _ | exact lo_none | (dsimp only))
def c_dispatchref6_sums (c : Conf) : Option Bool :=
  (itr 4096 (c_dispatchref6_sums_l1 c) 0).bind fun q0 =>
  match q0 with
  | .inl q2 =>
    some q2
  | .inr _ =>
    some true
theorem le_dispatchref6_sums (c : Conf) : Lo (c_dispatchref6_sums c) (dispatchref6_sums c) := by
  unfold c_dispatchref6_sums dispatchref6_sums
  repeat' (first | with_reducible exact le_dispatchref6_sums_l1 _ _ | with_reducible refine lo_bind4 ?_ ?_ ?_ ?_ ?_ | with_reducible refine lo_bind3 ?_ ?_ ?_ ?_ | with_reducible refine lo_bind2 ?_ ?_ ?_ | with_reducible refine lo_bind ?_ ?_ | with_reducible refine lo_cond ?_ ?_ | with_reducible refine lo_iter ?_ _ | (intro _) | with_reducible exact lo_refl _ | exact lo_none | (dsimp only))
def c_dispatchref6_Check_l2 (c : Conf) (k : Int) : Option (Int ⊕ (Int ⊕ Unit)) :=
  bif decide (k < (c.Labels.length : Int)) then
    (idx c.Queues 0).bind fun x5 =>
    (idx x5.Caps k).bind fun x6 =>
    bif ! ((x6.Least == 10000) && (x6.Most == 10000)) then
      some (.inr (.inl 13))
    else
      some (.inl (w64 (k + 1)))
  else
    some (.inr (.inr ()))
theorem le_dispatchref6_Check_l2 (c : Conf) (k : Int) : Lo (c_dispatchref6_Check_l2 c k) (dispatchref6_Check_l2 c k) := by
  unfold c_dispatchref6_Check_l2 dispatchref6_Check_l2
  repeat' (first | with_reducible refine lo_bind4 ?_ ?_ ?_ ?_ ?_ | with_reducible refine lo_bind3 ?_ ?_ ?_ ?_ | with_reducible refine lo_bind2 ?_ ?_ ?_ | with_reducible refine lo_bind ?_ ?_ | with_reducible refine lo_cond ?_ ?_ | with_reducible refine lo_iter ?_ _ | (intro _) | with_reducible exact lo_refl _ | exact lo_none | (dsimp only))
def c_dispatchref6_Check_l1 (c : Conf) (i : Int) : Option (Int ⊕ (Int ⊕ Unit)) :=
  bif decide (i < (c.Queues.length : Int)) then
    (c_dispatchref6_queue c i).bind fun x3 =>
    bif x3 != 0 then
      (c_dispatchref6_queue c i).bind fun x4 =>
      some (.inr (.inl x4))
    else
      some (.inl (w64 (i + 1)))
  else
    some (.inr (.inr ()))
theorem le_dispatchref6_Check_l1 (c : Conf) (i : Int) : Lo (c_dispatchref6_Check_l1 c i) (dispatchref6_Check_l1 c i) := by
  unfold c_dispatchref6_Check_l1 dispatchref6_Check_l1
  repeat' (first | with_reducible exact le_dispatchref6_queue _ _ | with_reducible refine lo_bind4 ?_ ?_ ?_ ?_ ?_ | with_reducible refine lo_bind3 ?_ ?_ ?_ ?_ | with_reducible refine lo_bind2 ?_ ?_ ?_ | with_reducible refine lo_bind ?_ ?_ | with_reducible refine lo_cond ?_ ?_ | with_reducible refine lo_iter ?_ _ | (intro _) | with_reducible exact lo_refl _ | exact lo_none | (dsimp only))
def c_dispatchref6_Check (c : Conf) : Option Int :=
  (c_dispatchref6_labels c).bind fun x =>
  bif x != 0 then
    (c_dispatchref6_labels c).bind fun x1 =>
    some x1
  else
    (
      bif (c.Queues.length : Int) == 0 then
        some true
      else
        (idx c.Queues 0).bind fun x2 =>
        some (! (x2.Path == ([114, 111, 111, 116] : List UInt8)))).bind fun q =>
    bif q then
      some 12
    else
      (itr 4096 (c_dispatchref6_Check_l1 c) 0).bind fun q0 =>
      match q0 with
      | .inl q1 =>
        some q1
      | .inr _ =>
        (itr 4096 (c_dispatchref6_Check_l2 c) 0).bind fun q0 =>
        match q0 with
        | .inl q2 =>
          some q2
        | .inr _ =>
          (c_dispatchref6_sums c).bind fun x7 =>
          bif ! x7 then
            some 13
          else
            some 0
theorem le_dispatchref6_Check (c : Conf) : Lo (c_dispatchref6_Check c) (dispatchref6_Check c) := by
  unfold c_dispatchref6_Check dispatchref6_Check
  repeat' (first | with_reducible exact le_dispatchref6_labels _ | with_reducible exact le_dispatchref6_Check_l1 _ _ | with_reducible exact le_dispatchref6_Check_l2 _ _ | with_reducible exact le_dispatchref6_sums _ | with_reducible refine lo_bind4 ?_ ?_ ?_ ?_ ?_ | with_reducible refine lo_bind3 ?_ ?_ ?_ ?_ | with_reducible refine lo_bind2 ?_ ?_ ?_ | with_reducible refine lo_bind ?_ ?_ | with_reducible refine lo_cond ?_ ?_ | with_reducible refine lo_iter ?_ _ | (intro _) | with_reducible exact lo_refl _ | exact lo_none | (dsimp only))
def c_dispatchref19_vec (v : Vec) : Option Bool :=
  bif decide (v.Mem ≥ 0) then
    bif decide (v.Mem ≤ 1125899906842624) then
      bif decide (v.Cores ≥ 0) then
        some (decide (v.Cores ≤ 1125899906842624))
      else
        some false
    else
      some false
  else
    some false
theorem le_dispatchref19_vec (v : Vec) : Lo (c_dispatchref19_vec v) (dispatchref19_vec v) := by
  unfold c_dispatchref19_vec dispatchref19_vec
  repeat' (first | with_reducible refine lo_bind4 ?_ ?_ ?_ ?_ ?_ | with_reducible refine lo_bind3 ?_ ?_ ?_ ?_ | with_reducible refine lo_bind2 ?_ ?_ ?_ | with_reducible refine lo_bind ?_ ?_ | with_reducible refine lo_cond ?_ ?_ | with_reducible refine lo_iter ?_ _ | (intro _) | with_reducible exact lo_refl _ | exact lo_none | (dsimp only))
def c_dispatchref19_vecs_l5 (s : State) (t3 : Bool × Int) (t4 : Bool × Int) : Option ((Bool × Int) ⊕ Bool) :=
  (idx s.Apps t3.2).bind fun x8 =>
  bif decide (t4.2 < (x8.Asks.length : Int)) then
    (
      bif t4.1 then
        (idx s.Apps t3.2).bind fun x9 =>
        (idx x9.Asks t4.2).bind fun x10 =>
        (c_dispatchref19_vec x10.Size).bind fun x11 =>
        some x11
      else
        some false).bind fun ok7 =>
    some (.inl (ok7, w64 (t4.2 + 1)))
  else
    some (.inr t4.1)
theorem le_dispatchref19_vecs_l5 (s : State) (t3 : Bool × Int) (t4 : Bool × Int) : Lo (c_dispatchref19_vecs_l5 s t3 t4) (dispatchref19_vecs_l5 s t3 t4) := by
  unfold c_dispatchref19_vecs_l5 dispatchref19_vecs_l5
  repeat' (first | with_reducible exact le_dispatchref19_vec _ | with_reducible refine lo_bind4 ?_ ?_ ?_ ?_ ?_ | with_reducible refine lo_bind3 ?_ ?_ ?_ ?_ | with_reducible refine lo_bind2 ?_ ?_ ?_ | with_reducible refine lo_bind ?_ ?_ | with_reducible refine lo_cond ?_ ?_ | with_reducible refine lo_iter ?_ _ | (intro _) | with_reducible exact lo_refl _ | exact lo_none | (dsimp only))
def c_dispatchref19_vecs_l4 (s : State) (t3 : Bool × Int) : Option ((Bool × Int) ⊕ Bool) :=
  bif decide (t3.2 < (s.Apps.length : Int)) then
    (
      bif t3.1 then
        (idx s.Apps t3.2).bind fun x6 =>
        (c_dispatchref19_vec x6.Master).bind fun x7 =>
        some x7
      else
        some false).bind fun ok6 =>
    (itr 4096 (c_dispatchref19_vecs_l5 s t3) (ok6, 0)).bind fun ok8 =>
    some (.inl (ok8, w64 (t3.2 + 1)))
  else
    some (.inr t3.1)
theorem le_dispatchref19_vecs_l4 (s : State) (t3 : Bool × Int) : Lo (c_dispatchref19_vecs_l4 s t3) (dispatchref19_vecs_l4 s t3) := by
  unfold c_dispatchref19_vecs_l4 dispatchref19_vecs_l4
  repeat' (first | with_reducible exact le_dispatchref19_vec _ | with_reducible exact le_dispatchref19_vecs_l5 _ _ _ | with_reducible refine lo_bind4 ?_ ?_ ?_ ?_ ?_ | with_reducible refine lo_bind3 ?_ ?_ ?_ ?_ | with_reducible refine lo_bind2 ?_ ?_ ?_ | with_reducible refine lo_bind ?_ ?_ | with_reducible refine lo_cond ?_ ?_ | with_reducible refine lo_iter ?_ _ | (intro _) | with_reducible exact lo_refl _ | exact lo_none | (dsimp only))
def c_dispatchref19_vecs_l3 (s : State) (t2 : Bool × Int) : Option ((Bool × Int) ⊕ Bool) :=
  bif decide (t2.2 < (s.Plans.length : Int)) then
    (
      bif t2.1 then
        (idx s.Plans t2.2).bind fun x4 =>
        (c_dispatchref19_vec x4.Need).bind fun x5 =>
        some x5
      else
        some false).bind fun ok4 =>
    some (.inl (ok4, w64 (t2.2 + 1)))
  else
    some (.inr t2.1)
theorem le_dispatchref19_vecs_l3 (s : State) (t2 : Bool × Int) : Lo (c_dispatchref19_vecs_l3 s t2) (dispatchref19_vecs_l3 s t2) := by
  unfold c_dispatchref19_vecs_l3 dispatchref19_vecs_l3
  repeat' (first | with_reducible exact le_dispatchref19_vec _ | with_reducible refine lo_bind4 ?_ ?_ ?_ ?_ ?_ | with_reducible refine lo_bind3 ?_ ?_ ?_ ?_ | with_reducible refine lo_bind2 ?_ ?_ ?_ | with_reducible refine lo_bind ?_ ?_ | with_reducible refine lo_cond ?_ ?_ | with_reducible refine lo_iter ?_ _ | (intro _) | with_reducible exact lo_refl _ | exact lo_none | (dsimp only))
def c_dispatchref19_vecs_l2 (s : State) (t1 : Bool × Int) : Option ((Bool × Int) ⊕ Bool) :=
  bif decide (t1.2 < (s.Conts.length : Int)) then
    (
      bif t1.1 then
        (idx s.Conts t1.2).bind fun x2 =>
        (c_dispatchref19_vec x2.Size).bind fun x3 =>
        some x3
      else
        some false).bind fun ok2 =>
    some (.inl (ok2, w64 (t1.2 + 1)))
  else
    some (.inr t1.1)
theorem le_dispatchref19_vecs_l2 (s : State) (t1 : Bool × Int) : Lo (c_dispatchref19_vecs_l2 s t1) (dispatchref19_vecs_l2 s t1) := by
  unfold c_dispatchref19_vecs_l2 dispatchref19_vecs_l2
  repeat' (first | with_reducible exact le_dispatchref19_vec _ | with_reducible refine lo_bind4 ?_ ?_ ?_ ?_ ?_ | with_reducible refine lo_bind3 ?_ ?_ ?_ ?_ | with_reducible refine lo_bind2 ?_ ?_ ?_ | with_reducible refine lo_bind ?_ ?_ | with_reducible refine lo_cond ?_ ?_ | with_reducible refine lo_iter ?_ _ | (intro _) | with_reducible exact lo_refl _ | exact lo_none | (dsimp only))
def c_dispatchref19_vecs_l1 (s : State) (t : Bool × Int) : Option ((Bool × Int) ⊕ Bool) :=
  bif decide (t.2 < (s.Nodes.length : Int)) then
    (
      bif t.1 then
        (idx s.Nodes t.2).bind fun x =>
        (c_dispatchref19_vec x.Cap).bind fun x1 =>
        some x1
      else
        some false).bind fun ok =>
    some (.inl (ok, w64 (t.2 + 1)))
  else
    some (.inr t.1)
theorem le_dispatchref19_vecs_l1 (s : State) (t : Bool × Int) : Lo (c_dispatchref19_vecs_l1 s t) (dispatchref19_vecs_l1 s t) := by
  unfold c_dispatchref19_vecs_l1 dispatchref19_vecs_l1
  repeat' (first | with_reducible exact le_dispatchref19_vec _ | with_reducible refine lo_bind4 ?_ ?_ ?_ ?_ ?_ | with_reducible refine lo_bind3 ?_ ?_ ?_ ?_ | with_reducible refine lo_bind2 ?_ ?_ ?_ | with_reducible refine lo_bind ?_ ?_ | with_reducible refine lo_cond ?_ ?_ | with_reducible refine lo_iter ?_ _ | (intro _) | with_reducible exact lo_refl _ | exact lo_none | (dsimp only))
def c_dispatchref19_vecs (s : State) : Option Bool :=
  (itr 4096 (c_dispatchref19_vecs_l1 s) (true, 0)).bind fun ok1 =>
  (itr 4096 (c_dispatchref19_vecs_l2 s) (ok1, 0)).bind fun ok3 =>
  (itr 4096 (c_dispatchref19_vecs_l3 s) (ok3, 0)).bind fun ok5 =>
  (itr 4096 (c_dispatchref19_vecs_l4 s) (ok5, 0)).bind fun ok9 =>
  some ok9
theorem le_dispatchref19_vecs (s : State) : Lo (c_dispatchref19_vecs s) (dispatchref19_vecs s) := by
  unfold c_dispatchref19_vecs dispatchref19_vecs
  repeat' (first | with_reducible exact le_dispatchref19_vecs_l1 _ _ | with_reducible exact le_dispatchref19_vecs_l2 _ _ | with_reducible exact le_dispatchref19_vecs_l3 _ _ | with_reducible exact le_dispatchref19_vecs_l4 _ _ | with_reducible refine lo_bind4 ?_ ?_ ?_ ?_ ?_ | with_reducible refine lo_bind3 ?_ ?_ ?_ ?_ | with_reducible refine lo_bind2 ?_ ?_ ?_ | with_reducible refine lo_bind ?_ ?_ | with_reducible refine lo_cond ?_ ?_ | with_reducible refine lo_iter ?_ _ | (intro _) | with_reducible exact lo_refl _ | exact lo_none | (dsimp only))
def c_dispatchref19_orders_l5 (s : State) (t4 : Bool × Int) : Option ((Bool × Int) ⊕ Bool) :=
  bif decide (t4.2 < (s.Plans.length : Int)) then
    (
      bif t4.1 then
        (idx s.Plans (w64 (t4.2 - 1))).bind fun x8 =>
        (idx s.Plans t4.2).bind fun x9 =>
        let ok12 := decide (x8.Id < x9.Id)
        some ok12
      else
        some false).bind fun ok13 =>
    some (.inl (ok13, w64 (t4.2 + 1)))
  else
    some (.inr t4.1)
theorem le_dispatchref19_orders_l5 (s : State) (t4 : Bool × Int) : Lo (c_dispatchref19_orders_l5 s t4) (dispatchref19_orders_l5 s t4) := by
  unfold c_dispatchref19_orders_l5 dispatchref19_orders_l5
  repeat' (first | with_reducible refine lo_bind4 ?_ ?_ ?_ ?_ ?_ | with_reducible refine lo_bind3 ?_ ?_ ?_ ?_ | with_reducible refine lo_bind2 ?_ ?_ ?_ | with_reducible refine lo_bind ?_ ?_ | with_reducible refine lo_cond ?_ ?_ | with_reducible refine lo_iter ?_ _ | (intro _) | with_reducible exact lo_refl _ | exact lo_none | (dsimp only))
def c_dispatchref19_orders_l4 (s : State) (t3 : Bool × Int) : Option ((Bool × Int) ⊕ Bool) :=
  bif decide (t3.2 < (s.Slots.length : Int)) then
    (
      bif t3.1 then
        (idx s.Slots (w64 (t3.2 - 1))).bind fun x6 =>
        (idx s.Slots t3.2).bind fun x7 =>
        let ok9 := decide (x6.Node < x7.Node)
        some ok9
      else
        some false).bind fun ok10 =>
    some (.inl (ok10, w64 (t3.2 + 1)))
  else
    some (.inr t3.1)
theorem le_dispatchref19_orders_l4 (s : State) (t3 : Bool × Int) : Lo (c_dispatchref19_orders_l4 s t3) (dispatchref19_orders_l4 s t3) := by
  unfold c_dispatchref19_orders_l4 dispatchref19_orders_l4
  repeat' (first | with_reducible refine lo_bind4 ?_ ?_ ?_ ?_ ?_ | with_reducible refine lo_bind3 ?_ ?_ ?_ ?_ | with_reducible refine lo_bind2 ?_ ?_ ?_ | with_reducible refine lo_bind ?_ ?_ | with_reducible refine lo_cond ?_ ?_ | with_reducible refine lo_iter ?_ _ | (intro _) | with_reducible exact lo_refl _ | exact lo_none | (dsimp only))
def c_dispatchref19_orders_l3 (s : State) (t2 : Bool × Int) : Option ((Bool × Int) ⊕ Bool) :=
  bif decide (t2.2 < (s.Conts.length : Int)) then
    (
      bif t2.1 then
        (idx s.Conts (w64 (t2.2 - 1))).bind fun x4 =>
        (idx s.Conts t2.2).bind fun x5 =>
        let ok6 := decide (x4.Id < x5.Id)
        some ok6
      else
        some false).bind fun ok7 =>
    some (.inl (ok7, w64 (t2.2 + 1)))
  else
    some (.inr t2.1)
theorem le_dispatchref19_orders_l3 (s : State) (t2 : Bool × Int) : Lo (c_dispatchref19_orders_l3 s t2) (dispatchref19_orders_l3 s t2) := by
  unfold c_dispatchref19_orders_l3 dispatchref19_orders_l3
  repeat' (first | with_reducible refine lo_bind4 ?_ ?_ ?_ ?_ ?_ | with_reducible refine lo_bind3 ?_ ?_ ?_ ?_ | with_reducible refine lo_bind2 ?_ ?_ ?_ | with_reducible refine lo_bind ?_ ?_ | with_reducible refine lo_cond ?_ ?_ | with_reducible refine lo_iter ?_ _ | (intro _) | with_reducible exact lo_refl _ | exact lo_none | (dsimp only))
def c_dispatchref19_orders_l2 (s : State) (t1 : Bool × Int) : Option ((Bool × Int) ⊕ Bool) :=
  bif decide (t1.2 < (s.Apps.length : Int)) then
    (
      bif t1.1 then
        (idx s.Apps (w64 (t1.2 - 1))).bind fun x2 =>
        (idx s.Apps t1.2).bind fun x3 =>
        let ok3 := decide (x2.Id < x3.Id)
        some ok3
      else
        some false).bind fun ok4 =>
    some (.inl (ok4, w64 (t1.2 + 1)))
  else
    some (.inr t1.1)
theorem le_dispatchref19_orders_l2 (s : State) (t1 : Bool × Int) : Lo (c_dispatchref19_orders_l2 s t1) (dispatchref19_orders_l2 s t1) := by
  unfold c_dispatchref19_orders_l2 dispatchref19_orders_l2
  repeat' (first | with_reducible refine lo_bind4 ?_ ?_ ?_ ?_ ?_ | with_reducible refine lo_bind3 ?_ ?_ ?_ ?_ | with_reducible refine lo_bind2 ?_ ?_ ?_ | with_reducible refine lo_bind ?_ ?_ | with_reducible refine lo_cond ?_ ?_ | with_reducible refine lo_iter ?_ _ | (intro _) | with_reducible exact lo_refl _ | exact lo_none | (dsimp only))
def c_dispatchref19_orders_l1 (s : State) (t : Bool × Int) : Option ((Bool × Int) ⊕ Bool) :=
  bif decide (t.2 < (s.Nodes.length : Int)) then
    (
      bif t.1 then
        (idx s.Nodes (w64 (t.2 - 1))).bind fun x =>
        (idx s.Nodes t.2).bind fun x1 =>
        let ok := decide (x.Id < x1.Id)
        some ok
      else
        some false).bind fun ok1 =>
    some (.inl (ok1, w64 (t.2 + 1)))
  else
    some (.inr t.1)
theorem le_dispatchref19_orders_l1 (s : State) (t : Bool × Int) : Lo (c_dispatchref19_orders_l1 s t) (dispatchref19_orders_l1 s t) := by
  unfold c_dispatchref19_orders_l1 dispatchref19_orders_l1
  repeat' (first | with_reducible refine lo_bind4 ?_ ?_ ?_ ?_ ?_ | with_reducible refine lo_bind3 ?_ ?_ ?_ ?_ | with_reducible refine lo_bind2 ?_ ?_ ?_ | with_reducible refine lo_bind ?_ ?_ | with_reducible refine lo_cond ?_ ?_ | with_reducible refine lo_iter ?_ _ | (intro _) | with_reducible exact lo_refl _ | exact lo_none | (dsimp only))
def c_dispatchref19_orders (s : State) : Option Bool :=
  (
    bif decide ((s.Nodes.length : Int) > 12) then
      some true
    else
      bif decide ((s.Apps.length : Int) > 16) then
        some true
      else
        bif decide ((s.Conts.length : Int) > 200) then
          some true
        else
          some (decide ((s.Plans.length : Int) > 12))).bind fun q =>
  bif q then
    some false
  else
    (itr 4096 (c_dispatchref19_orders_l1 s) (true, 1)).bind fun ok2 =>
    (itr 4096 (c_dispatchref19_orders_l2 s) (ok2, 1)).bind fun ok5 =>
    (itr 4096 (c_dispatchref19_orders_l3 s) (ok5, 1)).bind fun ok8 =>
    (itr 4096 (c_dispatchref19_orders_l4 s) (ok8, 1)).bind fun ok11 =>
    (itr 4096 (c_dispatchref19_orders_l5 s) (ok11, 1)).bind fun ok14 =>
    some ok14
theorem le_dispatchref19_orders (s : State) : Lo (c_dispatchref19_orders s) (dispatchref19_orders s) := by
  unfold c_dispatchref19_orders dispatchref19_orders
  repeat' (first | with_reducible exact le_dispatchref19_orders_l1 _ _ | with_reducible exact le_dispatchref19_orders_l2 _ _ | with_reducible exact le_dispatchref19_orders_l3 _ _ | with_reducible exact le_dispatchref19_orders_l4 _ _ | with_reducible exact le_dispatchref19_orders_l5 _ _ | with_reducible refine lo_bind4 ?_ ?_ ?_ ?_ ?_ | with_reducible refine lo_bind3 ?_ ?_ ?_ ?_ | with_reducible refine lo_bind2 ?_ ?_ ?_ | with_reducible refine lo_bind ?_ ?_ | with_reducible refine lo_cond ?_ ?_ | with_reducible refine lo_iter ?_ _ | (intro _) | with_reducible exact lo_refl _ | exact lo_none | (dsimp only))
def c_dispatchref1_Plus (a : Vec) (b : Vec) : Option Vec :=
  some (⟨w64 (a.Mem + b.Mem), w64 (a.Cores + b.Cores)⟩ : Vec)
theorem le_dispatchref1_Plus (a : Vec) (b : Vec) : Lo (c_dispatchref1_Plus a b) (dispatchref1_Plus a b) := by
  unfold c_dispatchref1_Plus dispatchref1_Plus
  repeat' (first | with_reducible refine lo_bind4 ?_ ?_ ?_ ?_ ?_ | with_reducible refine lo_bind3 ?_ ?_ ?_ ?_ | with_reducible refine lo_bind2 ?_ ?_ ?_ | with_reducible refine lo_bind ?_ ?_ | with_reducible refine lo_cond ?_ ?_ | with_reducible refine lo_iter ?_ _ | (intro _) | with_reducible exact lo_refl _ | exact lo_none | (dsimp only))
def c_dispatchref8_Used_l1 (s : State) (id_ : Int) (t : Vec × Int) : Option ((Vec × Int) ⊕ Vec) :=
  bif decide (t.2 < (s.Conts.length : Int)) then
    (
      (idx s.Conts t.2).bind fun x =>
      bif x.Node == id_ then
        (idx s.Conts t.2).bind fun x1 =>
        (c_dispatchref1_Plus t.1 x1.Size).bind fun x2 =>
        some x2
      else
        some t.1).bind fun v =>
    some (.inl (v, w64 (t.2 + 1)))
  else
    some (.inr t.1)
theorem le_dispatchref8_Used_l1 (s : State) (id_ : Int) (t : Vec × Int) : Lo (c_dispatchref8_Used_l1 s id_ t) (dispatchref8_Used_l1 s id_ t) := by
  unfold c_dispatchref8_Used_l1 dispatchref8_Used_l1
  repeat' (first | with_reducible exact le_dispatchref1_Plus _ _ | with_reducible refine lo_bind4 ?_ ?_ ?_ ?_ ?_ | with_reducible refine lo_bind3 ?_ ?_ ?_ ?_ | with_reducible refine lo_bind2 ?_ ?_ ?_ | with_reducible refine lo_bind ?_ ?_ | with_reducible refine lo_cond ?_ ?_ | with_reducible refine lo_iter ?_ _ | (intro _) | with_reducible exact lo_refl _ | exact lo_none | (dsimp only))
def c_dispatchref8_Used (s : State) (id_ : Int) : Option Vec :=
  (itr 4096 (c_dispatchref8_Used_l1 s id_) ((⟨0, 0⟩ : Vec), 0)).bind fun v1 =>
  some v1
theorem le_dispatchref8_Used (s : State) (id_ : Int) : Lo (c_dispatchref8_Used s id_) (dispatchref8_Used s id_) := by
  unfold c_dispatchref8_Used dispatchref8_Used
  repeat' (first | with_reducible exact le_dispatchref8_Used_l1 _ _ _ | with_reducible refine lo_bind4 ?_ ?_ ?_ ?_ ?_ | with_reducible refine lo_bind3 ?_ ?_ ?_ ?_ | with_reducible refine lo_bind2 ?_ ?_ ?_ | with_reducible refine lo_bind ?_ ?_ | with_reducible refine lo_cond ?_ ?_ | with_reducible refine lo_iter ?_ _ | (intro _) | with_reducible exact lo_refl _ | exact lo_none | (dsimp only))
def c_dispatchref19_fit_l1 (s : State) (i : Int) : Option (Int ⊕ (Bool ⊕ Unit)) :=
  bif decide (i < (s.Nodes.length : Int)) then
    (idx s.Nodes i).bind fun x =>
    (c_dispatchref8_Used s x.Id).bind fun x1 =>
    (
      (idx s.Nodes i).bind fun x2 =>
      bif decide (x1.Mem > x2.Cap.Mem) then
        some true
      else
        (idx s.Nodes i).bind fun x3 =>
        some (decide (x1.Cores > x3.Cap.Cores))).bind fun q =>
    bif q then
      some (.inr (.inl false))
    else
      some (.inl (w64 (i + 1)))
  else
    some (.inr (.inr ()))
theorem le_dispatchref19_fit_l1 (s : State) (i : Int) : Lo (c_dispatchref19_fit_l1 s i) (dispatchref19_fit_l1 s i) := by
  unfold c_dispatchref19_fit_l1 dispatchref19_fit_l1
  repeat' (first | with_reducible exact le_dispatchref8_Used _ _ | with_reducible refine lo_bind4 ?_ ?_ ?_ ?_ ?_ | with_reducible refine lo_bind3 ?_ ?_ ?_ ?_ | with_reducible refine lo_bind2 ?_ ?_ ?_ | with_reducible refine lo_bind ?_ ?_ | with_reducible refine lo_cond ?_ ?_ | with_reducible refine lo_iter ?_ _ | (intro _) | with_reducible exact lo_refl _ | exact lo_none | (dsimp only))
def c_dispatchref19_fit (s : State) : Option Bool :=
  (itr 4096 (c_dispatchref19_fit_l1 s) 0).bind fun q0 =>
  match q0 with
  | .inl q1 =>
    some q1
  | .inr _ =>
    some true
theorem le_dispatchref19_fit (s : State) : Lo (c_dispatchref19_fit s) (dispatchref19_fit s) := by
  unfold c_dispatchref19_fit dispatchref19_fit
  repeat' (first | with_reducible exact le_dispatchref19_fit_l1 _ _ | with_reducible refine lo_bind4 ?_ ?_ ?_ ?_ ?_ | with_reducible refine lo_bind3 ?_ ?_ ?_ ?_ | with_reducible refine lo_bind2 ?_ ?_ ?_ | with_reducible refine lo_bind ?_ ?_ | with_reducible refine lo_cond ?_ ?_ | with_reducible refine lo_iter ?_ _ | (intro _) | with_reducible exact lo_refl _ | exact lo_none | (dsimp only))
def c_dispatchref10_Find_l1 (s : State) (id_ : Int) (t : App × Int) : Option ((App × Int) ⊕ ((App × Bool) ⊕ App)) :=
  bif decide (t.2 < (s.Apps.length : Int)) then
    (idx s.Apps t.2).bind fun x =>
    bif x.Id == id_ then
      (idx s.Apps t.2).bind fun x1 =>
      some (.inr (.inl (x1, true)))
    else
      some (.inl (t.1, w64 (t.2 + 1)))
  else
    some (.inr (.inr (t.1)))
theorem le_dispatchref10_Find_l1 (s : State) (id_ : Int) (t : App × Int) : Lo (c_dispatchref10_Find_l1 s id_ t) (dispatchref10_Find_l1 s id_ t) := by
  unfold c_dispatchref10_Find_l1 dispatchref10_Find_l1
  repeat' (first | with_reducible refine lo_bind4 ?_ ?_ ?_ ?_ ?_ | with_reducible refine lo_bind3 ?_ ?_ ?_ ?_ | with_reducible refine lo_bind2 ?_ ?_ ?_ | with_reducible refine lo_bind ?_ ?_ | with_reducible refine lo_cond ?_ ?_ | with_reducible refine lo_iter ?_ _ | (intro _) | with_reducible exact lo_refl _ | exact lo_none | (dsimp only))
def c_dispatchref10_Find (s : State) (id_ : Int) : Option (App × Bool) :=
  (itr 4096 (c_dispatchref10_Find_l1 s id_) ((⟨0, 0, [], 0, 0, ⟨0, 0⟩, [], 0, 0, [], [], [], []⟩ : App), 0)).bind fun q0 =>
  match q0 with
  | .inl q =>
    some (q.1, q.2)
  | .inr q1 =>
    some ((⟨0, 0, [], 0, 0, ⟨0, 0⟩, [], 0, 0, [], [], [], []⟩ : App), false)
theorem le_dispatchref10_Find (s : State) (id_ : Int) : Lo (c_dispatchref10_Find s id_) (dispatchref10_Find s id_) := by
  unfold c_dispatchref10_Find dispatchref10_Find
  repeat' (first | with_reducible exact le_dispatchref10_Find_l1 _ _ _ | with_reducible refine lo_bind4 ?_ ?_ ?_ ?_ ?_ | with_reducible refine lo_bind3 ?_ ?_ ?_ ?_ | with_reducible refine lo_bind2 ?_ ?_ ?_ | with_reducible refine lo_bind ?_ ?_ | with_reducible refine lo_cond ?_ ?_ | with_reducible refine lo_iter ?_ _ | (intro _) | with_reducible exact lo_refl _ | exact lo_none | (dsimp only))
def c_dispatchref8_Find_l1 (s : State) (id_ : Int) (t : Node × Int) : Option ((Node × Int) ⊕ ((Node × Bool) ⊕ Node)) :=
  bif decide (t.2 < (s.Nodes.length : Int)) then
    (idx s.Nodes t.2).bind fun x =>
    bif x.Id == id_ then
      (idx s.Nodes t.2).bind fun x1 =>
      some (.inr (.inl (x1, true)))
    else
      some (.inl (t.1, w64 (t.2 + 1)))
  else
    some (.inr (.inr (t.1)))
theorem le_dispatchref8_Find_l1 (s : State) (id_ : Int) (t : Node × Int) : Lo (c_dispatchref8_Find_l1 s id_ t) (dispatchref8_Find_l1 s id_ t) := by
  unfold c_dispatchref8_Find_l1 dispatchref8_Find_l1
  repeat' (first | with_reducible refine lo_bind4 ?_ ?_ ?_ ?_ ?_ | with_reducible refine lo_bind3 ?_ ?_ ?_ ?_ | with_reducible refine lo_bind2 ?_ ?_ ?_ | with_reducible refine lo_bind ?_ ?_ | with_reducible refine lo_cond ?_ ?_ | with_reducible refine lo_iter ?_ _ | (intro _) | with_reducible exact lo_refl _ | exact lo_none | (dsimp only))
def c_dispatchref8_Find (s : State) (id_ : Int) : Option (Node × Bool) :=
  (itr 4096 (c_dispatchref8_Find_l1 s id_) ((⟨0, 0, 0, ⟨0, 0⟩, 0, 0, false⟩ : Node), 0)).bind fun q0 =>
  match q0 with
  | .inl q =>
    some (q.1, q.2)
  | .inr q1 =>
    some ((⟨0, 0, 0, ⟨0, 0⟩, 0, 0, false⟩ : Node), false)
theorem le_dispatchref8_Find (s : State) (id_ : Int) : Lo (c_dispatchref8_Find s id_) (dispatchref8_Find s id_) := by
  unfold c_dispatchref8_Find dispatchref8_Find
  repeat' (first | with_reducible exact le_dispatchref8_Find_l1 _ _ _ | with_reducible refine lo_bind4 ?_ ?_ ?_ ?_ ?_ | with_reducible refine lo_bind3 ?_ ?_ ?_ ?_ | with_reducible refine lo_bind2 ?_ ?_ ?_ | with_reducible refine lo_bind ?_ ?_ | with_reducible refine lo_cond ?_ ?_ | with_reducible refine lo_iter ?_ _ | (intro _) | with_reducible exact lo_refl _ | exact lo_none | (dsimp only))
def c_dispatchref10_Live (a : App) : Option Bool :=
  bif a.State == 1 then
    some true
  else
    some (a.State == 2)
theorem le_dispatchref10_Live (a : App) : Lo (c_dispatchref10_Live a) (dispatchref10_Live a) := by
  unfold c_dispatchref10_Live dispatchref10_Live
  repeat' (first | with_reducible refine lo_bind4 ?_ ?_ ?_ ?_ ?_ | with_reducible refine lo_bind3 ?_ ?_ ?_ ?_ | with_reducible refine lo_bind2 ?_ ?_ ?_ | with_reducible refine lo_bind ?_ ?_ | with_reducible refine lo_cond ?_ ?_ | with_reducible refine lo_iter ?_ _ | (intro _) | with_reducible exact lo_refl _ | exact lo_none | (dsimp only))
def c_dispatchref19_masters_l1 (s : State) (app_ : Int) (t : Int × Int × Int) : Option ((Int × Int × Int) ⊕ ((Int × Int))) :=
  bif decide (t.2.2 < (s.Conts.length : Int)) then
    (
      (idx s.Conts t.2.2).bind fun x =>
      bif x.App == app_ then
        (idx s.Conts t.2.2).bind fun x1 =>
        bif x1.Master then
          some (w64 (t.1 + 1), w64 (t.2.1 + 1))
        else
          some (t.1, w64 (t.2.1 + 1))
      else
        some (t.1, t.2.1)).bind fun q =>
    some (.inl (q.1, q.2, w64 (t.2.2 + 1)))
  else
    some (.inr (t.1, t.2.1))
theorem le_dispatchref19_masters_l1 (s : State) (app_ : Int) (t : Int × Int × Int) : Lo (c_dispatchref19_masters_l1 s app_ t) (dispatchref19_masters_l1 s app_ t) := by
  unfold c_dispatchref19_masters_l1 dispatchref19_masters_l1
  repeat' (first | with_reducible refine lo_bind4 ?_ ?_ ?_ ?_ ?_ | with_reducible refine lo_bind3 ?_ ?_ ?_ ?_ | with_reducible refine lo_bind2 ?_ ?_ ?_ | with_reducible refine lo_bind ?_ ?_ | with_reducible refine lo_cond ?_ ?_ | with_reducible refine lo_iter ?_ _ | (intro _) | with_reducible exact lo_refl _ | exact lo_none | (dsimp only))
def c_dispatchref19_masters (s : State) (app_ : Int) : Option (Int × Int) :=
  (itr 4096 (c_dispatchref19_masters_l1 s app_) (0, 0, 0)).bind fun q1 =>
  some (q1.1, q1.2)
theorem le_dispatchref19_masters (s : State) (app_ : Int) : Lo (c_dispatchref19_masters s app_) (dispatchref19_masters s app_) := by
  unfold c_dispatchref19_masters dispatchref19_masters
  repeat' (first | with_reducible exact le_dispatchref19_masters_l1 _ _ _ | with_reducible refine lo_bind4 ?_ ?_ ?_ ?_ ?_ | with_reducible refine lo_bind3 ?_ ?_ ?_ ?_ | with_reducible refine lo_bind2 ?_ ?_ ?_ | with_reducible refine lo_bind ?_ ?_ | with_reducible refine lo_cond ?_ ?_ | with_reducible refine lo_iter ?_ _ | (intro _) | with_reducible exact lo_refl _ | exact lo_none | (dsimp only))
def c_dispatchref6_Leaf (c : Conf) (path : List UInt8) : Option Bool :=
  (c_dispatchref6_Find c path).bind fun x =>
  bif x.2 then
    (c_dispatchref6_Kids c path).bind fun x1 =>
    some ((x1.length : Int) == 0)
  else
    some false
theorem le_dispatchref6_Leaf (c : Conf) (path : List UInt8) : Lo (c_dispatchref6_Leaf c path) (dispatchref6_Leaf c path) := by
  unfold c_dispatchref6_Leaf dispatchref6_Leaf
  repeat' (first | with_reducible exact le_dispatchref6_Find _ _ | with_reducible exact le_dispatchref6_Kids _ _ | with_reducible refine lo_bind4 ?_ ?_ ?_ ?_ ?_ | with_reducible refine lo_bind3 ?_ ?_ ?_ ?_ | with_reducible refine lo_bind2 ?_ ?_ ?_ | with_reducible refine lo_bind ?_ ?_ | with_reducible refine lo_cond ?_ ?_ | with_reducible refine lo_iter ?_ _ | (intro _) | with_reducible exact lo_refl _ | exact lo_none | (dsimp only))
def c_dispatchref19_Sound_l3 (s : State) (i2 : Int) : Option (Int ⊕ (Bool ⊕ Unit)) :=
  bif decide (i2 < (s.Slots.length : Int)) then
    (idx s.Slots i2).bind fun x18 =>
    (c_dispatchref8_Find s x18.Node).bind fun x19 =>
    (
      bif ! x19.2 then
        some true
      else
        some (! x19.1.Up)).bind fun q5 =>
    bif q5 then
      some (.inr (.inl false))
    else
      some (.inl (w64 (i2 + 1)))
  else
    some (.inr (.inr ()))
theorem le_dispatchref19_Sound_l3 (s : State) (i2 : Int) : Lo (c_dispatchref19_Sound_l3 s i2) (dispatchref19_Sound_l3 s i2) := by
  unfold c_dispatchref19_Sound_l3 dispatchref19_Sound_l3
  repeat' (first | with_reducible exact le_dispatchref8_Find _ _ | with_reducible refine lo_bind4 ?_ ?_ ?_ ?_ ?_ | with_reducible refine lo_bind3 ?_ ?_ ?_ ?_ | with_reducible refine lo_bind2 ?_ ?_ ?_ | with_reducible refine lo_bind ?_ ?_ | with_reducible refine lo_cond ?_ ?_ | with_reducible refine lo_iter ?_ _ | (intro _) | with_reducible exact lo_refl _ | exact lo_none | (dsimp only))
def c_dispatchref19_Sound_l2 (s : State) (i1 : Int) : Option (Int ⊕ (Bool ⊕ Unit)) :=
  bif decide (i1 < (s.Apps.length : Int)) then
    (idx s.Apps i1).bind fun x8 =>
    (c_dispatchref19_masters s x8.Id).bind fun x9 =>
    (
      bif x8.State == 2 then
        bif x9.1 != 1 then
          some true
        else
          bif x8.State == 1 then
            bif x9.2 != 0 then
              some true
            else
              (c_dispatchref10_Live x8).bind fun x10 =>
              bif x10 then
                (c_dispatchref6_Leaf s.Conf x8.Queue).bind fun x11 =>
                some (! x11)
              else
                some false
          else
            (c_dispatchref10_Live x8).bind fun x12 =>
            bif x12 then
              (c_dispatchref6_Leaf s.Conf x8.Queue).bind fun x13 =>
              some (! x13)
            else
              some false
      else
        bif x8.State == 1 then
          bif x9.2 != 0 then
            some true
          else
            (c_dispatchref10_Live x8).bind fun x14 =>
            bif x14 then
              (c_dispatchref6_Leaf s.Conf x8.Queue).bind fun x15 =>
              some (! x15)
            else
              some false
        else
          (c_dispatchref10_Live x8).bind fun x16 =>
          bif x16 then
            (c_dispatchref6_Leaf s.Conf x8.Queue).bind fun x17 =>
            some (! x17)
          else
            some false).bind fun q3 =>
    bif q3 then
      some (.inr (.inl false))
    else
      some (.inl (w64 (i1 + 1)))
  else
    some (.inr (.inr ()))
theorem le_dispatchref19_Sound_l2 (s : State) (i1 : Int) : Lo (c_dispatchref19_Sound_l2 s i1) (dispatchref19_Sound_l2 s i1) := by
  unfold c_dispatchref19_Sound_l2 dispatchref19_Sound_l2
  repeat' (first | with_reducible exact le_dispatchref19_masters _ _ | with_reducible exact le_dispatchref10_Live _ | with_reducible exact le_dispatchref6_Leaf _ _ | with_reducible refine lo_bind4 ?_ ?_ ?_ ?_ ?_ | with_reducible refine lo_bind3 ?_ ?_ ?_ ?_ | with_reducible refine lo_bind2 ?_ ?_ ?_ | with_reducible refine lo_bind ?_ ?_ | with_reducible refine lo_cond ?_ ?_ | with_reducible refine lo_iter ?_ _ | (intro _) | with_reducible exact lo_refl _ | exact lo_none | (dsimp only))
def c_dispatchref19_Sound_l1 (s : State) (i : Int) : Option (Int ⊕ (Bool ⊕ Unit)) :=
  bif decide (i < (s.Conts.length : Int)) then
    (idx s.Conts i).bind fun x4 =>
    (c_dispatchref10_Find s x4.App).bind fun x5 =>
    (c_dispatchref8_Find s x4.Node).bind fun x6 =>
    (
      bif ! x5.2 then
        some true
      else
        (c_dispatchref10_Live x5.1).bind fun x7 =>
        bif ! x7 then
          some true
        else
          bif ! x6.2 then
            some true
          else
            bif ! x6.1.Up then
              some true
            else
              bif x6.1.Label != x4.Label then
                some true
              else
                bif decide (x4.Notice < 0) then
                  some true
                else
                  some (decide (x4.Notice > (imax s.Now 1)))).bind fun q1 =>
    bif q1 then
      some (.inr (.inl false))
    else
      some (.inl (w64 (i + 1)))
  else
    some (.inr (.inr ()))
theorem le_dispatchref19_Sound_l1 (s : State) (i : Int) : Lo (c_dispatchref19_Sound_l1 s i) (dispatchref19_Sound_l1 s i) := by
  unfold c_dispatchref19_Sound_l1 dispatchref19_Sound_l1
  repeat' (first | with_reducible exact le_dispatchref10_Find _ _ | with_reducible exact le_dispatchref8_Find _ _ | with_reducible exact le_dispatchref10_Live _ | with_reducible refine lo_bind4 ?_ ?_ ?_ ?_ ?_ | with_reducible refine lo_bind3 ?_ ?_ ?_ ?_ | with_reducible refine lo_bind2 ?_ ?_ ?_ | with_reducible refine lo_bind ?_ ?_ | with_reducible refine lo_cond ?_ ?_ | with_reducible refine lo_iter ?_ _ | (intro _) | with_reducible exact lo_refl _ | exact lo_none | (dsimp only))
def c_dispatchref19_Sound (s : State) : Option Bool :=
  (
    (c_dispatchref6_Check s.Conf).bind fun x =>
    bif x != 0 then
      some true
    else
      (c_dispatchref19_vecs s).bind fun x1 =>
      bif ! x1 then
        some true
      else
        (c_dispatchref19_orders s).bind fun x2 =>
        bif ! x2 then
          some true
        else
          (c_dispatchref19_fit s).bind fun x3 =>
          some (! x3)).bind fun q =>
  bif q then
    some false
  else
    (itr 4096 (c_dispatchref19_Sound_l1 s) 0).bind fun q0 =>
    match q0 with
    | .inl q2 =>
      some q2
    | .inr _ =>
      (itr 4096 (c_dispatchref19_Sound_l2 s) 0).bind fun q0 =>
      match q0 with
      | .inl q4 =>
        some q4
      | .inr _ =>
        (itr 4096 (c_dispatchref19_Sound_l3 s) 0).bind fun q0 =>
        match q0 with
        | .inl q6 =>
          some q6
        | .inr _ =>
          some true
theorem le_dispatchref19_Sound (s : State) : Lo (c_dispatchref19_Sound s) (dispatchref19_Sound s) := by
  unfold c_dispatchref19_Sound dispatchref19_Sound
  repeat' (first | with_reducible exact le_dispatchref6_Check _ | with_reducible exact le_dispatchref19_vecs _ | with_reducible exact le_dispatchref19_orders _ | with_reducible exact le_dispatchref19_fit _ | with_reducible exact le_dispatchref19_Sound_l1 _ _ | with_reducible exact le_dispatchref19_Sound_l2 _ _ | with_reducible exact le_dispatchref19_Sound_l3 _ _ | with_reducible refine lo_bind4 ?_ ?_ ?_ ?_ ?_ | with_reducible refine lo_bind3 ?_ ?_ ?_ ?_ | with_reducible refine lo_bind2 ?_ ?_ ?_ | with_reducible refine lo_bind ?_ ?_ | with_reducible refine lo_cond ?_ ?_ | with_reducible refine lo_iter ?_ _ | (intro _) | with_reducible exact lo_refl _ | exact lo_none | (dsimp only))
def c_dispatchlaw12_OrderRatios_l3 (n : Int) (q2 : State × List Int × List Int) (l3 : List (List UInt8)) (k : Int) : Option (Int ⊕ (Bool ⊕ Unit)) :=
  bif decide (k < n) then
    (inb (w64 (k - 1)) l3.length).bind fun i7 =>
    (l3[i7]?).bind fun x14 =>
    (idx x14 5).bind fun ch =>
    (inb k l3.length).bind fun i8 =>
    (l3[i8]?).bind fun x15 =>
    (idx x15 5).bind fun ch1 =>
    let i9 := w64 (IntKind.u8.wrap ((ch.toNat : Int) - 97))
    let j := w64 (IntKind.u8.wrap ((ch1.toNat : Int) - 97))
    (inb i9 4).bind fun i10 =>
    (q2.2.1[i10]?).bind fun x16 =>
    (inb j 4).bind fun i11 =>
    (q2.2.2[i11]?).bind fun x17 =>
    (inb j 4).bind fun i12 =>
    (q2.2.1[i12]?).bind fun x18 =>
    (inb i9 4).bind fun i13 =>
    (q2.2.2[i13]?).bind fun x19 =>
    (
      (
        (inb i9 4).bind fun i14 =>
        (q2.2.1[i14]?).bind fun x20 =>
        bif x20 == 0 then
          some true
        else
          (inb j 4).bind fun i15 =>
          (q2.2.1[i15]?).bind fun x21 =>
          some (x21 == 0)).bind fun q4 =>
      bif q4 then
        (inb i9 4).bind fun i16 =>
        (q2.2.1[i16]?).bind fun x22 =>
        (inb j 4).bind fun i17 =>
        (q2.2.1[i17]?).bind fun x23 =>
        some (imin x22 1, imin x23 1)
      else
        (
          (inb i9 4).bind fun i18 =>
          (q2.2.2[i18]?).bind fun x24 =>
          bif x24 == 0 then
            some true
          else
            (inb j 4).bind fun i19 =>
            (q2.2.2[i19]?).bind fun x25 =>
            some (x25 == 0)).bind fun q5 =>
        bif q5 then
          (inb i9 4).bind fun i20 =>
          (q2.2.2[i20]?).bind fun x26 =>
          (inb j 4).bind fun i21 =>
          (q2.2.2[i21]?).bind fun x27 =>
          let a := w64 (1 - (imin x26 1))
          let b := w64 (1 - (imin x27 1))
          some (a, b)
        else
          some (w64 (x16 * x17), w64 (x18 * x19))).bind fun q6 =>
    (
      bif decide (q6.1 > q6.2) then
        some true
      else
        bif q6.1 == q6.2 then
          some (decide (i9 > j))
        else
          some false).bind fun q7 =>
    bif q7 then
      some (.inr (.inl false))
    else
      some (.inl (w64 (k + 1)))
  else
    some (.inr (.inr ()))
theorem le_dispatchlaw12_OrderRatios_l3 (n : Int) (q2 : State × List Int × List Int) (l3 : List (List UInt8)) (k : Int) : Lo (c_dispatchlaw12_OrderRatios_l3 n q2 l3 k) (dispatchlaw12_OrderRatios_l3 n q2 l3 k) := by
  unfold c_dispatchlaw12_OrderRatios_l3 dispatchlaw12_OrderRatios_l3
  repeat' (first | with_reducible refine lo_bind4 ?_ ?_ ?_ ?_ ?_ | with_reducible refine lo_bind3 ?_ ?_ ?_ ?_ | with_reducible refine lo_bind2 ?_ ?_ ?_ | with_reducible refine lo_bind ?_ ?_ | with_reducible refine lo_cond ?_ ?_ | with_reducible refine lo_iter ?_ _ | (intro _) | with_reducible exact lo_refl _ | exact lo_none | (dsimp only))
def c_dispatchlaw12_OrderRatios_l2 (t : State × Int × List Int × List Int × Int × Int) (x8 : Int) (i3 : Nat) (t1 : State × Int × Int) : Option ((State × Int × Int) ⊕ ((State × Int))) :=
  (inb t.2.2.2.2.2 4).bind fun i6 =>
  ((List.set t.2.2.1 i3 x8)[i6]?).bind fun x12 =>
  bif decide (t1.2.2 < x12) then
    (app 72 t1.1.Conts [(⟨w64 (t1.2.1 + 1), t.2.2.2.2.2, 1, ⟨1, 1⟩, 0, 0, t1.2.2 == 0, 0⟩ : Cont)]).bind fun l2 =>
    some (.inl ((⟨⟨t1.1.Conf.Labels, t1.1.Conf.Queues⟩, t1.1.Nodes, t1.1.Apps, l2, t1.1.Slots, t1.1.Plans, t1.1.Now, t1.1.Epoch, t1.1.Seq⟩ : State), w64 (t1.2.1 + 1), w64 (t1.2.2 + 1)))
  else
    some (.inr (t1.1, t1.2.1))
theorem le_dispatchlaw12_OrderRatios_l2 (t : State × Int × List Int × List Int × Int × Int) (x8 : Int) (i3 : Nat) (t1 : State × Int × Int) : Lo (c_dispatchlaw12_OrderRatios_l2 t x8 i3 t1) (dispatchlaw12_OrderRatios_l2 t x8 i3 t1) := by
  unfold c_dispatchlaw12_OrderRatios_l2 dispatchlaw12_OrderRatios_l2
  repeat' (first | with_reducible refine lo_bind4 ?_ ?_ ?_ ?_ ?_ | with_reducible refine lo_bind3 ?_ ?_ ?_ ?_ | with_reducible refine lo_bind2 ?_ ?_ ?_ | with_reducible refine lo_bind ?_ ?_ | with_reducible refine lo_cond ?_ ?_ | with_reducible refine lo_iter ?_ _ | (intro _) | with_reducible exact lo_refl _ | exact lo_none | (dsimp only))
def c_dispatchlaw12_OrderRatios_l1 (used : List Int) (least : List Int) (n : Int) (t : State × Int × List Int × List Int × Int × Int) : Option ((State × Int × List Int × List Int × Int × Int) ⊕ ((State × List Int × List Int))) :=
  bif decide (t.2.2.2.2.2 < n) then
    (
      (inb t.2.2.2.2.2 4).bind fun i =>
      (t.2.2.2.1[i]?).bind fun x2 =>
      (
        bif decide (t.2.2.2.2.2 < (w64 (n - 1))) then
          (idx least t.2.2.2.2.2).bind fun x3 =>
          (c_dispatchlaw12_within x3 (w64 ((w64 (Int.tdiv t.2.1 100)) + 1))).bind fun x4 =>
          (inb t.2.2.2.2.2 4).bind fun i1 =>
          ((List.set t.2.2.2.1 i t.2.1)[i1]?).bind fun x5 =>
          some (List.set (List.set t.2.2.2.1 i t.2.1) i1 (w64 (x4 * 100)))
        else
          some (List.set t.2.2.2.1 i t.2.1)).bind fun g =>
      (inb t.2.2.2.2.2 4).bind fun i2 =>
      (g[i2]?).bind fun x6 =>
      (idx used t.2.2.2.2.2).bind fun x7 =>
      (c_dispatchlaw12_within x7 20).bind fun x8 =>
      (inb t.2.2.2.2.2 4).bind fun i3 =>
      (t.2.2.1[i3]?).bind fun x9 =>
      (cat ([114, 111, 111, 116, 46] : List UInt8) (List.map toB [IntKind.u8.wrap (w64 (97 + t.2.2.2.2.2))])).bind fun s =>
      (inb t.2.2.2.2.2 4).bind fun i4 =>
      (g[i4]?).bind fun x10 =>
      (app 48 t.1.Conf.Queues [(⟨s, [(⟨x10, 10000⟩ : Cap)], 1⟩ : Queue)]).bind fun l =>
      (inb t.2.2.2.2.2 4).bind fun i5 =>
      ((List.set t.2.2.1 i3 x8)[i5]?).bind fun x11 =>
      bif x11 == 0 then
        some ((⟨⟨t.1.Conf.Labels, l⟩, t.1.Nodes, t.1.Apps, t.1.Conts, t.1.Slots, t.1.Plans, t.1.Now, t.1.Epoch, t.1.Seq⟩ : State), w64 (t.2.1 - x6), List.set t.2.2.1 i3 x8, g, t.2.2.2.2.1)
      else
        (app 200 t.1.Apps [(⟨t.2.2.2.2.2, 2, s, 0, 0, ⟨1, 1⟩, [], 0, 0, [], [], [], []⟩ : App)]).bind fun l1 =>
        (itr 4096 (c_dispatchlaw12_OrderRatios_l2 t x8 i3) ((⟨⟨t.1.Conf.Labels, l⟩, t.1.Nodes, l1, t.1.Conts, t.1.Slots, t.1.Plans, t.1.Now, t.1.Epoch, t.1.Seq⟩ : State), t.2.2.2.2.1, 0)).bind fun q =>
        some (q.1, w64 (t.2.1 - x6), List.set t.2.2.1 i3 x8, g, q.2)).bind fun q1 =>
    some (.inl (q1.1, q1.2.1, q1.2.2.1, q1.2.2.2.1, q1.2.2.2.2, w64 (t.2.2.2.2.2 + 1)))
  else
    some (.inr (t.1, t.2.2.1, t.2.2.2.1))
theorem le_dispatchlaw12_OrderRatios_l1 (used : List Int) (least : List Int) (n : Int) (t : State × Int × List Int × List Int × Int × Int) : Lo (c_dispatchlaw12_OrderRatios_l1 used least n t) (dispatchlaw12_OrderRatios_l1 used least n t) := by
  unfold c_dispatchlaw12_OrderRatios_l1 dispatchlaw12_OrderRatios_l1
  repeat' (first | with_reducible exact le_dispatchlaw12_within _ _ | with_reducible exact le_dispatchlaw12_OrderRatios_l2 _ _ _ _ | with_reducible refine lo_bind4 ?_ ?_ ?_ ?_ ?_ | with_reducible refine lo_bind3 ?_ ?_ ?_ ?_ | with_reducible refine lo_bind2 ?_ ?_ ?_ | with_reducible refine lo_bind ?_ ?_ | with_reducible refine lo_cond ?_ ?_ | with_reducible refine lo_iter ?_ _ | (intro _) | with_reducible exact lo_refl _ | exact lo_none | (dsimp only))
def c_dispatchlaw12_OrderRatios (used : List Int) (least : List Int) : Option Bool :=
  (c_dispatchlaw12_known).bind fun x =>
  bif ! x then
    some false
  else
    let n := imin (imin (used.length : Int) (least.length : Int)) 4
    bif decide (n < 2) then
      some true
    else
      (c_dispatchref19_New).bind fun x1 =>
      (itr 4096 (c_dispatchlaw12_OrderRatios_l1 used least n) ((⟨⟨x1.Conf.Labels, x1.Conf.Queues⟩, [(⟨1, 0, 0, ⟨100, 100⟩, 0, 0, true⟩ : Node)], x1.Apps, x1.Conts, x1.Slots, x1.Plans, x1.Now, x1.Epoch, x1.Seq⟩ : State), 10000, [0, 0, 0, 0], [0, 0, 0, 0], 0, 0)).bind fun q2 =>
      (c_order_Kids q2.1 ([114, 111, 111, 116] : List UInt8) 0).bind fun l3 =>
      (
        (c_dispatchref19_Sound q2.1).bind fun x13 =>
        bif ! x13 then
          some true
        else
          some ((l3.length : Int) != n)).bind fun q3 =>
      bif q3 then
        some false
      else
        (itr 4096 (c_dispatchlaw12_OrderRatios_l3 n q2 l3) 1).bind fun q0 =>
        match q0 with
        | .inl q8 =>
          some q8
        | .inr _ =>
          some true
theorem le_dispatchlaw12_OrderRatios (used : List Int) (least : List Int) : Lo (c_dispatchlaw12_OrderRatios used least) (dispatchlaw12_OrderRatios used least) := by
  unfold c_dispatchlaw12_OrderRatios dispatchlaw12_OrderRatios
  repeat' (first | with_reducible exact le_dispatchlaw12_known  | with_reducible exact le_dispatchref19_New  | with_reducible exact le_dispatchlaw12_OrderRatios_l1 _ _ _ _ | with_reducible exact le_order_Kids _ _ _ | with_reducible exact le_dispatchref19_Sound _ | with_reducible exact le_dispatchlaw12_OrderRatios_l3 _ _ _ _ | with_reducible refine lo_bind4 ?_ ?_ ?_ ?_ ?_ | with_reducible refine lo_bind3 ?_ ?_ ?_ ?_ | with_reducible refine lo_bind2 ?_ ?_ ?_ | with_reducible refine lo_bind ?_ ?_ | with_reducible refine lo_cond ?_ ?_ | with_reducible refine lo_iter ?_ _ | (intro _) | with_reducible exact lo_refl _ | exact lo_none | (dsimp only))
end Go.Fx.D
