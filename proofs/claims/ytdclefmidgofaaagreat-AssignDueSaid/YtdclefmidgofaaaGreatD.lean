/-
  The functions of the program that these laws reach, as functions over plain data (printed by a program). Conditions: none.
-/
import Derived.Test.YtdclefmidgofaaaGreatFxC
import Derived.Test.YtdclefmidgofaaaGreatA
namespace Go.Fx.D
open Go Go.Fx Go.Proofs
set_option linter.unusedVariables false
noncomputable section

def slices_Clone___string_string__ne (s : List (List UInt8)) : Option (List (List UInt8)) :=
  bif s.isEmpty then
    none
  else
    (app 16 [] s).bind fun l =>
    some l

def slices_Clone___string_string_ (s : List (List UInt8)) : Option (List (List UInt8)) := app 16 [] s
def h70 : Hint := .z
noncomputable def sp70 : Spec fam := ⟨[.v (.slice (.str)) []], [.v (.slice (.str)) [0]], fun a => slices_Clone___string_string_ a.1⟩

noncomputable def sp70_ne : Spec fam := ⟨[.v (.slice (.str)) []], [.v (.slice (.str)) [0]], fun a => slices_Clone___string_string__ne a.1⟩

def api_Queue__ne (s : List Queue) : Option (List Queue) :=
  bif s.isEmpty then
    none
  else
    (app 48 [] s).bind fun l =>
    some l

def api_Queue_ (s : List Queue) : Option (List Queue) := app 48 [] s
def h71 : Hint := .z
noncomputable def sp71 : Spec fam := ⟨[.v (.slice (.st 1)) []], [.v (.slice (.st 1)) [0]], fun a => api_Queue_ a.1⟩

noncomputable def sp71_ne : Spec fam := ⟨[.v (.slice (.st 1)) []], [.v (.slice (.st 1)) [0]], fun a => api_Queue__ne a.1⟩

def api_Cap__ne (s : List Cap) : Option (List Cap) :=
  bif s.isEmpty then
    none
  else
    (app 16 [] s).bind fun l =>
    some l

def api_Cap_ (s : List Cap) : Option (List Cap) := app 16 [] s
def h72 : Hint := .z
noncomputable def sp72 : Spec fam := ⟨[.v (.slice (.st 0)) []], [.v (.slice (.st 0)) [0]], fun a => api_Cap_ a.1⟩

noncomputable def sp72_ne : Spec fam := ⟨[.v (.slice (.st 0)) []], [.v (.slice (.st 0)) [0]], fun a => api_Cap__ne a.1⟩

def api_Node__ne (s : List Node) : Option (List Node) :=
  bif s.isEmpty then
    none
  else
    (app 64 [] s).bind fun l =>
    some l

def api_Node_ (s : List Node) : Option (List Node) := app 64 [] s
def h73 : Hint := .z
noncomputable def sp73 : Spec fam := ⟨[.v (.slice (.st 3)) []], [.v (.slice (.st 3)) [0]], fun a => api_Node_ a.1⟩

noncomputable def sp73_ne : Spec fam := ⟨[.v (.slice (.st 3)) []], [.v (.slice (.st 3)) [0]], fun a => api_Node__ne a.1⟩

def api_Cont__ne (s : List Cont) : Option (List Cont) :=
  bif s.isEmpty then
    none
  else
    (app 72 [] s).bind fun l =>
    some l

def api_Cont_ (s : List Cont) : Option (List Cont) := app 72 [] s
def h74 : Hint := .z
noncomputable def sp74 : Spec fam := ⟨[.v (.slice (.st 4)) []], [.v (.slice (.st 4)) [0]], fun a => api_Cont_ a.1⟩

noncomputable def sp74_ne : Spec fam := ⟨[.v (.slice (.st 4)) []], [.v (.slice (.st 4)) [0]], fun a => api_Cont__ne a.1⟩

def api_Slot__ne (s : List Slot) : Option (List Slot) :=
  bif s.isEmpty then
    none
  else
    (app 24 [] s).bind fun l =>
    some l

def api_Slot_ (s : List Slot) : Option (List Slot) := app 24 [] s
def h75 : Hint := .z
noncomputable def sp75 : Spec fam := ⟨[.v (.slice (.st 5)) []], [.v (.slice (.st 5)) [0]], fun a => api_Slot_ a.1⟩

noncomputable def sp75_ne : Spec fam := ⟨[.v (.slice (.st 5)) []], [.v (.slice (.st 5)) [0]], fun a => api_Slot__ne a.1⟩

def api_Plan__ne (s : List Plan) : Option (List Plan) :=
  bif s.isEmpty then
    none
  else
    (app 48 [] s).bind fun l =>
    some l

def api_Plan_ (s : List Plan) : Option (List Plan) := app 48 [] s
def h76 : Hint := .z
noncomputable def sp76 : Spec fam := ⟨[.v (.slice (.st 6)) []], [.v (.slice (.st 6)) [0]], fun a => api_Plan_ a.1⟩

noncomputable def sp76_ne : Spec fam := ⟨[.v (.slice (.st 6)) []], [.v (.slice (.st 6)) [0]], fun a => api_Plan__ne a.1⟩

def api_App__ne (s : List App) : Option (List App) :=
  bif s.isEmpty then
    none
  else
    (app 200 [] s).bind fun l =>
    some l

def api_App_ (s : List App) : Option (List App) := app 200 [] s
def h77 : Hint := .z
noncomputable def sp77 : Spec fam := ⟨[.v (.slice (.st 8)) []], [.v (.slice (.st 8)) [0]], fun a => api_App_ a.1⟩

noncomputable def sp77_ne : Spec fam := ⟨[.v (.slice (.st 8)) []], [.v (.slice (.st 8)) [0]], fun a => api_App__ne a.1⟩

def api_Ask__ne (s : List Ask) : Option (List Ask) :=
  bif s.isEmpty then
    none
  else
    (app 64 [] s).bind fun l =>
    some l

def api_Ask_ (s : List Ask) : Option (List Ask) := app 64 [] s
def h98 : Hint := .z
noncomputable def sp98 : Spec fam := ⟨[.v (.slice (.st 7)) []], [.v (.slice (.st 7)) [0]], fun a => api_Ask_ a.1⟩

noncomputable def sp98_ne : Spec fam := ⟨[.v (.slice (.st 7)) []], [.v (.slice (.st 7)) [0]], fun a => api_Ask__ne a.1⟩

def apps_ints (l : List Int) : Option (List Int) :=
  (mkl 8 (l.length : Int) (l.length : Int) 0).bind fun l1 =>
  some (cpy l1 0 l1.length l)
def h102 : Hint := .z
noncomputable def sp102 : Spec fam := ⟨[.v (.slice (.int .i64)) []], [.v (.slice (.int .i64)) [0]], fun a => apps_ints a.1⟩

def apps_app (a : App) : Option App :=
  (api_Ask_ a.Asks).bind fun x =>
  (apps_ints a.Grants).bind fun x1 =>
  (apps_ints a.Kills).bind fun x2 =>
  (apps_ints a.Told).bind fun x3 =>
  (apps_ints a.Lost).bind fun x4 =>
  some (⟨a.Id, a.State, a.Queue, a.User, a.Prio, ⟨a.Master.Mem, a.Master.Cores⟩, x, a.Seen, a.Beat, x1, x2, x3, x4⟩ : App)
def h78 : Hint := .z
noncomputable def sp78 : Spec fam := ⟨[.v (.st 8) []], [.v (.st 8) [7, 10, 11, 12, 13]], fun a => apps_app a.1⟩

def apps_own_l2 (x9 : List App) (t1 : List App × Int) : Option ((List App × Int) ⊕ List App) :=
  bif decide (t1.2 < (x9.length : Int)) then
    (inb t1.2 t1.1.length).bind fun i2 =>
    (t1.1[i2]?).bind fun x10 =>
    (apps_app x10).bind fun x11 =>
    (inb t1.2 t1.1.length).bind fun i3 =>
    (t1.1[i3]?).bind fun x12 =>
    some (.inl (List.set t1.1 i3 x11, w64 (t1.2 + 1)))
  else
    some (.inr t1.1)

def apps_own_l1 (x1 : List Queue) (t : List Queue × Int) : Option ((List Queue × Int) ⊕ List Queue) :=
  bif decide (t.2 < (x1.length : Int)) then
    (inb t.2 t.1.length).bind fun i =>
    (t.1[i]?).bind fun x2 =>
    (api_Cap_ x2.Caps).bind fun x3 =>
    (inb t.2 t.1.length).bind fun i1 =>
    (t.1[i1]?).bind fun x4 =>
    some (.inl (List.set t.1 i1 (⟨x4.Path, x3, x4.User⟩ : Queue), w64 (t.2 + 1)))
  else
    some (.inr t.1)

def apps_own (s : State) : Option State :=
  (slices_Clone___string_string_ s.Conf.Labels).bind fun x =>
  (api_Queue_ s.Conf.Queues).bind fun x1 =>
  (loop (apps_own_l1 x1) (x1, 0)).bind fun q =>
  (api_Node_ s.Nodes).bind fun x5 =>
  (api_Cont_ s.Conts).bind fun x6 =>
  (api_Slot_ s.Slots).bind fun x7 =>
  (api_Plan_ s.Plans).bind fun x8 =>
  (api_App_ s.Apps).bind fun x9 =>
  (loop (apps_own_l2 x9) (x9, 0)).bind fun q1 =>
  some (⟨⟨x, q⟩, x5, q1, x6, x7, x8, s.Now, s.Epoch, s.Seq⟩ : State)
def h42 : Hint := (.s .z (.s .z (.s (.s .z (.b (.l [(14, .row (.st 1) false), (23, .v (.int .i64) [])] [3, 4, 14, 23, 24, 25, 26, 27, 28, 29, 30, 31, 32, 33, 34, 35, 36, 37] [(2, [(14, .row (.st 1) false)])] .z))) (.s .z (.s .z (.s (.s .z (.b (.l [(56, .row (.st 8) false), (61, .v (.int .i64) [])] [5, 6, 56, 61] [(4, [(56, .row (.st 8) false)])] .z))) .z))))))
noncomputable def sp42 : Spec fam := ⟨[.v (.st 10) []], [.v (.st 10) [0, 1, 2, 3, 4, 5, 6]], fun a => apps_own a.1⟩

def api_Cont__43_l1 (s : List Cont) (f : (TupT fam [.st 4] → Option Bool)) (t : Int) : Option (Int ⊕ (Int ⊕ Unit)) :=
  bif decide (t < (s.length : Int)) then
    (idx s t).bind fun x =>
    (f (x, ())).bind fun r =>
    bif r then
      some (.inr (.inl t))
    else
      some (.inl (w64 (t + 1)))
  else
    some (.inr (.inr ()))

def api_Cont__43 (s : List Cont) (f : (TupT fam [.st 4] → Option Bool)) : Option Int :=
  (loop (api_Cont__43_l1 s f) 0).bind fun q0 =>
  match q0 with
  | .inl q =>
    some q
  | .inr _ =>
    some (-1)
def h43 : Hint := (.s .z (.s (.s .z (.b (.l [(8, .v (.int .i64) [])] [4, 5, 8] [(1, [(4, .v (.int .i64) [])]), (2, [])] .z))) .z))
noncomputable def sp43 : Spec fam := ⟨[.v (.slice (.st 4)) [], .fn [.st 4] .bool], [.v (.int .i64) []], fun a => api_Cont__43 a.1 a.2.1⟩

def apps_Lose_1 (c : Cont) (p : Int) : Option Bool :=
  some (c.Id == p)
def h44 : Hint := .z
noncomputable def sp44 : Spec fam := ⟨[.v (.st 4) [], .rp (.int .i64)], [.v .bool []], fun a => apps_Lose_1 a.1 a.2.1⟩

def api_App__79_l1 (s : List App) (f : (TupT fam [.st 8] → Option Bool)) (t : Int) : Option (Int ⊕ (Int ⊕ Unit)) :=
  bif decide (t < (s.length : Int)) then
    (idx s t).bind fun x =>
    (f (x, ())).bind fun r =>
    bif r then
      some (.inr (.inl t))
    else
      some (.inl (w64 (t + 1)))
  else
    some (.inr (.inr ()))

def api_App__79 (s : List App) (f : (TupT fam [.st 8] → Option Bool)) : Option Int :=
  (loop (api_App__79_l1 s f) 0).bind fun q0 =>
  match q0 with
  | .inl q =>
    some q
  | .inr _ =>
    some (-1)
def h79 : Hint := (.s .z (.s (.s .z (.b (.l [(8, .v (.int .i64) [])] [4, 5, 8] [(1, [(4, .v (.int .i64) [])]), (2, [])] .z))) .z))
noncomputable def sp79 : Spec fam := ⟨[.v (.slice (.st 8)) [], .fn [.st 8] .bool], [.v (.int .i64) []], fun a => api_App__79 a.1 a.2.1⟩

def apps_at_1 (a : App) (p : Int) : Option Bool :=
  some (a.Id == p)
def h80 : Hint := .z
noncomputable def sp80 : Spec fam := ⟨[.v (.st 8) [], .rp (.int .i64)], [.v .bool []], fun a => apps_at_1 a.1 a.2.1⟩

def apps_at (s : State) (id_ : Int) : Option Int :=
  (api_App__79 s.Apps (fun a' => apps_at_1 a'.1 id_)).bind fun x =>
  some x
def h45 : Hint := .z
noncomputable def sp45 : Spec fam := ⟨[.v (.st 10) [], .v (.int .i64) []], [.v (.int .i64) []], fun a => apps_at a.1 a.2.1⟩

def asks_own (l : List Ask) : Option (List Ask) :=
  (mkl 64 (l.length : Int) (l.length : Int) (⟨0, 0, ⟨0, 0⟩, 0, 0, 0, 0⟩ : Ask)).bind fun l1 =>
  some (cpy l1 0 l1.length l)
def h119 : Hint := .z
noncomputable def sp119 : Spec fam := ⟨[.v (.slice (.st 7)) []], [.v (.slice (.st 7)) [0]], fun a => asks_own a.1⟩

def api_Ask__145_l1 (s : List Ask) (f : (TupT fam [.st 7] → Option Bool)) (t : Int) : Option (Int ⊕ (Int ⊕ Unit)) :=
  bif decide (t < (s.length : Int)) then
    (idx s t).bind fun x =>
    (f (x, ())).bind fun r =>
    bif r then
      some (.inr (.inl t))
    else
      some (.inl (w64 (t + 1)))
  else
    some (.inr (.inr ()))

def api_Ask__145 (s : List Ask) (f : (TupT fam [.st 7] → Option Bool)) : Option Int :=
  (loop (api_Ask__145_l1 s f) 0).bind fun q0 =>
  match q0 with
  | .inl q =>
    some q
  | .inr _ =>
    some (-1)
def h145 : Hint := (.s .z (.s (.s .z (.b (.l [(8, .v (.int .i64) [])] [4, 5, 8] [(1, [(4, .v (.int .i64) [])]), (2, [])] .z))) .z))
noncomputable def sp145 : Spec fam := ⟨[.v (.slice (.st 7)) [], .fn [.st 7] .bool], [.v (.int .i64) []], fun a => api_Ask__145 a.1 a.2.1⟩

def api_Ask__134_l1 (del : (TupT fam [.st 7] → Option Bool)) (t : List Ask × Int × Int) : Option ((List Ask × Int × Int) ⊕ ((List Ask × Int))) :=
  bif decide (t.2.2 < (t.1.length : Int)) then
    (
      (inb t.2.2 t.1.length).bind fun i1 =>
      (t.1[i1]?).bind fun x =>
      (del (x, ())).bind fun r =>
      bif ! r then
        (inb t.2.1 t.1.length).bind fun i2 =>
        (t.1[i2]?).bind fun x1 =>
        some (List.set t.1 i2 x, w64 (t.2.1 + 1))
      else
        some (t.1, t.2.1)).bind fun q =>
    some (.inl (q.1, q.2, w64 (t.2.2 + 1)))
  else
    some (.inr (t.1, t.2.1))

def api_Ask__134 (s : List Ask) (del : (TupT fam [.st 7] → Option Bool)) : Option (List Ask) :=
  (api_Ask__145 s del).bind fun i =>
  bif i == (-1) then
    some s
  else
    (loop (api_Ask__134_l1 del) (s, i, w64 (i + 1))).bind fun q1 =>
    (inS q1.2 (q1.1.length : Int) q1.1.length).bind fun p =>
    none
def h134 : Hint := (.s .z (.s .z (.s .z (.s (.s .z (.b (.l [(0, .row (.st 7) false), (5, .v (.int .i64) []), (6, .v (.int .i64) [])] [0, 5, 6, 7] [(2, [(0, .row (.st 7) false), (5, .v (.int .i64) [])])] (.s .z (.s (.j [0, 5, 7] [(0, [(0, .row (.st 7) false), (5, .v (.int .i64) [])])] .z) .z))))) .z))))
noncomputable def sp134 : Spec fam := ⟨[.v (.slice (.st 7)) [0], .fn [.st 7] .bool], [.v (.slice (.st 7)) [0]], fun a => api_Ask__134 a.1 a.2.1⟩

def asks_Set_1 (x : Ask) (p : Ask) : Option Bool :=
  some (x.Prio == p.Prio)
def h135 : Hint := .z
noncomputable def sp135 : Spec fam := ⟨[.v (.st 7) [], .rp (.st 7)], [.v .bool []], fun a => asks_Set_1 a.1 a.2.1⟩

def api_Ask__193_l1 (t : List Ask × Int × Int) : Option ((List Ask × Int × Int) ⊕ List Ask) :=
  bif decide (t.2.1 < t.2.2) then
    (inb t.2.2 t.1.length).bind fun i =>
    (t.1[i]?).bind fun x =>
    (inb t.2.1 t.1.length).bind fun i1 =>
    (t.1[i1]?).bind fun x1 =>
    (inb t.2.1 t.1.length).bind fun i2 =>
    (t.1[i2]?).bind fun x2 =>
    (inb t.2.2 (List.set t.1 i2 x).length).bind fun i3 =>
    ((List.set t.1 i2 x)[i3]?).bind fun x3 =>
    some (.inl (List.set (List.set t.1 i2 x) i3 x1, w64 (t.2.1 + 1), w64 (t.2.2 - 1)))
  else
    some (.inr t.1)

def api_Ask__193 (s : List Ask) : Option (List Ask) :=
  let j := w64 ((s.length : Int) - 1)
  (loop api_Ask__193_l1 (s, 0, j)).bind fun s1 =>
  some s1
def h193 : Hint := (.s .z (.b (.l [(0, .row (.st 7) false), (2, .v (.int .i64) []), (3, .v (.int .i64) [])] [0, 2, 3] [(2, [(0, .row (.st 7) false)])] .z)))
noncomputable def sp193 : Spec fam := ⟨[.row (.st 7) false], [], fun a => api_Ask__193 a.1⟩

def api_Ask__172 (s : List Ask) (r : Int) : Option Unit :=
  (slc s 0 r).bind fun l =>
  none
def h172 : Hint := .z
noncomputable def sp172 : Spec fam := ⟨[.v (.slice (.st 7)) [], .v (.int .i64) []], [], fun a => api_Ask__172 a.1 a.2.1⟩

def api_Ask__157 (s : List Ask) (r : Int) : Option Unit :=
  (api_Ask__172 s (w64 ((s.length : Int) - r))).bind fun _ =>
  some ()
def h157 : Hint := .z
noncomputable def sp157 : Spec fam := ⟨[.v (.slice (.st 7)) [], .v (.int .i64) []], [], fun a => api_Ask__157 a.1 a.2.1⟩

def api_Ask__136 (s : List Ask) (i : Int) (v : List Ask) : Option (List Ask) :=
  (inS i (s.length : Int) s.length).bind fun p =>
  bif (v.length : Int) == 0 then
    some s
  else
    bif i == (s.length : Int) then
      (app 64 s v).bind fun l =>
      some l
    else
      none
def h136 : Hint := .z
noncomputable def sp136 : Spec fam := ⟨[.v (.slice (.st 7)) [0], .v (.int .i64) [], .v (.slice (.st 7)) []], [.v (.slice (.st 7)) [0]], fun a => api_Ask__136 a.1 a.2.1 a.2.2.1⟩

def asks_Set_l1 (a : Ask) (out : List Ask) (k : Int) : Option (Int ⊕ Int) :=
  (
    bif decide (k < (out.length : Int)) then
      (inb k out.length).bind fun i =>
      (out[i]?).bind fun x1 =>
      some (decide (x1.Prio < a.Prio))
    else
      some false).bind fun q =>
  bif q then
    some (.inl (w64 (k + 1)))
  else
    some (.inr k)

def asks_Set (l : List Ask) (a : Ask) : Option (List Ask × Int) :=
  (asks_own l).bind fun x =>
  (api_Ask__134 x (fun a' => asks_Set_1 a'.1 a)).bind fun out =>
  bif a.Count == 0 then
    some (out, 0)
  else
    bif decide ((out.length : Int) ≥ 8) then
      some ([], 4)
    else
      (loop (asks_Set_l1 a out) 0).bind fun k1 =>
      (api_Ask__136 out k1 [(⟨a.Prio, a.Label, ⟨a.Size.Mem, a.Size.Cores⟩, a.Count, a.Node, a.Rack, 0⟩ : Ask)]).bind fun x2 =>
      some (x2, 0)
def h103 : Hint := (.s .z (.s .z (.s .z (.s .z (.s .z (.s .z (.s (.b (.l [(7, .v (.int .i64) [])] [7, 33] [(2, [(7, .v (.int .i64) [])])] (.s (.s (.j [] [(0, [(33, .v .bool [])])] .z) .z) .z))) .z)))))))
noncomputable def sp103 : Spec fam := ⟨[.v (.slice (.st 7)) [], .v (.st 7) []], [.v (.slice (.st 7)) [0], .v (.int .i64) []], fun a => asks_Set a.1 a.2.1⟩

def apps_first (a : App) : Option (List Ask) :=
  (asks_Set [] (⟨0, 0, ⟨a.Master.Mem, a.Master.Cores⟩, 1, (-1), (-1), 0⟩ : Ask)).bind fun x =>
  some x.1
def h81 : Hint := .z
noncomputable def sp81 : Spec fam := ⟨[.v (.st 8) []], [.v (.slice (.st 7)) [0]], fun a => apps_first a.1⟩

def api_Cont__104_l1 (del : (TupT fam [.st 4] → Option Bool)) (t : List Cont × Int × Int) : Option ((List Cont × Int × Int) ⊕ ((List Cont × Int))) :=
  bif decide (t.2.2 < (t.1.length : Int)) then
    (
      (inb t.2.2 t.1.length).bind fun i1 =>
      (t.1[i1]?).bind fun x =>
      (del (x, ())).bind fun r =>
      bif ! r then
        (inb t.2.1 t.1.length).bind fun i2 =>
        (t.1[i2]?).bind fun x1 =>
        some (List.set t.1 i2 x, w64 (t.2.1 + 1))
      else
        some (t.1, t.2.1)).bind fun q =>
    some (.inl (q.1, q.2, w64 (t.2.2 + 1)))
  else
    some (.inr (t.1, t.2.1))

def api_Cont__104 (s : List Cont) (del : (TupT fam [.st 4] → Option Bool)) : Option (List Cont) :=
  (api_Cont__43 s del).bind fun i =>
  bif i == (-1) then
    some s
  else
    (loop (api_Cont__104_l1 del) (s, i, w64 (i + 1))).bind fun q1 =>
    (inS q1.2 (q1.1.length : Int) q1.1.length).bind fun p =>
    none
def h104 : Hint := (.s .z (.s .z (.s .z (.s (.s .z (.b (.l [(0, .row (.st 4) false), (5, .v (.int .i64) []), (6, .v (.int .i64) [])] [0, 5, 6, 7] [(2, [(0, .row (.st 4) false), (5, .v (.int .i64) [])])] (.s .z (.s (.j [0, 5, 7] [(0, [(0, .row (.st 4) false), (5, .v (.int .i64) [])])] .z) .z))))) .z))))
noncomputable def sp104 : Spec fam := ⟨[.v (.slice (.st 4)) [0], .fn [.st 4] .bool], [.v (.slice (.st 4)) [0]], fun a => api_Cont__104 a.1 a.2.1⟩

def apps_strip_1 (c : Cont) (p : Int) (p1 : List Int) : Option (Bool × List Int) :=
  (
    bif c.App == p then
      (app 8 p1 [c.Id]).bind fun l =>
      some l
    else
      some p1).bind fun q =>
  some (c.App == p, q)
def h105 : Hint := (.s .z (.s (.j [2] [(0, [(2, .box (.slice (.int .i64)) [0])])] .z) .z))
noncomputable def sp105 : Spec fam := ⟨[.v (.st 4) [], .rp (.int .i64), .box (.slice (.int .i64)) [0]], [.v .bool []], fun a => apps_strip_1 a.1 a.2.1 a.2.2.1⟩

def api_Slot__52_l1 (s : List Slot) (f : (TupT fam [.st 5] → Option Bool)) (t : Int) : Option (Int ⊕ (Int ⊕ Unit)) :=
  bif decide (t < (s.length : Int)) then
    (idx s t).bind fun x =>
    (f (x, ())).bind fun r =>
    bif r then
      some (.inr (.inl t))
    else
      some (.inl (w64 (t + 1)))
  else
    some (.inr (.inr ()))

def api_Slot__52 (s : List Slot) (f : (TupT fam [.st 5] → Option Bool)) : Option Int :=
  (loop (api_Slot__52_l1 s f) 0).bind fun q0 =>
  match q0 with
  | .inl q =>
    some q
  | .inr _ =>
    some (-1)
def h52 : Hint := (.s .z (.s (.s .z (.b (.l [(8, .v (.int .i64) [])] [4, 5, 8] [(1, [(4, .v (.int .i64) [])]), (2, [])] .z))) .z))
noncomputable def sp52 : Spec fam := ⟨[.v (.slice (.st 5)) [], .fn [.st 5] .bool], [.v (.int .i64) []], fun a => api_Slot__52 a.1 a.2.1⟩

def api_Slot__106_l1 (del : (TupT fam [.st 5] → Option Bool)) (t : List Slot × Int × Int) : Option ((List Slot × Int × Int) ⊕ ((List Slot × Int))) :=
  bif decide (t.2.2 < (t.1.length : Int)) then
    (
      (inb t.2.2 t.1.length).bind fun i1 =>
      (t.1[i1]?).bind fun x =>
      (del (x, ())).bind fun r =>
      bif ! r then
        (inb t.2.1 t.1.length).bind fun i2 =>
        (t.1[i2]?).bind fun x1 =>
        some (List.set t.1 i2 x, w64 (t.2.1 + 1))
      else
        some (t.1, t.2.1)).bind fun q =>
    some (.inl (q.1, q.2, w64 (t.2.2 + 1)))
  else
    some (.inr (t.1, t.2.1))

def api_Slot__106 (s : List Slot) (del : (TupT fam [.st 5] → Option Bool)) : Option (List Slot) :=
  (api_Slot__52 s del).bind fun i =>
  bif i == (-1) then
    some s
  else
    (loop (api_Slot__106_l1 del) (s, i, w64 (i + 1))).bind fun q1 =>
    (inS q1.2 (q1.1.length : Int) q1.1.length).bind fun p =>
    none
def h106 : Hint := (.s .z (.s .z (.s .z (.s (.s .z (.b (.l [(0, .row (.st 5) false), (5, .v (.int .i64) []), (6, .v (.int .i64) [])] [0, 5, 6, 7] [(2, [(0, .row (.st 5) false), (5, .v (.int .i64) [])])] (.s .z (.s (.j [0, 5, 7] [(0, [(0, .row (.st 5) false), (5, .v (.int .i64) [])])] .z) .z))))) .z))))
noncomputable def sp106 : Spec fam := ⟨[.v (.slice (.st 5)) [0], .fn [.st 5] .bool], [.v (.slice (.st 5)) [0]], fun a => api_Slot__106 a.1 a.2.1⟩

def apps_strip_2 (x : Slot) (p : Int) : Option Bool :=
  some (x.App == p)
def h107 : Hint := .z
noncomputable def sp107 : Spec fam := ⟨[.v (.st 5) [], .rp (.int .i64)], [.v .bool []], fun a => apps_strip_2 a.1 a.2.1⟩

def apps_strip (s : State) (id_ : Int) : Option (State × List Int) :=
  none
def h82 : Hint := .z
noncomputable def sp82 : Spec fam := ⟨[.v (.st 10) [], .v (.int .i64) []], [.v (.st 10) [0, 1, 2, 3, 4, 5, 6], .v (.slice (.int .i64)) [0]], fun a => apps_strip a.1 a.2.1⟩

def apps_master (s : State) (i : Int) : Option State :=
  (inb i s.Apps.length).bind fun i1 =>
  (s.Apps[i1]?).bind fun x =>
  (apps_first x).bind fun x1 =>
  (inb i s.Apps.length).bind fun i2 =>
  (s.Apps[i2]?).bind fun x2 =>
  (apps_strip (⟨⟨s.Conf.Labels, s.Conf.Queues⟩, s.Nodes, List.set s.Apps i2 (⟨x.Id, 1, x.Queue, x.User, x.Prio, ⟨x.Master.Mem, x.Master.Cores⟩, x1, s.Now, 0, [], [], [], []⟩ : App), s.Conts, s.Slots, s.Plans, s.Now, s.Epoch, s.Seq⟩ : State) x.Id).bind fun x3 =>
  some x3.1
def h46 : Hint := .z
noncomputable def sp46 : Spec fam := ⟨[.v (.st 10) [0, 1, 2, 3, 4, 5, 6], .v (.int .i64) []], [.v (.st 10) [0, 1, 2, 3, 4, 5, 6]], fun a => apps_master a.1 a.2.1⟩

def api_Cont__47 (s : List Cont) (i : Int) (j : Int) : Option (List Cont) := del s i j
def h47 : Hint := .z
noncomputable def sp47 : Spec fam := ⟨[.v (.slice (.st 4)) [0], .v (.int .i64) [], .v (.int .i64) []], [.v (.slice (.st 4)) [0]], fun a => api_Cont__47 a.1 a.2.1 a.2.2.1⟩

def slices_Index___int_int__l1 (s : List Int) (v : Int) (t : Int) : Option (Int ⊕ (Int ⊕ Unit)) :=
  bif decide (t < (s.length : Int)) then
    (idx s t).bind fun x =>
    bif v == x then
      some (.inr (.inl t))
    else
      some (.inl (w64 (t + 1)))
  else
    some (.inr (.inr ()))

def slices_Index___int_int_ (s : List Int) (v : Int) : Option Int :=
  (loop (slices_Index___int_int__l1 s v) 0).bind fun q0 =>
  match q0 with
  | .inl q =>
    some q
  | .inr _ =>
    some (-1)
def h48 : Hint := (.s .z (.s (.s .z (.b (.l [(8, .v (.int .i64) [])] [4, 5, 8] [(1, [(4, .v (.int .i64) [])]), (2, [])] .z))) .z))
noncomputable def sp48 : Spec fam := ⟨[.v (.slice (.int .i64)) [], .v (.int .i64) []], [.v (.int .i64) []], fun a => slices_Index___int_int_ a.1 a.2.1⟩

def slices_Delete___int_int_ (s : List Int) (i : Int) (j : Int) : Option (List Int) :=
  none
def h49 : Hint := .z
noncomputable def sp49 : Spec fam := ⟨[.v (.slice (.int .i64)) [], .v (.int .i64) [], .v (.int .i64) []], [.v (.slice (.int .i64)) [0]], fun a => slices_Delete___int_int_ a.1 a.2.1 a.2.2.1⟩

def apps_Lose_l1 (ids : List Int) (t : State × Int) : Option ((State × Int) ⊕ State) :=
  bif decide (t.2 < (ids.length : Int)) then
    (
      (idx ids t.2).bind fun x1 =>
      (api_Cont__43 t.1.Conts (fun a' => apps_Lose_1 a'.1 x1)).bind fun k =>
      bif decide (k < 0) then
        some t.1
      else
        (inb k t.1.Conts.length).bind fun i =>
        (t.1.Conts[i]?).bind fun x2 =>
        (apps_at t.1 x2.App).bind fun i1 =>
        (
          bif decide (i1 ≥ 0) then
            some x2.Master
          else
            some false).bind fun q =>
        bif q then
          (apps_master t.1 i1).bind fun x3 =>
          some x3
        else
          (api_Cont__47 t.1.Conts k (w64 (k + 1))).bind fun x4 =>
          bif decide (i1 < 0) then
            some (⟨⟨t.1.Conf.Labels, t.1.Conf.Queues⟩, t.1.Nodes, t.1.Apps, x4, t.1.Slots, t.1.Plans, t.1.Now, t.1.Epoch, t.1.Seq⟩ : State)
          else
            (inb i1 t.1.Apps.length).bind fun i2 =>
            (t.1.Apps[i2]?).bind fun x5 =>
            (slices_Index___int_int_ x5.Grants x1).bind fun j =>
            bif decide (j ≥ 0) then
              (slices_Delete___int_int_ x5.Grants j (w64 (j + 1))).bind fun x6 =>
              (inb i1 t.1.Apps.length).bind fun i3 =>
              (t.1.Apps[i3]?).bind fun x7 =>
              some (⟨⟨t.1.Conf.Labels, t.1.Conf.Queues⟩, t.1.Nodes, List.set t.1.Apps i3 (⟨x5.Id, x5.State, x5.Queue, x5.User, x5.Prio, ⟨x5.Master.Mem, x5.Master.Cores⟩, x5.Asks, x5.Seen, x5.Beat, x6, x5.Kills, x5.Told, x5.Lost⟩ : App), x4, t.1.Slots, t.1.Plans, t.1.Now, t.1.Epoch, t.1.Seq⟩ : State)
            else
              none).bind fun s1 =>
    some (.inl (s1, w64 (t.2 + 1)))
  else
    some (.inr t.1)

def apps_Lose (s : State) (ids : List Int) : Option State :=
  (apps_own s).bind fun x =>
  (loop (apps_Lose_l1 ids) (x, 0)).bind fun s2 =>
  (apps_own s2).bind fun x8 =>
  some x8
def h22 : Hint := (.s .z (.s .z (.s (.s .z (.b (.l [(2, .box (.st 10) [0, 1, 2, 3, 4, 5, 6]), (16, .v (.int .i64) [])] [2, 6, 7, 8, 9, 10, 11, 13, 16, 40] [(2, [(2, .box (.st 10) [0, 1, 2, 3, 4, 5, 6])])] (.s .z (.s .z (.s (.j [2, 6, 7, 8, 9, 10, 11, 40] [(0, [(2, .box (.st 10) [0, 1, 2, 3, 4, 5, 6])])] (.b (.s .z (.s .z (.s .z (.s .z (.s .z (.s (.s (.j [] [(0, [(40, .v .bool [])])] .z) .z) .z)))))))) .z)))))) .z)))
noncomputable def sp22 : Spec fam := ⟨[.v (.st 10) [], .v (.slice (.int .i64)) []], [.v (.st 10) [0, 1, 2, 3, 4, 5, 6]], fun a => apps_Lose a.1 a.2.1⟩

def api_Node__83_l1 (s : List Node) (f : (TupT fam [.st 3] → Option Bool)) (t : Int) : Option (Int ⊕ (Int ⊕ Unit)) :=
  bif decide (t < (s.length : Int)) then
    (idx s t).bind fun x =>
    (f (x, ())).bind fun r =>
    bif r then
      some (.inr (.inl t))
    else
      some (.inl (w64 (t + 1)))
  else
    some (.inr (.inr ()))

def api_Node__83 (s : List Node) (f : (TupT fam [.st 3] → Option Bool)) : Option Int :=
  (loop (api_Node__83_l1 s f) 0).bind fun q0 =>
  match q0 with
  | .inl q =>
    some q
  | .inr _ =>
    some (-1)
def h83 : Hint := (.s .z (.s (.s .z (.b (.l [(8, .v (.int .i64) [])] [4, 5, 8] [(1, [(4, .v (.int .i64) [])]), (2, [])] .z))) .z))
noncomputable def sp83 : Spec fam := ⟨[.v (.slice (.st 3)) [], .fn [.st 3] .bool], [.v (.int .i64) []], fun a => api_Node__83 a.1 a.2.1⟩

def nodes_ids_is (i : Int) (n : Node) : Option Bool :=
  some (n.Id == i)
def h84 : Hint := .z
noncomputable def sp84 : Spec fam := ⟨[.v (.int .i64) [], .v (.st 3) []], [.v .bool []], fun a => nodes_ids_is a.1 a.2.1⟩

def nodes_at (s : State) (id_ : Int) : Option Int :=
  (api_Node__83 s.Nodes (fun a' => nodes_ids_is id_ a'.1)).bind fun x =>
  some x
def h50 : Hint := .z
noncomputable def sp50 : Spec fam := ⟨[.v (.st 10) [], .v (.int .i64) []], [.v (.int .i64) []], fun a => nodes_at a.1 a.2.1⟩

def nodes_Find (s : State) (id_ : Int) : Option (Node × Bool) :=
  (nodes_at s id_).bind fun i =>
  bif decide (i < 0) then
    some ((⟨0, 0, 0, ⟨0, 0⟩, 0, 0, false⟩ : Node), false)
  else
    (idx s.Nodes i).bind fun x =>
    some (x, true)
def h23 : Hint := .z
noncomputable def sp23 : Spec fam := ⟨[.v (.st 10) [], .v (.int .i64) []], [.v (.st 3) [], .v .bool []], fun a => nodes_Find a.1 a.2.1⟩

def rvec_vec_good (v : Vec) : Option Bool :=
  bif decide (v.Mem ≥ 0) then
    bif decide (v.Mem ≤ 1125899906842624) then
      bif decide (v.Cores ≥ 0) then
        some (decide (v.Cores ≤ 1125899906842624))
      else
        some false
    else
      some false
  else
    some false
def h108 : Hint := .z
noncomputable def sp108 : Spec fam := ⟨[.v (.st 2) []], [.v .bool []], fun a => rvec_vec_good a.1⟩

def rvec_over (v : Vec) : Option (Vec × Int) :=
  (rvec_vec_good v).bind fun x =>
  bif ! x then
    some ((⟨0, 0⟩ : Vec), 11)
  else
    some (v, 0)
def h109 : Hint := .z
noncomputable def sp109 : Spec fam := ⟨[.v (.st 2) []], [.v (.st 2) [], .v (.int .i64) []], fun a => rvec_over a.1⟩

def rvec_Add (a : Vec) (b : Vec) : Option (Vec × Int) :=
  (
    (rvec_vec_good a).bind fun x =>
    bif ! x then
      some true
    else
      (rvec_vec_good b).bind fun x1 =>
      some (! x1)).bind fun q =>
  bif q then
    some ((⟨0, 0⟩ : Vec), 1)
  else
    (rvec_over (⟨w64 (a.Mem + b.Mem), w64 (a.Cores + b.Cores)⟩ : Vec)).bind fun x2 =>
    some (x2.1, x2.2)
def h85 : Hint := (.s .z (.s (.s (.j [] [(0, [(13, .v .bool [])])] .z) .z) .z))
noncomputable def sp85 : Spec fam := ⟨[.v (.st 2) [], .v (.st 2) []], [.v (.st 2) [], .v (.int .i64) []], fun a => rvec_Add a.1 a.2.1⟩

def nodes_Used_l1 (s : State) (id_ : Int) (t : Vec × Int) : Option ((Vec × Int) ⊕ Vec) :=
  bif decide (t.2 < (s.Conts.length : Int)) then
    (
      (idx s.Conts t.2).bind fun x =>
      bif x.Node == id_ then
        (rvec_Add t.1 x.Size).bind fun x1 =>
        some x1.1
      else
        some t.1).bind fun out =>
    some (.inl (out, w64 (t.2 + 1)))
  else
    some (.inr t.1)

def nodes_Used (s : State) (id_ : Int) : Option Vec :=
  (loop (nodes_Used_l1 s id_) ((⟨0, 0⟩ : Vec), 0)).bind fun out1 =>
  some out1
def h51 : Hint := (.s .z (.s .z (.s (.s .z (.b (.l [(5, .box (.st 2) []), (11, .v (.int .i64) [])] [5, 7, 11] [(2, [(5, .box (.st 2) [])])] (.s .z (.s .z (.s (.j [5, 7] [(0, [(5, .box (.st 2) [])])] .z) .z)))))) .z)))
noncomputable def sp51 : Spec fam := ⟨[.v (.st 10) [], .v (.int .i64) []], [.v (.st 2) []], fun a => nodes_Used a.1 a.2.1⟩

def nodes_Free (s : State) (id_ : Int) : Option Vec :=
  (nodes_Find s id_).bind fun x =>
  (
    bif ! x.2 then
      some true
    else
      some (! x.1.Up)).bind fun q =>
  bif q then
    some (⟨0, 0⟩ : Vec)
  else
    (nodes_Used s id_).bind fun x1 =>
    some (⟨imax (w64 (x.1.Cap.Mem - x1.Mem)) 0, imax (w64 (x.1.Cap.Cores - x1.Cores)) 0⟩ : Vec)
def h24 : Hint := (.s .z (.s .z (.s (.s (.j [] [(0, [(20, .v .bool [])])] .z) .z) .z)))
noncomputable def sp24 : Spec fam := ⟨[.v (.st 10) [], .v (.int .i64) []], [.v (.st 2) []], fun a => nodes_Free a.1 a.2.1⟩

def assign_attempt_kept_1 (_a0 : Slot) (_a1 : Bool) : Option Bool := none
def h53 : Hint := .z
noncomputable def sp53 : Spec fam := ⟨[.v (.st 5) [], .rp .bool], [.v .bool []], fun a => assign_attempt_kept_1 a.1 a.2.1⟩

def apps_Find (s : State) (id_ : Int) : Option (App × Bool) :=
  (apps_at s id_).bind fun i =>
  bif decide (i < 0) then
    some ((⟨0, 0, [], 0, 0, ⟨0, 0⟩, [], 0, 0, [], [], [], []⟩ : App), false)
  else
    (idx s.Apps i).bind fun x =>
    (apps_app x).bind fun x1 =>
    some (x1, true)
def h54 : Hint := .z
noncomputable def sp54 : Spec fam := ⟨[.v (.st 10) [], .v (.int .i64) []], [.v (.st 8) [7, 10, 11, 12, 13], .v .bool []], fun a => apps_Find a.1 a.2.1⟩

def assign_find_l1 (a : App) (prio : Int) (t : Ask × Int) : Option ((Ask × Int) ⊕ ((Ask × Bool) ⊕ Ask)) :=
  bif decide (t.2 < (a.Asks.length : Int)) then
    (idx a.Asks t.2).bind fun x =>
    bif x.Prio == prio then
      some (.inr (.inl (x, true)))
    else
      some (.inl (t.1, w64 (t.2 + 1)))
  else
    some (.inr (.inr (t.1)))

def assign_find (a : App) (prio : Int) : Option (Ask × Bool) :=
  (loop (assign_find_l1 a prio) ((⟨0, 0, ⟨0, 0⟩, 0, 0, 0, 0⟩ : Ask), 0)).bind fun q0 =>
  match q0 with
  | .inl q =>
    some (q.1, q.2)
  | .inr q1 =>
    some ((⟨0, 0, ⟨0, 0⟩, 0, 0, 0, 0⟩ : Ask), false)
def h55 : Hint := (.s .z (.s (.s .z (.b (.l [(4, .box (.st 7) []), (11, .v (.int .i64) [])] [4, 5, 7, 11] [(1, [(4, .box (.st 7) []), (5, .v .bool [])]), (2, [(4, .box (.st 7) [])])] .z))) .z))
noncomputable def sp55 : Spec fam := ⟨[.v (.st 8) [], .v (.int .i64) []], [.v (.st 7) [], .v .bool []], fun a => assign_find a.1 a.2.1⟩

def apps_Live (a : App) : Option Bool :=
  bif a.State == 1 then
    some true
  else
    some (a.State == 2)
def h56 : Hint := .z
noncomputable def sp56 : Spec fam := ⟨[.v (.st 8) []], [.v .bool []], fun a => apps_Live a.1⟩

def local_Level (a : Ask) (n : Node) : Option Int :=
  (
    (
      bif ! n.Up then
        some true
      else
        some (n.Label != a.Label)).bind fun q =>
    bif q then
      some (.inr (.inl 4))
    else
      bif a.Rack == (-1) then
        some (.inl ())
      else
        (
          bif a.Node == n.Id then
            some (a.Node == n.Id)
          else
            bif a.Node == (-1) then
              some (a.Rack == n.Rack)
            else
              some false).bind fun q1 =>
        bif q1 then
          some (.inl ())
        else
          bif a.Rack == n.Rack then
            some (.inr (.inr (.inr ())))
          else
            some (.inr (.inr (.inl ()))) : Option (Unit ⊕ Int ⊕ Unit ⊕ Unit)).bind fun q0 =>
  match q0 with
  | .inl _ =>
    some 1
  | .inr (.inl q2) =>
    some q2
  | .inr (.inr (.inl _)) =>
    some 3
  | .inr (.inr (.inr _)) =>
    some 2
def h86 : Hint := (.s .z (.s (.b (.s (.b (.s (.j [5, 20] [(0, []), (1, [(4, .v (.int .i64) [])]), (2, []), (6, [])] (.b (.b (.s (.b (.s (.s (.s (.j [] [(0, [(5, .v .bool [])])] .z) .z) (.s .z (.s (.s (.j [] [(0, [(20, .v .bool [])])] .z) .z) .z))) .z)) .z)))) .z)) .z)) .z))
noncomputable def sp86 : Spec fam := ⟨[.v (.st 7) [], .v (.st 3) []], [.v (.int .i64) []], fun a => local_Level a.1 a.2.1⟩

def local_May (a : Ask) (n : Node) : Option Bool :=
  (local_Level a n).bind fun x =>
  bif x == 1 then
    some true
  else
    bif x == 2 then
      some (decide (a.Missed ≥ 2))
    else
      bif x == 3 then
        some (decide (a.Missed ≥ 4))
      else
        some false
def h57 : Hint := .z
noncomputable def sp57 : Spec fam := ⟨[.v (.st 7) [], .v (.st 3) []], [.v .bool []], fun a => local_May a.1 a.2.1⟩

def rvec_Fits (a : Vec) (b : Vec) : Option Bool :=
  bif decide (a.Mem ≤ b.Mem) then
    some (decide (a.Cores ≤ b.Cores))
  else
    some false
def h87 : Hint := .z
noncomputable def sp87 : Spec fam := ⟨[.v (.st 2) [], .v (.st 2) []], [.v .bool []], fun a => rvec_Fits a.1 a.2.1⟩

def assign_attempt_could (t : Attempt) (x : Ask) : Option Bool :=
  (local_Level x t.n).bind fun x1 =>
  bif x1 != 4 then
    (rvec_Fits x.Size t.n.Cap).bind fun x2 =>
    some x2
  else
    some false
def h58 : Hint := .z
noncomputable def sp58 : Spec fam := ⟨[.rp (.st 11), .v (.st 7) []], [.v .bool []], fun a => assign_attempt_could a.1 a.2.1⟩

def qtree_view_owner_l1 (v : View) (c : Cont) (t : App × Int) : Option ((App × Int) ⊕ ((App × Bool) ⊕ App)) :=
  bif decide (t.2 < (v.s.Apps.length : Int)) then
    (idx v.s.Apps t.2).bind fun x =>
    bif x.Id == c.App then
      some (.inr (.inl (x, true)))
    else
      some (.inl (t.1, w64 (t.2 + 1)))
  else
    some (.inr (.inr (t.1)))

def qtree_view_owner (v : View) (c : Cont) : Option (App × Bool) :=
  (loop (qtree_view_owner_l1 v c) ((⟨0, 0, [], 0, 0, ⟨0, 0⟩, [], 0, 0, [], [], [], []⟩ : App), 0)).bind fun q0 =>
  match q0 with
  | .inl q =>
    some (q.1, q.2)
  | .inr q1 =>
    some ((⟨0, 0, [], 0, 0, ⟨0, 0⟩, [], 0, 0, [], [], [], []⟩ : App), false)
def h137 : Hint := (.s .z (.s (.s .z (.b (.l [(4, .box (.st 8) [7, 10, 11, 12, 13]), (12, .v (.int .i64) [])] [4, 5, 7, 12] [(1, [(4, .box (.st 8) []), (5, .v .bool [])]), (2, [(4, .box (.st 8) [7, 10, 11, 12, 13])])] .z))) .z))
noncomputable def sp137 : Spec fam := ⟨[.v (.st 12) [], .v (.st 4) []], [.v (.st 8) [], .v .bool []], fun a => qtree_view_owner a.1 a.2.1⟩

def stringslite_HasPrefix (s : List UInt8) (prefix_ : List UInt8) : Option Bool :=
  bif decide ((s.length : Int) ≥ (prefix_.length : Int)) then
    (slc s 0 (prefix_.length : Int)).bind fun s1 =>
    some (s1 == prefix_)
  else
    some false
def h173 : Hint := .z
noncomputable def sp173 : Spec fam := ⟨[.v .str [], .v .str []], [.v .bool []], fun a => stringslite_HasPrefix a.1 a.2.1⟩

def strings_HasPrefix (s : List UInt8) (prefix_ : List UInt8) : Option Bool :=
  (stringslite_HasPrefix s prefix_).bind fun x =>
  some x
def h158 : Hint := .z
noncomputable def sp158 : Spec fam := ⟨[.v .str [], .v .str []], [.v .bool []], fun a => strings_HasPrefix a.1 a.2.1⟩

def qtree_view_has (v : View) (a : App) : Option Bool :=
  (
    bif a.Queue == v.path then
      some true
    else
      (cat v.path ([46] : List UInt8)).bind fun s =>
      (strings_HasPrefix a.Queue s).bind fun x =>
      some x).bind fun below =>
  bif below then
    bif v.user == (-1) then
      some true
    else
      some (a.User == v.user)
  else
    some false
def h138 : Hint := (.s .z (.s (.j [] [(0, [(5, .v .bool [])])] .z) .z))
noncomputable def sp138 : Spec fam := ⟨[.v (.st 12) [], .v (.st 8) []], [.v .bool []], fun a => qtree_view_has a.1 a.2.1⟩

def qtree_view_used_l1 (v : View) (t : Vec × Int) : Option ((Vec × Int) ⊕ Vec) :=
  bif decide (t.2 < (v.s.Conts.length : Int)) then
    (
      (idx v.s.Conts t.2).bind fun x =>
      (qtree_view_owner v x).bind fun x1 =>
      (
        bif x1.2 then
          bif x.Label == v.label then
            (qtree_view_has v x1.1).bind fun x2 =>
            some x2
          else
            some false
        else
          some false).bind fun q =>
      bif q then
        (rvec_Add t.1 x.Size).bind fun x3 =>
        some x3.1
      else
        some t.1).bind fun out =>
    some (.inl (out, w64 (t.2 + 1)))
  else
    some (.inr t.1)

def qtree_view_used (v : View) : Option Vec :=
  (loop (qtree_view_used_l1 v) ((⟨0, 0⟩ : Vec), 0)).bind fun out1 =>
  some out1
def h110 : Hint := (.s .z (.s .z (.s .z (.s (.s .z (.b (.l [(3, .box (.st 2) []), (15, .v (.int .i64) [])] [3, 6, 7, 8, 15, 37] [(2, [(3, .box (.st 2) [])])] (.s .z (.s .z (.s (.j [3, 6, 7, 8, 37] [(0, [(3, .box (.st 2) [])])] (.b (.s .z (.s .z (.s (.j [] [(0, [(37, .v .bool [])])] .z) .z))))) .z)))))) .z))))
noncomputable def sp110 : Spec fam := ⟨[.v (.st 12) []], [.v (.st 2) []], fun a => qtree_view_used a.1⟩

def qtree_Used (s : State) (path : List UInt8) (label : Int) : Option Vec :=
  (qtree_view_used (⟨⟨⟨s.Conf.Labels, s.Conf.Queues⟩, s.Nodes, s.Apps, s.Conts, s.Slots, s.Plans, s.Now, s.Epoch, s.Seq⟩, path, label, (-1)⟩ : View)).bind fun x =>
  some x
def h88 : Hint := .z
noncomputable def sp88 : Spec fam := ⟨[.v (.st 10) [], .v .str [], .v (.int .i64) []], [.v (.st 2) []], fun a => qtree_Used a.1 a.2.1 a.2.2.1⟩

def api_Queue__139_l1 (s : List Queue) (f : (TupT fam [.st 1] → Option Bool)) (t : Int) : Option (Int ⊕ (Int ⊕ Unit)) :=
  bif decide (t < (s.length : Int)) then
    (idx s t).bind fun x =>
    (f (x, ())).bind fun r =>
    bif r then
      some (.inr (.inl t))
    else
      some (.inl (w64 (t + 1)))
  else
    some (.inr (.inr ()))

def api_Queue__139 (s : List Queue) (f : (TupT fam [.st 1] → Option Bool)) : Option Int :=
  (loop (api_Queue__139_l1 s f) 0).bind fun q0 =>
  match q0 with
  | .inl q =>
    some q
  | .inr _ =>
    some (-1)
def h139 : Hint := (.s .z (.s (.s .z (.b (.l [(8, .v (.int .i64) [])] [4, 5, 8] [(1, [(4, .v (.int .i64) [])]), (2, [])] .z))) .z))
noncomputable def sp139 : Spec fam := ⟨[.v (.slice (.st 1)) [], .fn [.st 1] .bool], [.v (.int .i64) []], fun a => api_Queue__139 a.1 a.2.1⟩

def rule_Find_1 (q : Queue) (p : List UInt8) : Option Bool :=
  some (q.Path == p)
def h140 : Hint := .z
noncomputable def sp140 : Spec fam := ⟨[.v (.st 1) [], .rp .str], [.v .bool []], fun a => rule_Find_1 a.1 a.2.1⟩

def rule_Find (c : Conf) (path : List UInt8) : Option (Queue × Bool) :=
  (api_Queue__139 c.Queues (fun a' => rule_Find_1 a'.1 path)).bind fun i =>
  bif decide (i < 0) then
    some ((⟨[], [], 0⟩ : Queue), false)
  else
    (idx c.Queues i).bind fun x =>
    (api_Cap_ x.Caps).bind fun x1 =>
    some ((⟨x.Path, x1, x.User⟩ : Queue), true)
def h113 : Hint := .z
noncomputable def sp113 : Spec fam := ⟨[.v (.st 9) [], .v .str []], [.v (.st 1) [1], .v .bool []], fun a => rule_Find a.1 a.2.1⟩

def bits_Mul64 (x : Int) (y : Int) : Option (Int × Int) :=
  let w0 := IntKind.u64.wrap ((andK .u64 x 4294967295) * (andK .u64 y 4294967295))
  let t := IntKind.u64.wrap ((IntKind.u64.wrap ((shrK .u64 x 32) * (andK .u64 y 4294967295))) + (shrK .u64 w0 32))
  let w1 := IntKind.u64.wrap ((andK .u64 t 4294967295) + (IntKind.u64.wrap ((andK .u64 x 4294967295) * (shrK .u64 y 32))))
  let hi := IntKind.u64.wrap ((IntKind.u64.wrap ((IntKind.u64.wrap ((shrK .u64 x 32) * (shrK .u64 y 32))) + (shrK .u64 t 32))) + (shrK .u64 w1 32))
  some (hi, IntKind.u64.wrap (x * y))
def h159 : Hint := .z
noncomputable def sp159 : Spec fam := ⟨[.v (.int .u64) [], .v (.int .u64) []], [.v (.int .u64) [], .v (.int .u64) []], fun a => bits_Mul64 a.1 a.2.1⟩

def bits_Len64 (x : Int) : Option Int :=
  (
    bif decide (x ≥ 4294967296) then
      some (shrK .u64 x 32, 32)
    else
      some (x, 0)).bind fun q =>
  (
    bif decide (q.1 ≥ 65536) then
      some (shrK .u64 q.1 16, w64 (q.2 + 16))
    else
      some (q.1, q.2)).bind fun q1 =>
  (
    bif decide (q1.1 ≥ 256) then
      some (shrK .u64 q1.1 8, w64 (q1.2 + 8))
    else
      some (q1.1, q1.2)).bind fun q2 =>
  (idx ([0, 1, 2, 2, 3, 3, 3, 3, 4, 4, 4, 4, 4, 4, 4, 4, 5, 5, 5, 5, 5, 5, 5, 5, 5, 5, 5, 5, 5, 5, 5, 5, 6, 6, 6, 6, 6, 6, 6, 6, 6, 6, 6, 6, 6, 6, 6, 6, 6, 6, 6, 6, 6, 6, 6, 6, 6, 6, 6, 6, 6, 6, 6, 6, 7, 7, 7, 7, 7, 7, 7, 7, 7, 7, 7, 7, 7, 7, 7, 7, 7, 7, 7, 7, 7, 7, 7, 7, 7, 7, 7, 7, 7, 7, 7, 7, 7, 7, 7, 7, 7, 7, 7, 7, 7, 7, 7, 7, 7, 7, 7, 7, 7, 7, 7, 7, 7, 7, 7, 7, 7, 7, 7, 7, 7, 7, 7, 7, 8, 8, 8, 8, 8, 8, 8, 8, 8, 8, 8, 8, 8, 8, 8, 8, 8, 8, 8, 8, 8, 8, 8, 8, 8, 8, 8, 8, 8, 8, 8, 8, 8, 8, 8, 8, 8, 8, 8, 8, 8, 8, 8, 8, 8, 8, 8, 8, 8, 8, 8, 8, 8, 8, 8, 8, 8, 8, 8, 8, 8, 8, 8, 8, 8, 8, 8, 8, 8, 8, 8, 8, 8, 8, 8, 8, 8, 8, 8, 8, 8, 8, 8, 8, 8, 8, 8, 8, 8, 8, 8, 8, 8, 8, 8, 8, 8, 8, 8, 8, 8, 8, 8, 8, 8, 8, 8, 8, 8, 8, 8, 8, 8, 8, 8, 8, 8, 8, 8, 8, 8, 8, 8, 8, 8, 8, 8, 8] : List UInt8) (IntKind.u8.wrap q2.1)).bind fun ch =>
  let n := w64 (q2.2 + (w64 (ch.toNat : Int)))
  some n
def h187 : Hint := (.s .z (.s (.j [0, 2] [(0, [(0, .v (.int .u64) []), (2, .v (.int .i64) [])])] .z) (.s (.j [0, 2] [(0, [(0, .v (.int .u64) []), (2, .v (.int .i64) [])])] .z) (.s (.j [0, 2] [(0, [(0, .v (.int .u64) []), (2, .v (.int .i64) [])])] .z) .z))))
noncomputable def sp187 : Spec fam := ⟨[.v (.int .u64) []], [.v (.int .i64) []], fun a => bits_Len64 a.1⟩

def bits_LeadingZeros64 (x : Int) : Option Int :=
  (bits_Len64 x).bind fun x1 =>
  some (w64 (64 - x1))
def h174 : Hint := .z
noncomputable def sp174 : Spec fam := ⟨[.v (.int .u64) []], [.v (.int .i64) []], fun a => bits_LeadingZeros64 a.1⟩

def bits_Div64_l2 (yn1 : Int) (yn0 : Int) (un0 : Int) (t1 : Int × Int) : Option ((Int × Int) ⊕ Int) :=
  (
    bif decide (t1.2 ≥ 4294967296) then
      some true
    else
      some (decide ((IntKind.u64.wrap (t1.2 * yn0)) > (IntKind.u64.wrap ((IntKind.u64.wrap (4294967296 * t1.1)) + un0))))).bind fun q2 =>
  bif q2 then
    bif decide ((IntKind.u64.wrap (t1.1 + yn1)) ≥ 4294967296) then
      some (.inr (IntKind.u64.wrap (t1.2 - 1)))
    else
      some (.inl (IntKind.u64.wrap (t1.1 + yn1), IntKind.u64.wrap (t1.2 - 1)))
  else
    some (.inr t1.2)

def bits_Div64_l1 (yn1 : Int) (yn0 : Int) (un1 : Int) (t : Int × Int) : Option ((Int × Int) ⊕ Int) :=
  (
    bif decide (t.1 ≥ 4294967296) then
      some true
    else
      some (decide ((IntKind.u64.wrap (t.1 * yn0)) > (IntKind.u64.wrap ((IntKind.u64.wrap (4294967296 * t.2)) + un1))))).bind fun q =>
  bif q then
    bif decide ((IntKind.u64.wrap (t.2 + yn1)) ≥ 4294967296) then
      some (.inr (IntKind.u64.wrap (t.1 - 1)))
    else
      some (.inl (IntKind.u64.wrap (t.1 - 1), IntKind.u64.wrap (t.2 + yn1)))
  else
    some (.inr t.1)

def bits_Div64 (hi : Int) (lo : Int) (y : Int) : Option (Int × Int) :=
  bif y == 0 then
    none
  else
    bif decide (y ≤ hi) then
      none
    else
      bif hi == 0 then
        (nz y).bind fun _ =>
        (nz y).bind fun _ =>
        some (IntKind.u64.wrap (Int.tdiv lo y), Int.tmod lo y)
      else
        (bits_LeadingZeros64 y).bind fun x =>
        (nn (IntKind.u64.wrap x)).bind fun _ =>
        let yn1 := shrK .u64 (shlK .u64 y (IntKind.u64.wrap x)) 32
        let yn0 := andK .u64 (shlK .u64 y (IntKind.u64.wrap x)) 4294967295
        (nn (IntKind.u64.wrap x)).bind fun _ =>
        (nn (IntKind.u64.wrap (64 - (IntKind.u64.wrap x)))).bind fun _ =>
        let un32 := orK .u64 (shlK .u64 hi (IntKind.u64.wrap x)) (shrK .u64 lo (IntKind.u64.wrap (64 - (IntKind.u64.wrap x))))
        (nn (IntKind.u64.wrap x)).bind fun _ =>
        let un1 := shrK .u64 (shlK .u64 lo (IntKind.u64.wrap x)) 32
        let un0 := andK .u64 (shlK .u64 lo (IntKind.u64.wrap x)) 4294967295
        (nz yn1).bind fun _ =>
        let rhat := IntKind.u64.wrap (un32 - (IntKind.u64.wrap ((IntKind.u64.wrap (Int.tdiv un32 yn1)) * yn1)))
        (loop (bits_Div64_l1 yn1 yn0 un1) (IntKind.u64.wrap (Int.tdiv un32 yn1), rhat)).bind fun q1 =>
        let un21 := IntKind.u64.wrap ((IntKind.u64.wrap ((IntKind.u64.wrap (un32 * 4294967296)) + un1)) - (IntKind.u64.wrap (q1 * (shlK .u64 y (IntKind.u64.wrap x)))))
        (nz yn1).bind fun _ =>
        let rhat1 := IntKind.u64.wrap (un21 - (IntKind.u64.wrap ((IntKind.u64.wrap (Int.tdiv un21 yn1)) * yn1)))
        (loop (bits_Div64_l2 yn1 yn0 un0) (rhat1, IntKind.u64.wrap (Int.tdiv un21 yn1))).bind fun q0 =>
        (nn (IntKind.u64.wrap x)).bind fun _ =>
        let quo := IntKind.u64.wrap ((IntKind.u64.wrap (q1 * 4294967296)) + q0)
        let rem := shrK .u64 (IntKind.u64.wrap ((IntKind.u64.wrap ((IntKind.u64.wrap (un21 * 4294967296)) + un0)) - (IntKind.u64.wrap (q0 * (shlK .u64 y (IntKind.u64.wrap x)))))) (IntKind.u64.wrap x)
        some (quo, rem)
def h160 : Hint := (.s .z (.s .z (.s .z (.s .z (.s .z (.s .z (.s .z (.s .z (.s .z (.s .z (.s .z (.s .z (.s .z (.s .z (.s (.b (.l [(15, .v (.int .u64) []), (16, .v (.int .u64) [])] [15, 16, 78] [(2, [(15, .v (.int .u64) [])])] (.s (.s (.j [] [(0, [(78, .v .bool [])])] .z) .z) .z))) (.s .z (.s .z (.s .z (.s (.b (.l [(16, .v (.int .u64) []), (18, .v (.int .u64) [])] [16, 18, 113] [(4, [(18, .v (.int .u64) [])])] (.s (.s (.j [] [(0, [(113, .v .bool [])])] .z) .z) .z))) .z)))))))))))))))))))
noncomputable def sp160 : Spec fam := ⟨[.v (.int .u64) [], .v (.int .u64) [], .v (.int .u64) []], [.v (.int .u64) [], .v (.int .u64) []], fun a => bits_Div64 a.1 a.2.1 a.2.2.1⟩

def rvec_part (n : Int) (bp : Int) : Option Int :=
  (bits_Mul64 (IntKind.u64.wrap n) (IntKind.u64.wrap bp)).bind fun x =>
  (bits_Div64 x.1 x.2 10000).bind fun x1 =>
  some (w64 x1.1)
def h141 : Hint := .z
noncomputable def sp141 : Spec fam := ⟨[.v (.int .i64) [], .v (.int .i64) []], [.v (.int .i64) []], fun a => rvec_part a.1 a.2.1⟩

def rvec_Scale (a : Vec) (bp : Int) : Option (Vec × Int) :=
  (
    (rvec_vec_good a).bind fun x =>
    bif ! x then
      some true
    else
      bif decide (bp < 0) then
        some true
      else
        some (decide (bp > 1000000))).bind fun q =>
  bif q then
    some ((⟨0, 0⟩ : Vec), 1)
  else
    (rvec_part a.Mem bp).bind fun x1 =>
    (rvec_part a.Cores bp).bind fun x2 =>
    (rvec_over (⟨x1, x2⟩ : Vec)).bind fun x3 =>
    some (x3.1, x3.2)
def h114 : Hint := (.s .z (.s (.s (.j [] [(0, [(16, .v .bool [])])] .z) .z) .z))
noncomputable def sp114 : Spec fam := ⟨[.v (.st 2) [], .v (.int .i64) []], [.v (.st 2) [], .v (.int .i64) []], fun a => rvec_Scale a.1 a.2.1⟩

def bytealg_LastIndexByteString_l1 (s : List UInt8) (c : Int) (i1 : Int) : Option (Int ⊕ (Int ⊕ Unit)) :=
  bif decide (i1 ≥ 0) then
    (idx s i1).bind fun ch =>
    bif (ch.toNat : Int) == c then
      some (.inr (.inl i1))
    else
      some (.inl (w64 (i1 - 1)))
  else
    some (.inr (.inr ()))

def bytealg_LastIndexByteString (s : List UInt8) (c : Int) : Option Int :=
  let i := w64 ((s.length : Int) - 1)
  (loop (bytealg_LastIndexByteString_l1 s c) i).bind fun q0 =>
  match q0 with
  | .inl q =>
    some q
  | .inr _ =>
    some (-1)
def h175 : Hint := (.s .z (.s (.s .z (.b (.l [(5, .v (.int .i64) [])] [4, 5] [(1, [(4, .v (.int .i64) [])]), (2, [])] .z))) .z))
noncomputable def sp175 : Spec fam := ⟨[.v .str [], .v (.int .u8) []], [.v (.int .i64) []], fun a => bytealg_LastIndexByteString a.1 a.2.1⟩

def bytealg_hashStrRev_string__l2 (t1 : Int × Int × Int) : Option ((Int × Int × Int) ⊕ Int) :=
  bif decide (t1.2.2 > 0) then
    (
      bif (andK .i64 t1.2.2 1) != 0 then
        let pow := IntKind.u32.wrap (t1.1 * t1.2.1)
        some pow
      else
        some t1.1).bind fun pow1 =>
    let sq := IntKind.u32.wrap (t1.2.1 * t1.2.1)
    some (.inl (pow1, sq, shrK .i64 t1.2.2 1))
  else
    some (.inr t1.1)

def bytealg_hashStrRev_string__l1 (sep : List UInt8) (t : Int × Int) : Option ((Int × Int) ⊕ Int) :=
  bif decide (t.2 ≥ 0) then
    (idx sep t.2).bind fun ch =>
    let hash := IntKind.u32.wrap ((IntKind.u32.wrap (t.1 * 16777619)) + (IntKind.u32.wrap (ch.toNat : Int)))
    some (.inl (hash, w64 (t.2 - 1)))
  else
    some (.inr t.1)

def bytealg_hashStrRev_string_ (sep : List UInt8) : Option (Int × Int) :=
  let i := w64 ((sep.length : Int) - 1)
  (loop (bytealg_hashStrRev_string__l1 sep) (0, i)).bind fun hash1 =>
  (loop bytealg_hashStrRev_string__l2 (1, 16777619, (sep.length : Int))).bind fun pow2 =>
  some (hash1, pow2)
def h194 : Hint := (.s .z (.s .z (.s (.s .z (.b (.l [(4, .v (.int .u32) []), (5, .v (.int .i64) [])] [4, 5] [(2, [(4, .v (.int .u32) [])])] .z))) (.s .z (.s (.s .z (.b (.l [(6, .v (.int .u32) []), (7, .v (.int .u32) []), (8, .v (.int .i64) [])] [6, 7, 8] [(4, [(6, .v (.int .u32) [])])] (.s .z (.s (.b (.s (.j [6] [(0, [(6, .v (.int .u32) [])])] .z) .z)) .z))))) .z)))))
noncomputable def sp194 : Spec fam := ⟨[.v .str []], [.v (.int .u32) [], .v (.int .u32) []], fun a => bytealg_hashStrRev_string_ a.1⟩

def bytealg_LastIndexRabinKarp_string__l2 (s : List UInt8) (sep : List UInt8) (x : Int × Int) (t1 : Int × Int) : Option ((Int × Int) ⊕ (Int ⊕ Unit)) :=
  bif decide (t1.2 ≥ 0) then
    (idx s t1.2).bind fun ch1 =>
    let h2 := IntKind.u32.wrap ((IntKind.u32.wrap (t1.1 * 16777619)) + (IntKind.u32.wrap (ch1.toNat : Int)))
    (idx s (w64 (t1.2 + (sep.length : Int)))).bind fun ch2 =>
    let h3 := IntKind.u32.wrap (h2 - (IntKind.u32.wrap (x.2 * (IntKind.u32.wrap (ch2.toNat : Int)))))
    (
      bif h3 == x.1 then
        (slc s t1.2 (w64 (t1.2 + (sep.length : Int)))).bind fun s2 =>
        some (s2 == sep)
      else
        some false).bind fun q1 =>
    bif q1 then
      some (.inr (.inl (t1.2)))
    else
      some (.inl (h3, w64 (t1.2 - 1)))
  else
    some (.inr (.inr ()))

def bytealg_LastIndexRabinKarp_string__l1 (s : List UInt8) (last : Int) (t : Int × Int) : Option ((Int × Int) ⊕ Int) :=
  bif decide (t.2 ≥ last) then
    (idx s t.2).bind fun ch =>
    let h := IntKind.u32.wrap ((IntKind.u32.wrap (t.1 * 16777619)) + (IntKind.u32.wrap (ch.toNat : Int)))
    some (.inl (h, w64 (t.2 - 1)))
  else
    some (.inr t.1)

def bytealg_LastIndexRabinKarp_string_ (s : List UInt8) (sep : List UInt8) : Option Int :=
  (bytealg_hashStrRev_string_ sep).bind fun x =>
  let last := w64 ((s.length : Int) - (sep.length : Int))
  let i := w64 ((s.length : Int) - 1)
  (loop (bytealg_LastIndexRabinKarp_string__l1 s last) (0, i)).bind fun h1 =>
  (
    bif h1 == x.1 then
      (slc s last (s.length : Int)).bind fun s1 =>
      some (s1 == sep)
    else
      some false).bind fun q =>
  bif q then
    some last
  else
    (loop (bytealg_LastIndexRabinKarp_string__l2 s sep x) (h1, w64 (last - 1))).bind fun q0 =>
    match q0 with
    | .inl q2 =>
      some q2
    | .inr _ =>
      some (-1)
def h176 : Hint := (.s .z (.s .z (.s .z (.s .z (.s .z (.s (.s .z (.b (.l [(9, .v (.int .u32) []), (10, .v (.int .i64) [])] [9, 10] [(2, [(9, .v (.int .u32) [])])] .z))) (.s (.s (.j [] [(0, [(47, .v .bool [])])] .z) .z) (.s (.s .z (.b (.l [(9, .v (.int .u32) []), (11, .v (.int .i64) [])] [4, 9, 11, 85] [(1, [(4, .v (.int .i64) [])]), (4, [])] (.s .z (.s (.b (.s .z (.s .z (.s .z (.s (.j [] [(0, [(85, .v .bool [])])] .z) .z))))) .z))))) .z))))))))
noncomputable def sp176 : Spec fam := ⟨[.v .str [], .v .str []], [.v (.int .i64) []], fun a => bytealg_LastIndexRabinKarp_string_ a.1 a.2.1⟩

def strings_LastIndex (s : List UInt8) (substr : List UInt8) : Option Int :=
  bif (substr.length : Int) == 0 then
    some (s.length : Int)
  else
    bif (substr.length : Int) == 1 then
      (idx substr 0).bind fun ch =>
      (bytealg_LastIndexByteString s (ch.toNat : Int)).bind fun x =>
      some x
    else
      bif (substr.length : Int) == (s.length : Int) then
        bif substr == s then
          some 0
        else
          some (-1)
      else
        bif decide ((substr.length : Int) > (s.length : Int)) then
          some (-1)
        else
          (bytealg_LastIndexRabinKarp_string_ s substr).bind fun x1 =>
          some x1
def h161 : Hint := .z
noncomputable def sp161 : Spec fam := ⟨[.v .str [], .v .str []], [.v (.int .i64) []], fun a => strings_LastIndex a.1 a.2.1⟩

def rule_above (path : List UInt8) : Option (List UInt8 × Bool) :=
  (strings_LastIndex path ([46] : List UInt8)).bind fun i =>
  bif decide (i < 0) then
    some (([] : List UInt8), false)
  else
    (slc path 0 i).bind fun s =>
    some (s, true)
def h142 : Hint := .z
noncomputable def sp142 : Spec fam := ⟨[.v .str []], [.v .str [], .v .bool []], fun a => rule_above a.1⟩

def rule_Up_l1 (t : List UInt8 × List (List UInt8)) : Option ((List UInt8 × List (List UInt8)) ⊕ List (List UInt8)) :=
  bif ! (t.1 == ([] : List UInt8)) then
    (app 16 t.2 [t.1]).bind fun l =>
    (rule_above t.1).bind fun x =>
    some (.inl (x.1, l))
  else
    some (.inr t.2)

def rule_Up (path : List UInt8) : Option (List (List UInt8)) :=
  (loop rule_Up_l1 (path, [])).bind fun out =>
  some out
def h115 : Hint := (.s .z (.s .z (.s (.b (.l [(0, .v .str []), (3, .v (.slice (.str)) [0])] [0, 3] [(2, [(3, .v (.slice (.str)) [0])])] .z)) .z)))
noncomputable def sp115 : Spec fam := ⟨[.v .str []], [.v (.slice (.str)) [0]], fun a => rule_Up a.1⟩

def share_sum_l1 (l : List Vec) (t : Vec × Int) : Option ((Vec × Int) ⊕ Vec) :=
  bif decide (t.2 < (l.length : Int)) then
    (idx l t.2).bind fun x =>
    (rvec_Add t.1 x).bind fun x1 =>
    some (.inl (x1.1, w64 (t.2 + 1)))
  else
    some (.inr t.1)

def share_sum (l : List Vec) : Option Vec :=
  (loop (share_sum_l1 l) ((⟨0, 0⟩ : Vec), 0)).bind fun out =>
  some out
def h144 : Hint := (.s .z (.s .z (.s (.s .z (.b (.l [(3, .box (.st 2) []), (8, .v (.int .i64) [])] [3, 5, 8] [(2, [(3, .box (.st 2) [])])] .z))) .z)))
noncomputable def sp144 : Spec fam := ⟨[.v (.slice (.st 2)) []], [.v (.st 2) []], fun a => share_sum a.1⟩

def share_Total_l1 (s : State) (label : Int) (t : List Vec × Int) : Option ((List Vec × Int) ⊕ List Vec) :=
  bif decide (t.2 < (s.Nodes.length : Int)) then
    (
      (idx s.Nodes t.2).bind fun x =>
      (
        bif x.Up then
          some (x.Label == label)
        else
          some false).bind fun q =>
      bif q then
        (app 16 t.1 [x.Cap]).bind fun l =>
        some l
      else
        some t.1).bind fun l1 =>
    some (.inl (l1, w64 (t.2 + 1)))
  else
    some (.inr t.1)

def share_Total (s : State) (label : Int) : Option Vec :=
  (loop (share_Total_l1 s label) ([], 0)).bind fun l2 =>
  (share_sum l2).bind fun x1 =>
  some x1
def h117 : Hint := (.s .z (.s .z (.s (.s .z (.b (.l [(5, .v (.slice (.st 2)) [0]), (11, .v (.int .i64) [])] [5, 7, 11, 22] [(2, [(5, .v (.slice (.st 2)) [0])])] (.s .z (.s .z (.s (.j [5, 7, 22] [(0, [(5, .v (.slice (.st 2)) [0])])] (.b (.s .z (.s (.j [] [(0, [(22, .v .bool [])])] .z) .z)))) .z)))))) .z)))
noncomputable def sp117 : Spec fam := ⟨[.v (.st 10) [], .v (.int .i64) []], [.v (.st 2) []], fun a => share_Total a.1 a.2.1⟩

def share_down_l1 (s : State) (label : Int) (part : (TupT fam [.st 0] → Option Int)) (up : List (List UInt8)) (t : Vec × Vec × Int) : Option ((Vec × Vec × Int) ⊕ (Vec ⊕ (Vec × Vec))) :=
  bif decide (t.2.2 ≥ 0) then
    (inb t.2.2 up.length).bind fun i1 =>
    (up[i1]?).bind fun x2 =>
    (rule_Find s.Conf x2).bind fun x3 =>
    (
      bif ! x3.2 then
        some true
      else
        bif decide (label < 0) then
          some true
        else
          some (decide (label ≥ (x3.1.Caps.length : Int)))).bind fun q =>
    bif q then
      some (.inr (.inl (⟨0, 0⟩ : Vec)))
    else
      (inb label x3.1.Caps.length).bind fun i2 =>
      (x3.1.Caps[i2]?).bind fun x4 =>
      (part (x4, ())).bind fun r =>
      (rvec_Scale t.2.1 r).bind fun x5 =>
      some (.inl (t.1, x5.1, w64 (t.2.2 - 1)))
  else
    some (.inr (.inr (t.1, t.2.1)))

def share_down (s : State) (path : List UInt8) (label : Int) (part : (TupT fam [.st 0] → Option Int)) : Option Vec :=
  (rule_Up path).bind fun up =>
  (rule_Find s.Conf path).bind fun x =>
  bif ! x.2 then
    some (⟨0, 0⟩ : Vec)
  else
    (share_Total s label).bind fun x1 =>
    let i := w64 ((up.length : Int) - 2)
    (loop (share_down_l1 s label part up) ((⟨0, 0⟩ : Vec), x1, i)).bind fun q0 =>
    match q0 with
    | .inl q1 =>
      some q1
    | .inr q2 =>
      some q2.2
def h111 : Hint := (.s .z (.s .z (.s .z (.s .z (.s (.s .z (.b (.l [(8, .box (.st 2) []), (12, .box (.st 2) []), (13, .v (.int .i64) [])] [8, 12, 13, 14, 60] [(1, [(8, .box (.st 2) [])]), (2, [(8, .box (.st 2) []), (12, .box (.st 2) [])])] (.s .z (.s (.b (.s .z (.s (.s (.j [] [(0, [(60, .v .bool [])])] .z) .z) .z))) .z))))) .z)))))
noncomputable def sp111 : Spec fam := ⟨[.v (.st 10) [], .v .str [], .v (.int .i64) [], .fn [.st 0] (.int .i64)], [.v (.st 2) []], fun a => share_down a.1 a.2.1 a.2.2.1 a.2.2.2.1⟩

def share_capacity_least (c : Cap) : Option Int :=
  some c.Least
def h112 : Hint := .z
noncomputable def sp112 : Spec fam := ⟨[.v (.st 0) []], [.v (.int .i64) []], fun a => share_capacity_least a.1⟩

def share_Least (s : State) (path : List UInt8) (label : Int) : Option Vec :=
  (share_down s path label (fun a' => share_capacity_least a'.1)).bind fun x =>
  some x
def h89 : Hint := .z
noncomputable def sp89 : Spec fam := ⟨[.v (.st 10) [], .v .str [], .v (.int .i64) []], [.v (.st 2) []], fun a => share_Least a.1 a.2.1 a.2.2.1⟩

def assign_attempt_due (t : Attempt) (a : App) (x : Ask) : Option Bool :=
  (qtree_Used t.s a.Queue t.n.Label).bind fun x1 =>
  (rvec_Add x1 x.Size).bind fun x2 =>
  bif x2.2 == 0 then
    (share_Least t.s a.Queue t.n.Label).bind fun x3 =>
    (rvec_Fits x2.1 x3).bind fun x4 =>
    some x4
  else
    some false
def h59 : Hint := .z
noncomputable def sp59 : Spec fam := ⟨[.rp (.st 11), .v (.st 8) [], .v (.st 7) []], [.v .bool []], fun a => assign_attempt_due a.1 a.2.1 a.2.2.1⟩

def qtree_UserUsed (s : State) (path : List UInt8) (label : Int) (user : Int) : Option Vec :=
  bif user == (-1) then
    some (⟨0, 0⟩ : Vec)
  else
    (qtree_view_used (⟨⟨⟨s.Conf.Labels, s.Conf.Queues⟩, s.Nodes, s.Apps, s.Conts, s.Slots, s.Plans, s.Now, s.Epoch, s.Seq⟩, path, label, user⟩ : View)).bind fun x =>
    some x
def h90 : Hint := .z
noncomputable def sp90 : Spec fam := ⟨[.v (.st 10) [], .v .str [], .v (.int .i64) [], .v (.int .i64) []], [.v (.st 2) []], fun a => qtree_UserUsed a.1 a.2.1 a.2.2.1 a.2.2.2.1⟩

def share_User (s : State) (path : List UInt8) (label : Int) : Option Vec :=
  (rule_Find s.Conf path).bind fun x =>
  (share_Least s path label).bind fun x1 =>
  (rvec_Scale x1 x.1.User).bind fun x2 =>
  some x2.1
def h91 : Hint := .z
noncomputable def sp91 : Spec fam := ⟨[.v (.st 10) [], .v .str [], .v (.int .i64) []], [.v (.st 2) []], fun a => share_User a.1 a.2.1 a.2.2.1⟩

def assign_attempt_more (t : Attempt) (a : App) : Option Bool :=
  (qtree_UserUsed t.s a.Queue t.n.Label a.User).bind fun x =>
  (share_User t.s a.Queue t.n.Label).bind fun x1 =>
  (rvec_Fits x x1).bind fun x2 =>
  some x2
def h60 : Hint := .z
noncomputable def sp60 : Spec fam := ⟨[.rp (.st 11), .v (.st 8) []], [.v .bool []], fun a => assign_attempt_more a.1 a.2.1⟩

def assign_attempt_fits (t : Attempt) (x : Ask) : Option Bool :=
  (rvec_Fits x.Size t.free).bind fun x1 =>
  some x1
def h61 : Hint := .z
noncomputable def sp61 : Spec fam := ⟨[.rp (.st 11), .v (.st 7) []], [.v .bool []], fun a => assign_attempt_fits a.1 a.2.1⟩

def share_capacity_most (c : Cap) : Option Int :=
  some c.Most
def h143 : Hint := .z
noncomputable def sp143 : Spec fam := ⟨[.v (.st 0) []], [.v (.int .i64) []], fun a => share_capacity_most a.1⟩

def share_Most (s : State) (path : List UInt8) (label : Int) : Option Vec :=
  (share_down s path label (fun a' => share_capacity_most a'.1)).bind fun x =>
  some x
def h116 : Hint := .z
noncomputable def sp116 : Spec fam := ⟨[.v (.st 10) [], .v .str [], .v (.int .i64) []], [.v (.st 2) []], fun a => share_Most a.1 a.2.1 a.2.2.1⟩

def share_Kept_l1 (s : State) (label : Int) (t : List Vec × Int) : Option ((List Vec × Int) ⊕ List Vec) :=
  bif decide (t.2 < (s.Plans.length : Int)) then
    (
      (idx s.Plans t.2).bind fun x =>
      (
        bif x.Label == label then
          bif decide (x.From ≤ s.Now) then
            some (decide (x.Until > s.Now))
          else
            some false
        else
          some false).bind fun q =>
      bif q then
        (app 16 t.1 [x.Need]).bind fun l =>
        some l
      else
        some t.1).bind fun l1 =>
    some (.inl (l1, w64 (t.2 + 1)))
  else
    some (.inr t.1)

def share_Kept (s : State) (label : Int) : Option Vec :=
  (loop (share_Kept_l1 s label) ([], 0)).bind fun l2 =>
  (share_sum l2).bind fun x1 =>
  some x1
def h118 : Hint := (.s .z (.s .z (.s (.s .z (.b (.l [(5, .v (.slice (.st 2)) [0]), (11, .v (.int .i64) [])] [5, 7, 11, 32] [(2, [(5, .v (.slice (.st 2)) [0])])] (.s .z (.s .z (.s (.j [5, 7, 32] [(0, [(5, .v (.slice (.st 2)) [0])])] (.b (.s .z (.s (.j [] [(0, [(32, .v .bool [])])] .z) .z)))) .z)))))) .z)))
noncomputable def sp118 : Spec fam := ⟨[.v (.st 10) [], .v (.int .i64) []], [.v (.st 2) []], fun a => share_Kept a.1 a.2.1⟩

def qtree_Room_l1 (s : State) (label : Int) (size : Vec) (x : List (List UInt8)) (t : Int) : Option (Int ⊕ (Bool ⊕ Unit)) :=
  bif decide (t < (x.length : Int)) then
    (inb t x.length).bind fun i =>
    (x[i]?).bind fun x1 =>
    (qtree_Used s x1 label).bind fun x2 =>
    (rvec_Add x2 size).bind fun x3 =>
    (
      bif x3.2 != 0 then
        some true
      else
        (share_Most s x1 label).bind fun x4 =>
        (rvec_Fits x3.1 x4).bind fun x5 =>
        some (! x5)).bind fun q =>
    bif q then
      some (.inr (.inl false))
    else
      (share_Total s label).bind fun x6 =>
      (share_Kept s label).bind fun x7 =>
      (
        bif x1 == ([114, 111, 111, 116] : List UInt8) then
          bif ! (((imax (w64 (x6.Mem - x7.Mem)) 0) == x6.Mem) && ((imax (w64 (x6.Cores - x7.Cores)) 0) == x6.Cores)) then
            (rvec_Fits x3.1 (⟨imax (w64 (x6.Mem - x7.Mem)) 0, imax (w64 (x6.Cores - x7.Cores)) 0⟩ : Vec)).bind fun x8 =>
            some (! x8)
          else
            some false
        else
          some false).bind fun q1 =>
      bif q1 then
        some (.inr (.inl false))
      else
        some (.inl (w64 (t + 1)))
  else
    some (.inr (.inr ()))

def qtree_Room (s : State) (path : List UInt8) (label : Int) (size : Vec) : Option Bool :=
  (rule_Up path).bind fun x =>
  (loop (qtree_Room_l1 s label size x) 0).bind fun q0 =>
  match q0 with
  | .inl q2 =>
    some q2
  | .inr _ =>
    some true
def h92 : Hint := (.s .z (.s (.s .z (.b (.l [(19, .v (.int .i64) [])] [8, 10, 11, 12, 13, 14, 15, 19, 42, 74] [(1, [(8, .v .bool [])]), (2, [])] (.s .z (.s .z (.s (.b (.s .z (.s .z (.s (.s (.j [] [(0, [(42, .v .bool [])])] .z) .z) (.s .z (.s .z (.s (.j [] [(0, [(74, .v .bool [])])] .z) .z))))))) .z)))))) .z))
noncomputable def sp92 : Spec fam := ⟨[.v (.st 10) [], .v .str [], .v (.int .i64) [], .v (.st 2) []], [.v .bool []], fun a => qtree_Room a.1 a.2.1 a.2.2.1 a.2.2.2.1⟩

def assign_attempt_room (t : Attempt) (a : App) (x : Ask) : Option Bool :=
  (qtree_Room t.s a.Queue t.n.Label x.Size).bind fun x1 =>
  some x1
def h62 : Hint := .z
noncomputable def sp62 : Spec fam := ⟨[.rp (.st 11), .v (.st 8) [], .v (.st 7) []], [.v .bool []], fun a => assign_attempt_room a.1 a.2.1 a.2.2.1⟩

def api_Slot__63 (s : List Slot) (i : Int) (j : Int) : Option (List Slot) := del s i j
def h63 : Hint := .z
noncomputable def sp63 : Spec fam := ⟨[.v (.slice (.st 5)) [0], .v (.int .i64) [], .v (.int .i64) []], [.v (.slice (.st 5)) [0]], fun a => api_Slot__63 a.1 a.2.1 a.2.2.1⟩

def asks_at_1 (a : Ask) (p : Int) : Option Bool :=
  some (a.Prio == p)
def h146 : Hint := .z
noncomputable def sp146 : Spec fam := ⟨[.v (.st 7) [], .rp (.int .i64)], [.v .bool []], fun a => asks_at_1 a.1 a.2.1⟩

def asks_at (l : List Ask) (prio : Int) : Option Int :=
  (api_Ask__145 l (fun a' => asks_at_1 a'.1 prio)).bind fun x =>
  some x
def h120 : Hint := .z
noncomputable def sp120 : Spec fam := ⟨[.v (.slice (.st 7)) [], .v (.int .i64) []], [.v (.int .i64) []], fun a => asks_at a.1 a.2.1⟩

def api_Ask__121 (s : List Ask) (i : Int) (j : Int) : Option (List Ask) := del s i j
def h121 : Hint := .z
noncomputable def sp121 : Spec fam := ⟨[.v (.slice (.st 7)) [0], .v (.int .i64) [], .v (.int .i64) []], [.v (.slice (.st 7)) [0]], fun a => api_Ask__121 a.1 a.2.1 a.2.2.1⟩

def asks_Take (l : List Ask) (prio : Int) : Option (List Ask × Bool) :=
  (asks_own l).bind fun out =>
  (asks_at out prio).bind fun i =>
  bif decide (i < 0) then
    some (out, false)
  else
    (inb i out.length).bind fun i1 =>
    (out[i1]?).bind fun x =>
    (inb i (List.set out i1 (⟨x.Prio, x.Label, ⟨x.Size.Mem, x.Size.Cores⟩, x.Count, x.Node, x.Rack, 0⟩ : Ask)).length).bind fun i2 =>
    ((List.set out i1 (⟨x.Prio, x.Label, ⟨x.Size.Mem, x.Size.Cores⟩, x.Count, x.Node, x.Rack, 0⟩ : Ask))[i2]?).bind fun x1 =>
    (inb i (List.set out i1 (⟨x.Prio, x.Label, ⟨x.Size.Mem, x.Size.Cores⟩, x.Count, x.Node, x.Rack, 0⟩ : Ask)).length).bind fun i3 =>
    ((List.set out i1 (⟨x.Prio, x.Label, ⟨x.Size.Mem, x.Size.Cores⟩, x.Count, x.Node, x.Rack, 0⟩ : Ask))[i3]?).bind fun x2 =>
    (
      (inb i (List.set (List.set out i1 (⟨x.Prio, x.Label, ⟨x.Size.Mem, x.Size.Cores⟩, x.Count, x.Node, x.Rack, 0⟩ : Ask)) i3 (⟨x2.Prio, x2.Label, ⟨x2.Size.Mem, x2.Size.Cores⟩, w64 (x1.Count - 1), x2.Node, x2.Rack, x2.Missed⟩ : Ask)).length).bind fun i4 =>
      ((List.set (List.set out i1 (⟨x.Prio, x.Label, ⟨x.Size.Mem, x.Size.Cores⟩, x.Count, x.Node, x.Rack, 0⟩ : Ask)) i3 (⟨x2.Prio, x2.Label, ⟨x2.Size.Mem, x2.Size.Cores⟩, w64 (x1.Count - 1), x2.Node, x2.Rack, x2.Missed⟩ : Ask))[i4]?).bind fun x3 =>
      bif decide (x3.Count ≤ 0) then
        (api_Ask__121 (List.set (List.set out i1 (⟨x.Prio, x.Label, ⟨x.Size.Mem, x.Size.Cores⟩, x.Count, x.Node, x.Rack, 0⟩ : Ask)) i3 (⟨x2.Prio, x2.Label, ⟨x2.Size.Mem, x2.Size.Cores⟩, w64 (x1.Count - 1), x2.Node, x2.Rack, x2.Missed⟩ : Ask)) i (w64 (i + 1))).bind fun out1 =>
        some out1
      else
        some (List.set (List.set out i1 (⟨x.Prio, x.Label, ⟨x.Size.Mem, x.Size.Cores⟩, x.Count, x.Node, x.Rack, 0⟩ : Ask)) i3 (⟨x2.Prio, x2.Label, ⟨x2.Size.Mem, x2.Size.Cores⟩, w64 (x1.Count - 1), x2.Node, x2.Rack, x2.Missed⟩ : Ask))).bind fun out2 =>
    some (out2, true)
def h93 : Hint := (.s .z (.s .z (.s .z (.s .z (.s .z (.s .z (.s (.j [6] [(0, [(6, .v (.slice (.st 7)) [0])])] .z) .z)))))))
noncomputable def sp93 : Spec fam := ⟨[.v (.slice (.st 7)) [], .v (.int .i64) []], [.v (.slice (.st 7)) [0], .v .bool []], fun a => asks_Take a.1 a.2.1⟩

def api_App__195_l1 (t : List App × Int × Int) : Option ((List App × Int × Int) ⊕ List App) :=
  bif decide (t.2.1 < t.2.2) then
    (inb t.2.2 t.1.length).bind fun i =>
    (t.1[i]?).bind fun x =>
    (inb t.2.1 t.1.length).bind fun i1 =>
    (t.1[i1]?).bind fun x1 =>
    (inb t.2.1 t.1.length).bind fun i2 =>
    (t.1[i2]?).bind fun x2 =>
    (inb t.2.2 (List.set t.1 i2 x).length).bind fun i3 =>
    ((List.set t.1 i2 x)[i3]?).bind fun x3 =>
    some (.inl (List.set (List.set t.1 i2 x) i3 x1, w64 (t.2.1 + 1), w64 (t.2.2 - 1)))
  else
    some (.inr t.1)

def api_App__195 (s : List App) : Option (List App) :=
  let j := w64 ((s.length : Int) - 1)
  (loop api_App__195_l1 (s, 0, j)).bind fun s1 =>
  some s1
def h195 : Hint := (.s .z (.b (.l [(0, .row (.st 8) false), (2, .v (.int .i64) []), (3, .v (.int .i64) [])] [0, 2, 3] [(2, [(0, .row (.st 8) false)])] .z)))
noncomputable def sp195 : Spec fam := ⟨[.row (.st 8) false], [], fun a => api_App__195 a.1⟩

def api_App__177 (s : List App) (r : Int) : Option Unit :=
  (slc s 0 r).bind fun l =>
  none
def h177 : Hint := .z
noncomputable def sp177 : Spec fam := ⟨[.v (.slice (.st 8)) [], .v (.int .i64) []], [], fun a => api_App__177 a.1 a.2.1⟩

def api_App__163 (s : List App) (r : Int) : Option Unit :=
  (api_App__177 s (w64 ((s.length : Int) - r))).bind fun _ =>
  some ()
def h163 : Hint := .z
noncomputable def sp163 : Spec fam := ⟨[.v (.slice (.st 8)) [], .v (.int .i64) []], [], fun a => api_App__163 a.1 a.2.1⟩

def api_App__147 (s : List App) (i : Int) (v : List App) : Option (List App) :=
  (inS i (s.length : Int) s.length).bind fun p =>
  bif (v.length : Int) == 0 then
    some s
  else
    bif i == (s.length : Int) then
      (app 200 s v).bind fun l =>
      some l
    else
      none
def h147 : Hint := .z
noncomputable def sp147 : Spec fam := ⟨[.v (.slice (.st 8)) [0], .v (.int .i64) [], .v (.slice (.st 8)) []], [.v (.slice (.st 8)) [0]], fun a => api_App__147 a.1 a.2.1 a.2.2.1⟩

def apps_put_l1 (s : State) (a : App) (k : Int) : Option (Int ⊕ Int) :=
  (
    bif decide (k < (s.Apps.length : Int)) then
      (inb k s.Apps.length).bind fun i2 =>
      (s.Apps[i2]?).bind fun x1 =>
      some (decide (x1.Id < a.Id))
    else
      some false).bind fun q =>
  bif q then
    some (.inl (w64 (k + 1)))
  else
    some (.inr k)

def apps_put (s : State) (a : App) : Option State :=
  (apps_at s a.Id).bind fun i =>
  bif decide (i ≥ 0) then
    (inb i s.Apps.length).bind fun i1 =>
    (s.Apps[i1]?).bind fun x =>
    some (⟨⟨s.Conf.Labels, s.Conf.Queues⟩, s.Nodes, List.set s.Apps i1 a, s.Conts, s.Slots, s.Plans, s.Now, s.Epoch, s.Seq⟩ : State)
  else
    (loop (apps_put_l1 s a) 0).bind fun k1 =>
    (api_App__147 s.Apps k1 [a]).bind fun x2 =>
    some (⟨⟨s.Conf.Labels, s.Conf.Queues⟩, s.Nodes, x2, s.Conts, s.Slots, s.Plans, s.Now, s.Epoch, s.Seq⟩ : State)
def h122 : Hint := (.s .z (.s .z (.s .z (.s (.b (.l [(6, .v (.int .i64) [])] [6, 34] [(2, [(6, .v (.int .i64) [])])] (.s (.s (.j [] [(0, [(34, .v .bool [])])] .z) .z) .z))) .z))))
noncomputable def sp122 : Spec fam := ⟨[.v (.st 10) [0, 1, 2, 3, 4, 5, 6], .v (.st 8) []], [.v (.st 10) [0, 1, 2, 3, 4, 5, 6]], fun a => apps_put a.1 a.2.1⟩

def apps_Put (s : State) (a : App) : Option State :=
  (apps_own s).bind fun x =>
  (apps_app a).bind fun x1 =>
  (apps_put x x1).bind fun x2 =>
  some x2
def h94 : Hint := .z
noncomputable def sp94 : Spec fam := ⟨[.v (.st 10) [], .v (.st 8) []], [.v (.st 10) [0, 1, 2, 3, 4, 5, 6]], fun a => apps_Put a.1 a.2.1⟩

def api_Cont__164_l1 (t : List Cont × Int × Int) : Option ((List Cont × Int × Int) ⊕ List Cont) :=
  bif decide (t.2.1 < t.2.2) then
    (inb t.2.2 t.1.length).bind fun i =>
    (t.1[i]?).bind fun x =>
    (inb t.2.1 t.1.length).bind fun i1 =>
    (t.1[i1]?).bind fun x1 =>
    (inb t.2.1 t.1.length).bind fun i2 =>
    (t.1[i2]?).bind fun x2 =>
    (inb t.2.2 (List.set t.1 i2 x).length).bind fun i3 =>
    ((List.set t.1 i2 x)[i3]?).bind fun x3 =>
    some (.inl (List.set (List.set t.1 i2 x) i3 x1, w64 (t.2.1 + 1), w64 (t.2.2 - 1)))
  else
    some (.inr t.1)

def api_Cont__164 (s : List Cont) : Option (List Cont) :=
  let j := w64 ((s.length : Int) - 1)
  (loop api_Cont__164_l1 (s, 0, j)).bind fun s1 =>
  some s1
def h164 : Hint := (.s .z (.b (.l [(0, .row (.st 4) false), (2, .v (.int .i64) []), (3, .v (.int .i64) [])] [0, 2, 3] [(2, [(0, .row (.st 4) false)])] .z)))
noncomputable def sp164 : Spec fam := ⟨[.row (.st 4) false], [], fun a => api_Cont__164 a.1⟩

def api_Cont__148 (s : List Cont) (r : Int) : Option Unit :=
  (slc s 0 r).bind fun l =>
  none
def h148 : Hint := .z
noncomputable def sp148 : Spec fam := ⟨[.v (.slice (.st 4)) [], .v (.int .i64) []], [], fun a => api_Cont__148 a.1 a.2.1⟩

def api_Cont__124 (s : List Cont) (r : Int) : Option Unit :=
  (api_Cont__148 s (w64 ((s.length : Int) - r))).bind fun _ =>
  some ()
def h124 : Hint := .z
noncomputable def sp124 : Spec fam := ⟨[.v (.slice (.st 4)) [], .v (.int .i64) []], [], fun a => api_Cont__124 a.1 a.2.1⟩

def api_Cont__95 (s : List Cont) (i : Int) (v : List Cont) : Option (List Cont) :=
  (inS i (s.length : Int) s.length).bind fun p =>
  bif (v.length : Int) == 0 then
    some s
  else
    bif i == (s.length : Int) then
      (app 72 s v).bind fun l =>
      some l
    else
      none
def h95 : Hint := .z
noncomputable def sp95 : Spec fam := ⟨[.v (.slice (.st 4)) [0], .v (.int .i64) [], .v (.slice (.st 4)) []], [.v (.slice (.st 4)) [0]], fun a => api_Cont__95 a.1 a.2.1 a.2.2.1⟩

def assign_attempt_grant_l1 (t : Attempt) (x2 : State) (k : Int) : Option (Int ⊕ Int) :=
  (
    bif decide (k < (x2.Conts.length : Int)) then
      (inb k x2.Conts.length).bind fun i =>
      (x2.Conts[i]?).bind fun x3 =>
      some (decide (x3.Id < (w64 ((shlK .i64 t.s.Epoch 20) + (w64 (t.s.Seq + 1))))))
    else
      some false).bind fun q =>
  bif q then
    some (.inl (w64 (k + 1)))
  else
    some (.inr k)

def assign_attempt_grant (t : Attempt) (a : App) (x : Ask) : Option (Cont × Attempt) :=
  (asks_Take a.Asks x.Prio).bind fun x1 =>
  (
    bif a.State == 1 then
      some (⟨a.Id, 2, a.Queue, a.User, a.Prio, ⟨a.Master.Mem, a.Master.Cores⟩, [], t.s.Now, 0, a.Grants, a.Kills, a.Told, a.Lost⟩ : App)
    else
      (app 8 a.Grants [w64 ((shlK .i64 t.s.Epoch 20) + (w64 (t.s.Seq + 1)))]).bind fun l =>
      some (⟨a.Id, a.State, a.Queue, a.User, a.Prio, ⟨a.Master.Mem, a.Master.Cores⟩, x1.1, a.Seen, a.Beat, l, a.Kills, a.Told, a.Lost⟩ : App)).bind fun a1 =>
  (apps_Put (⟨⟨t.s.Conf.Labels, t.s.Conf.Queues⟩, t.s.Nodes, t.s.Apps, t.s.Conts, t.s.Slots, t.s.Plans, t.s.Now, t.s.Epoch, w64 (t.s.Seq + 1)⟩ : State) a1).bind fun x2 =>
  (loop (assign_attempt_grant_l1 t x2) 0).bind fun k1 =>
  (api_Cont__95 x2.Conts k1 [(⟨w64 ((shlK .i64 t.s.Epoch 20) + (w64 (t.s.Seq + 1))), a.Id, t.n.Id, ⟨x.Size.Mem, x.Size.Cores⟩, x.Prio, x.Label, a.State == 1, 0⟩ : Cont)]).bind fun x4 =>
  some ((⟨w64 ((shlK .i64 t.s.Epoch 20) + (w64 (t.s.Seq + 1))), a.Id, t.n.Id, ⟨x.Size.Mem, x.Size.Cores⟩, x.Prio, x.Label, a.State == 1, 0⟩ : Cont), (⟨⟨⟨x2.Conf.Labels, x2.Conf.Queues⟩, x2.Nodes, x2.Apps, x4, x2.Slots, x2.Plans, x2.Now, x2.Epoch, x2.Seq⟩, ⟨t.n.Id, t.n.Label, t.n.Rack, ⟨t.n.Cap.Mem, t.n.Cap.Cores⟩, t.n.Seen, t.n.Beat, t.n.Up⟩, ⟨t.free.Mem, t.free.Cores⟩⟩ : Attempt))
def h64 : Hint := (.s .z (.s .z (.s .z (.s .z (.s (.j [1, 4] [(0, [(4, .box (.st 8) [7, 10, 11, 12, 13])])] .z) (.s .z (.s .z (.s (.b (.l [(8, .v (.int .i64) [])] [8, 104] [(2, [(8, .v (.int .i64) [])])] (.s (.s (.j [] [(0, [(104, .v .bool [])])] .z) .z) .z))) .z))))))))
noncomputable def sp64 : Spec fam := ⟨[.box (.st 11) [], .v (.st 8) [7, 10, 11, 12, 13], .v (.st 7) []], [.v (.st 4) []], fun a => assign_attempt_grant a.1 a.2.1 a.2.2.1⟩

def assign_attempt_kept (t : Attempt) : Option (Int × Cont × Bool × Attempt) :=
  (api_Slot__52 t.s.Slots (fun a' => none)).bind fun i =>
  bif decide (i < 0) then
    some (0, (⟨0, 0, 0, ⟨0, 0⟩, 0, 0, false, 0⟩ : Cont), false, t)
  else
    (idx t.s.Slots i).bind fun x =>
    (apps_Find t.s x.App).bind fun x1 =>
    (assign_find x1.1 x.Prio).bind fun x2 =>
    (
      bif x1.2 then
        (apps_Live x1.1).bind fun x3 =>
        bif x3 then
          bif x2.2 then
            (local_May x2.1 t.n).bind fun x4 =>
            bif x4 then
              (assign_attempt_could t x2.1).bind fun x5 =>
              bif x5 then
                (assign_attempt_due t x1.1 x2.1).bind fun x6 =>
                bif x6 then
                  (assign_attempt_more t x1.1).bind fun x7 =>
                  some x7
                else
                  some false
              else
                some false
            else
              some false
          else
            some false
        else
          some false
      else
        some false).bind fun stays =>
    (
      bif stays then
        (assign_attempt_fits t x2.1).bind fun x8 =>
        bif x8 then
          (assign_attempt_room t x1.1 x2.1).bind fun x9 =>
          some (! x9)
        else
          some true
      else
        some false).bind fun q =>
    bif q then
      some (3, (⟨0, 0, 0, ⟨0, 0⟩, 0, 0, false, 0⟩ : Cont), true, t)
    else
      none
def h25 : Hint := (.s .z (.s .z (.s .z (.s .z (.s .z (.s .z (.s (.j [11] [(0, [(11, .v .bool [])])] .z) (.s (.s (.j [] [(0, [(91, .v .bool [])])] .z) .z) .z))))))))
noncomputable def sp25 : Spec fam := ⟨[.box (.st 11) []], [.v (.int .i64) [], .v (.st 4) [], .v .bool []], fun a => assign_attempt_kept a.1⟩

def rule_Kids_l1 (c : Conf) (path : List UInt8) (t : List (List UInt8) × Int) : Option ((List (List UInt8) × Int) ⊕ List (List UInt8)) :=
  bif decide (t.2 < (c.Queues.length : Int)) then
    (
      (idx c.Queues t.2).bind fun x =>
      (rule_above x.Path).bind fun x1 =>
      (
        bif x1.2 then
          some (x1.1 == path)
        else
          some false).bind fun q =>
      bif q then
        (app 16 t.1 [x.Path]).bind fun l =>
        some l
      else
        some t.1).bind fun out =>
    some (.inl (out, w64 (t.2 + 1)))
  else
    some (.inr t.1)

def rule_Kids (c : Conf) (path : List UInt8) : Option (List (List UInt8)) :=
  (loop (rule_Kids_l1 c path) ([], 0)).bind fun out1 =>
  some out1
def h149 : Hint := (.s .z (.s .z (.s (.s .z (.b (.l [(5, .v (.slice (.str)) [0]), (13, .v (.int .i64) [])] [5, 7, 8, 9, 13, 28] [(2, [(5, .v (.slice (.str)) [0])])] (.s .z (.s .z (.s (.j [5, 7, 8, 9, 28] [(0, [(5, .v (.slice (.str)) [0])])] (.b (.s .z (.s .z (.s (.j [] [(0, [(28, .v .bool [])])] .z) .z))))) .z)))))) .z)))
noncomputable def sp149 : Spec fam := ⟨[.v (.st 9) [], .v .str []], [.v (.slice (.str)) [0]], fun a => rule_Kids a.1 a.2.1⟩

def order_load_ (s : List Load) (f : (TupT fam [.st 13, .st 13] → Option Int)) : Option (List Load) := sortG (F := fam) (.st 13) f s
def h150 : Hint := .z
noncomputable def sp150 : Spec fam := ⟨[.row (.st 13) false, .fn [.st 13, .st 13] (.int .i64)], [], fun a => order_load_ a.1 a.2.1⟩

def cmp_Or_int__l1 (vals : List Int) (t : Int) : Option (Int ⊕ (Int ⊕ Unit)) :=
  bif decide (t < (vals.length : Int)) then
    (idx vals t).bind fun x =>
    bif x != 0 then
      some (.inr (.inl x))
    else
      some (.inl (w64 (t + 1)))
  else
    some (.inr (.inr ()))

def cmp_Or_int_ (vals : List Int) : Option Int :=
  (loop (cmp_Or_int__l1 vals) 0).bind fun q0 =>
  match q0 with
  | .inl q =>
    some q
  | .inr _ =>
    some 0
def h128 : Hint := (.s .z (.s .z (.s (.s .z (.b (.l [(8, .v (.int .i64) [])] [2, 5, 8] [(1, [(2, .v (.int .i64) [])]), (2, [])] .z))) .z)))
noncomputable def sp128 : Spec fam := ⟨[.v (.slice (.int .i64)) []], [.v (.int .i64) []], fun a => cmp_Or_int_ a.1⟩

def rvec_ratio_compare (r : Ratio) (q : Ratio) : Option Int :=
  (
    bif r.of == 0 then
      some (q.of == 0)
    else
      some false).bind fun q1 =>
  bif q1 then
    some 0
  else
    bif r.of == 0 then
      some 1
    else
      bif q.of == 0 then
        some (-1)
      else
        (bits_Mul64 r.n q.of).bind fun x =>
        (bits_Mul64 q.n r.of).bind fun x1 =>
        (
          bif decide (x.1 < x1.1) then
            some true
          else
            bif x.1 == x1.1 then
              some (decide (x.2 < x1.2))
            else
              some false).bind fun q2 =>
        bif q2 then
          some (-1)
        else
          (
            bif x.1 == x1.1 then
              some (x.2 == x1.2)
            else
              some false).bind fun q3 =>
          bif q3 then
            some 0
          else
            some 1
def h189 : Hint := (.s .z (.s (.b (.s (.j [] [(0, [(9, .v .bool [])])] .z) .z)) (.s .z (.s .z (.s (.b (.s (.j [] [(0, [(42, .v .bool [])])] .z) (.c .z (.s (.j [] [(0, [(56, .v .bool [])])] .z) .z)))) .z)))))
noncomputable def sp189 : Spec fam := ⟨[.v (.st 14) [], .v (.st 14) []], [.v (.int .i64) []], fun a => rvec_ratio_compare a.1 a.2.1⟩

def rvec_of (a : Vec) (p : Vec) (get : (TupT fam [.st 2] → Option Int)) : Option Ratio :=
  (get (a, ())).bind fun r =>
  (get (p, ())).bind fun r1 =>
  bif r == 0 then
    some (⟨0, 1⟩ : Ratio)
  else
    some (⟨IntKind.u64.wrap r, IntKind.u64.wrap r1⟩ : Ratio)
def h201 : Hint := .z
noncomputable def sp201 : Spec fam := ⟨[.v (.st 2) [], .v (.st 2) [], .fn [.st 2] (.int .i64)], [.v (.st 14) []], fun a => rvec_of a.1 a.2.1 a.2.2.1⟩

def rvec_vec_mem (v : Vec) : Option Int :=
  some v.Mem
def h202 : Hint := .z
noncomputable def sp202 : Spec fam := ⟨[.v (.st 2) []], [.v (.int .i64) []], fun a => rvec_vec_mem a.1⟩

def rvec_vec_cores (v : Vec) : Option Int :=
  some v.Cores
def h203 : Hint := .z
noncomputable def sp203 : Spec fam := ⟨[.v (.st 2) []], [.v (.int .i64) []], fun a => rvec_vec_cores a.1⟩

def rvec_load (a : Vec) (p : Vec) : Option Ratio :=
  (rvec_of a p (fun a' => rvec_vec_mem a'.1)).bind fun x =>
  (rvec_of a p (fun a' => rvec_vec_cores a'.1)).bind fun x1 =>
  (rvec_ratio_compare x x1).bind fun x2 =>
  bif decide (x2 < 0) then
    some x1
  else
    some x
def h188 : Hint := .z
noncomputable def sp188 : Spec fam := ⟨[.v (.st 2) [], .v (.st 2) []], [.v (.st 14) []], fun a => rvec_load a.1 a.2.1⟩

def rvec_Order (a : Vec) (p : Vec) (b : Vec) (q : Vec) : Option Int :=
  (
    (rvec_vec_good a).bind fun x =>
    bif ! x then
      some true
    else
      (rvec_vec_good p).bind fun x1 =>
      bif ! x1 then
        some true
      else
        (rvec_vec_good b).bind fun x2 =>
        bif ! x2 then
          some true
        else
          (rvec_vec_good q).bind fun x3 =>
          some (! x3)).bind fun q1 =>
  bif q1 then
    some 0
  else
    (rvec_load a p).bind fun x4 =>
    (rvec_load b q).bind fun x5 =>
    (rvec_ratio_compare x4 x5).bind fun x6 =>
    some x6
def h167 : Hint := (.s .z (.s (.s (.j [] [(0, [(26, .v .bool [])])] .z) .z) .z))
noncomputable def sp167 : Spec fam := ⟨[.v (.st 2) [], .v (.st 2) [], .v (.st 2) [], .v (.st 2) []], [.v (.int .i64) []], fun a => rvec_Order a.1 a.2.1 a.2.2.1 a.2.2.2.1⟩

def cmp_isNaN_string_ (x : List UInt8) : Option Bool :=
  some (! (x == x))
def h190 : Hint := .z
noncomputable def sp190 : Spec fam := ⟨[.v .str []], [.v .bool []], fun a => cmp_isNaN_string_ a.1⟩

def cmp_Compare_string_ (x : List UInt8) (y : List UInt8) : Option Int :=
  (cmp_isNaN_string_ x).bind fun xNaN =>
  (cmp_isNaN_string_ y).bind fun yNaN =>
  bif xNaN then
    bif yNaN then
      some 0
    else
      some (-1)
  else
    bif yNaN then
      some 1
    else
      bif Op.bytesLess x y then
        some (-1)
      else
        bif ! (strLe x y) then
          some 1
        else
          some 0
def h168 : Hint := .z
noncomputable def sp168 : Spec fam := ⟨[.v .str [], .v .str []], [.v (.int .i64) []], fun a => cmp_Compare_string_ a.1 a.2.1⟩

def order_load_compare (a : Load) (b : Load) : Option Int :=
  (rvec_Order a.used a.least b.used b.least).bind fun x =>
  (cmp_Compare_string_ a.path b.path).bind fun x1 =>
  (cmp_Or_int_ [x, x1]).bind fun x2 =>
  some x2
def h151 : Hint := .z
noncomputable def sp151 : Spec fam := ⟨[.v (.st 13) [], .v (.st 13) []], [.v (.int .i64) []], fun a => order_load_compare a.1 a.2.1⟩

def order_Kids_l2 (x4 : List Load) (t1 : List (List UInt8) × Int) : Option ((List (List UInt8) × Int) ⊕ List (List UInt8)) :=
  bif decide (t1.2 < (x4.length : Int)) then
    (inb t1.2 x4.length).bind fun i1 =>
    (x4[i1]?).bind fun x5 =>
    (inS t1.2 (t1.1.length : Int) t1.1.length).bind fun p =>
    some (.inl (cpy t1.1 p.1 p.2 [x5.path], w64 (t1.2 + 1)))
  else
    some (.inr t1.1)

def order_Kids_l1 (s : State) (label : Int) (x : List (List UInt8)) (t : List Load × Int) : Option ((List Load × Int) ⊕ List Load) :=
  bif decide (t.2 < (x.length : Int)) then
    (inb t.2 x.length).bind fun i =>
    (x[i]?).bind fun x1 =>
    (qtree_Used s x1 label).bind fun x2 =>
    (share_Least s x1 label).bind fun x3 =>
    (app 48 t.1 [(⟨x1, ⟨x2.Mem, x2.Cores⟩, ⟨x3.Mem, x3.Cores⟩⟩ : Load)]).bind fun l =>
    some (.inl (l, w64 (t.2 + 1)))
  else
    some (.inr t.1)

def order_Kids (s : State) (path : List UInt8) (label : Int) : Option (List (List UInt8)) :=
  (rule_Kids s.Conf path).bind fun x =>
  (loop (order_Kids_l1 s label x) ([], 0)).bind fun l1 =>
  (order_load_ l1 (fun a' => order_load_compare a'.1 a'.2.1)).bind fun x4 =>
  (mkl 16 (x4.length : Int) (x4.length : Int) []).bind fun l2 =>
  (loop (order_Kids_l2 x4) (l2, 0)).bind fun out =>
  some out
def h125 : Hint := (.s .z (.s .z (.s (.s .z (.b (.l [(7, .v (.slice (.st 13)) [0]), (18, .v (.int .i64) [])] [7, 9, 18, 19, 20, 21, 22, 23, 24, 25, 26, 27, 28, 29, 30, 31, 32, 33, 34, 35] [(2, [(7, .v (.slice (.st 13)) [0])])] .z))) (.s .z (.s .z (.s (.s .z (.b (.l [(10, .row .str false), (43, .v (.int .i64) [])] [10, 11, 12, 43] [(4, [(10, .row .str false)])] .z))) .z))))))
noncomputable def sp125 : Spec fam := ⟨[.v (.st 10) [], .v .str [], .v (.int .i64) []], [.v (.slice (.str)) [0]], fun a => order_Kids a.1 a.2.1 a.2.2.1⟩

def order_below_s_l1 (s : State) (label : Int) (deep : Int) (self : State → (List UInt8) → Int → Int → Option (List (List UInt8))) (kids : List (List UInt8)) (t : List (List UInt8) × Int) : Option ((List (List UInt8) × Int) ⊕ List (List UInt8)) :=
  bif decide (t.2 < (kids.length : Int)) then
    (inb t.2 kids.length).bind fun i =>
    (kids[i]?).bind fun x =>
    (self s x label (w64 (deep + 1))).bind fun x1 =>
    (app 16 t.1 x1).bind fun l =>
    some (.inl (l, w64 (t.2 + 1)))
  else
    some (.inr t.1)

def order_below_s (self : State → (List UInt8) → Int → Int → Option (List (List UInt8))) (s : State) (path : List UInt8) (label : Int) (deep : Int) : Option (List (List UInt8)) :=
  (order_Kids s path label).bind fun kids =>
  (
    bif (kids.length : Int) == 0 then
      some true
    else
      some (decide (deep > 4))).bind fun q =>
  bif q then
    some [path]
  else
    (loop (order_below_s_l1 s label deep self kids) ([], 0)).bind fun out =>
    some out

def order_below_r : Nat → State → (List UInt8) → Int → Int → Option (List (List UInt8))
  | 0 => fun _ _ _ _ => none
  | n + 1 => order_below_s (order_below_r n)

def order_below (a0 : State) (a1 : List UInt8) (a2 : Int) (a3 : Int) : Option (List (List UInt8)) := order_below_r 64 a0 a1 a2 a3
def h96 : Hint := (.s .z (.s .z (.s (.s (.j [17, 18, 19, 20, 21, 22, 23] [(0, [(23, .v .bool [])])] .z) .z) (.s .z (.s (.s .z (.b (.l [(10, .v (.slice (.str)) [0]), (28, .v (.int .i64) [])] [10, 12, 28] [(2, [(10, .v (.slice (.str)) [0])])] .z))) .z)))))
noncomputable def sp96 : Spec fam := ⟨[.v (.st 10) [], .v .str [], .v (.int .i64) [], .v (.int .i64) []], [.v (.slice (.str)) [0]], fun a => order_below a.1 a.2.1 a.2.2.1 a.2.2.2.1⟩

noncomputable def sp96_r (n : Nat) : Spec fam := ⟨[.v (.st 10) [], .v .str [], .v (.int .i64) [], .v (.int .i64) []], [.v (.slice (.str)) [0]], fun a => order_below_r n a.1 a.2.1 a.2.2.1 a.2.2.2.1⟩

def order_Leaves (s : State) (label : Int) : Option (List (List UInt8)) :=
  (order_below s ([114, 111, 111, 116] : List UInt8) label 1).bind fun x =>
  some x
def h65 : Hint := .z
noncomputable def sp65 : Spec fam := ⟨[.v (.st 10) [], .v (.int .i64) []], [.v (.slice (.str)) [0]], fun a => order_Leaves a.1 a.2.1⟩

def api_App__169_l2 (a : Int) (cmp : (TupT fam [.st 8, .st 8] → Option Int)) (t1 : List App × Int) : Option ((List App × Int) ⊕ List App) :=
  (
    bif decide (t1.2 > a) then
      (inb t1.2 t1.1.length).bind fun i =>
      (t1.1[i]?).bind fun x =>
      (inb (w64 (t1.2 - 1)) t1.1.length).bind fun i1 =>
      (t1.1[i1]?).bind fun x1 =>
      (cmp (x, x1, ())).bind fun r =>
      some (decide (r < 0))
    else
      some false).bind fun q =>
  bif q then
    (inb (w64 (t1.2 - 1)) t1.1.length).bind fun i2 =>
    (t1.1[i2]?).bind fun x2 =>
    (inb t1.2 t1.1.length).bind fun i3 =>
    (t1.1[i3]?).bind fun x3 =>
    (inb t1.2 t1.1.length).bind fun i4 =>
    (t1.1[i4]?).bind fun x4 =>
    (inb (w64 (t1.2 - 1)) (List.set t1.1 i4 x2).length).bind fun i5 =>
    ((List.set t1.1 i4 x2)[i5]?).bind fun x5 =>
    some (.inl (List.set (List.set t1.1 i4 x2) i5 x3, w64 (t1.2 - 1)))
  else
    some (.inr t1.1)

def api_App__169_l1 (a : Int) (b : Int) (cmp : (TupT fam [.st 8, .st 8] → Option Int)) (t : List App × Int) : Option ((List App × Int) ⊕ List App) :=
  bif decide (t.2 < b) then
    (loop (api_App__169_l2 a cmp) (t.1, t.2)).bind fun data1 =>
    some (.inl (data1, w64 (t.2 + 1)))
  else
    some (.inr t.1)

def api_App__169 (data : List App) (a : Int) (b : Int) (cmp : (TupT fam [.st 8, .st 8] → Option Int)) : Option (List App) :=
  (loop (api_App__169_l1 a b cmp) (data, w64 (a + 1))).bind fun data2 =>
  some data2
def h169 : Hint := (.s .z (.b (.l [(0, .row (.st 8) false), (8, .v (.int .i64) [])] [0, 8, 9, 34] [(2, [(0, .row (.st 8) false)])] (.s .z (.s (.b (.s .z (.b (.l [(0, .row (.st 8) false), (9, .v (.int .i64) [])] [0, 9, 34] [(4, [(0, .row (.st 8) false)])] (.s (.s (.j [] [(0, [(34, .v .bool [])])] .z) .z) .z))))) .z)))))
noncomputable def sp169 : Spec fam := ⟨[.row (.st 8) false, .v (.int .i64) [], .v (.int .i64) [], .fn [.st 8, .st 8] (.int .i64)], [], fun a => api_App__169 a.1 a.2.1 a.2.2.1 a.2.2.2.1⟩

def api_App__204_l1 (a : Int) (b : Int) (n : Int) (t : List App × Int) : Option ((List App × Int) ⊕ List App) :=
  bif decide (t.2 < n) then
    (inb (w64 (b + t.2)) t.1.length).bind fun i =>
    (t.1[i]?).bind fun x =>
    (inb (w64 (a + t.2)) t.1.length).bind fun i1 =>
    (t.1[i1]?).bind fun x1 =>
    (inb (w64 (a + t.2)) t.1.length).bind fun i2 =>
    (t.1[i2]?).bind fun x2 =>
    (inb (w64 (b + t.2)) (List.set t.1 i2 x).length).bind fun i3 =>
    ((List.set t.1 i2 x)[i3]?).bind fun x3 =>
    some (.inl (List.set (List.set t.1 i2 x) i3 x1, w64 (t.2 + 1)))
  else
    some (.inr t.1)

def api_App__204 (data : List App) (a : Int) (b : Int) (n : Int) (cmp : (TupT fam [.st 8, .st 8] → Option Int)) : Option (List App) :=
  (loop (api_App__204_l1 a b n) (data, 0)).bind fun data1 =>
  some data1
def h204 : Hint := (.s .z (.b (.l [(0, .row (.st 8) false), (10, .v (.int .i64) [])] [0, 10] [(2, [(0, .row (.st 8) false)])] .z)))
noncomputable def sp204 : Spec fam := ⟨[.row (.st 8) false, .v (.int .i64) [], .v (.int .i64) [], .v (.int .i64) [], .fn [.st 8, .st 8] (.int .i64)], [], fun a => api_App__204 a.1 a.2.1 a.2.2.1 a.2.2.2.1 a.2.2.2.2.1⟩

def api_App__191_l1 (m : Int) (cmp : (TupT fam [.st 8, .st 8] → Option Int)) (t : List App × Int × Int) : Option ((List App × Int × Int) ⊕ ((List App × Int))) :=
  bif t.2.1 != t.2.2 then
    bif decide (t.2.1 > t.2.2) then
      (api_App__204 t.1 (w64 (m - t.2.1)) m t.2.2 cmp).bind fun x =>
      let i := w64 (t.2.1 - t.2.2)
      some (.inl (x, i, t.2.2))
    else
      (api_App__204 t.1 (w64 (m - t.2.1)) (w64 ((w64 (m + t.2.2)) - t.2.1)) t.2.1 cmp).bind fun x1 =>
      let j := w64 (t.2.2 - t.2.1)
      some (.inl (x1, t.2.1, j))
  else
    some (.inr (t.1, t.2.1))

def api_App__191 (data : List App) (a : Int) (m : Int) (b : Int) (cmp : (TupT fam [.st 8, .st 8] → Option Int)) : Option (List App) :=
  (loop (api_App__191_l1 m cmp) (data, w64 (m - a), w64 (b - m))).bind fun q =>
  (api_App__204 q.1 (w64 (m - q.2)) m q.2 cmp).bind fun x2 =>
  some x2
def h191 : Hint := (.s .z (.s .z (.s (.b (.l [(0, .row (.st 8) false), (10, .v (.int .i64) []), (11, .v (.int .i64) [])] [0, 10, 11] [(2, [(0, .row (.st 8) false), (10, .v (.int .i64) [])])] .z)) .z)))
noncomputable def sp191 : Spec fam := ⟨[.row (.st 8) false, .v (.int .i64) [], .v (.int .i64) [], .v (.int .i64) [], .fn [.st 8, .st 8] (.int .i64)], [], fun a => api_App__191 a.1 a.2.1 a.2.2.1 a.2.2.2.1 a.2.2.2.2.1⟩

def api_App__170_s_l5 (data : List App) (cmp : (TupT fam [.st 8, .st 8] → Option Int)) (p : Int) (t4 : Int × Int) : Option ((Int × Int) ⊕ Int) :=
  bif decide (t4.1 < t4.2) then
    let c := w64 (shrK .u64 (IntKind.u64.wrap (w64 (t4.1 + t4.2))) 1)
    (inb (w64 (p - c)) data.length).bind fun i14 =>
    (data[i14]?).bind fun x12 =>
    (inb c data.length).bind fun i15 =>
    (data[i15]?).bind fun x13 =>
    (cmp (x12, x13, ())).bind fun r2 =>
    bif ! (decide (r2 < 0)) then
      some (.inl (w64 (c + 1), t4.2))
    else
      some (.inl (t4.1, c))
  else
    some (.inr t4.1)

def api_App__170_s_l4 (i9 : Int) (t3 : List App × Int) : Option ((List App × Int) ⊕ List App) :=
  bif decide (t3.2 > i9) then
    (inb (w64 (t3.2 - 1)) t3.1.length).bind fun i10 =>
    (t3.1[i10]?).bind fun x8 =>
    (inb t3.2 t3.1.length).bind fun i11 =>
    (t3.1[i11]?).bind fun x9 =>
    (inb t3.2 t3.1.length).bind fun i12 =>
    (t3.1[i12]?).bind fun x10 =>
    (inb (w64 (t3.2 - 1)) (List.set t3.1 i12 x8).length).bind fun i13 =>
    ((List.set t3.1 i12 x8)[i13]?).bind fun x11 =>
    some (.inl (List.set (List.set t3.1 i12 x8) i13 x9, w64 (t3.2 - 1)))
  else
    some (.inr t3.1)

def api_App__170_s_l3 (data : List App) (m : Int) (cmp : (TupT fam [.st 8, .st 8] → Option Int)) (t2 : Int × Int) : Option ((Int × Int) ⊕ Int) :=
  bif decide (t2.1 < t2.2) then
    let h1 := w64 (shrK .u64 (IntKind.u64.wrap (w64 (t2.1 + t2.2))) 1)
    (inb m data.length).bind fun i7 =>
    (data[i7]?).bind fun x6 =>
    (inb h1 data.length).bind fun i8 =>
    (data[i8]?).bind fun x7 =>
    (cmp (x6, x7, ())).bind fun r1 =>
    bif ! (decide (r1 < 0)) then
      some (.inl (w64 (h1 + 1), t2.2))
    else
      some (.inl (t2.1, h1))
  else
    some (.inr t2.1)

def api_App__170_s_l2 (i2 : Int) (t1 : List App × Int) : Option ((List App × Int) ⊕ List App) :=
  bif decide (t1.2 < (w64 (i2 - 1))) then
    (inb (w64 (t1.2 + 1)) t1.1.length).bind fun i3 =>
    (t1.1[i3]?).bind fun x2 =>
    (inb t1.2 t1.1.length).bind fun i4 =>
    (t1.1[i4]?).bind fun x3 =>
    (inb t1.2 t1.1.length).bind fun i5 =>
    (t1.1[i5]?).bind fun x4 =>
    (inb (w64 (t1.2 + 1)) (List.set t1.1 i5 x2).length).bind fun i6 =>
    ((List.set t1.1 i5 x2)[i6]?).bind fun x5 =>
    some (.inl (List.set (List.set t1.1 i5 x2) i6 x3, w64 (t1.2 + 1)))
  else
    some (.inr t1.1)

def api_App__170_s_l1 (data : List App) (a : Int) (cmp : (TupT fam [.st 8, .st 8] → Option Int)) (t : Int × Int) : Option ((Int × Int) ⊕ Int) :=
  bif decide (t.1 < t.2) then
    let h := w64 (shrK .u64 (IntKind.u64.wrap (w64 (t.1 + t.2))) 1)
    (inb h data.length).bind fun i =>
    (data[i]?).bind fun x =>
    (inb a data.length).bind fun i1 =>
    (data[i1]?).bind fun x1 =>
    (cmp (x, x1, ())).bind fun r =>
    bif decide (r < 0) then
      some (.inl (w64 (h + 1), t.2))
    else
      some (.inl (t.1, h))
  else
    some (.inr t.1)

def api_App__170_s (self : (List App) → Int → Int → Int → ((TupT fam [.st 8, .st 8] → Option Int)) → Option (List App)) (data : List App) (a : Int) (m : Int) (b : Int) (cmp : (TupT fam [.st 8, .st 8] → Option Int)) : Option (List App) :=
  bif (w64 (m - a)) == 1 then
    (loop (api_App__170_s_l1 data a cmp) (m, b)).bind fun i2 =>
    (loop (api_App__170_s_l2 i2) (data, a)).bind fun data1 =>
    some data1
  else
    bif (w64 (b - m)) == 1 then
      (loop (api_App__170_s_l3 data m cmp) (a, m)).bind fun i9 =>
      (loop (api_App__170_s_l4 i9) (data, m)).bind fun data2 =>
      some data2
    else
      let mid := w64 (shrK .u64 (IntKind.u64.wrap (w64 (a + b))) 1)
      (
        bif decide (m > mid) then
          let start := w64 ((w64 (mid + m)) - b)
          some (start, mid)
        else
          some (a, m)).bind fun q =>
      let p := w64 ((w64 (mid + m)) - 1)
      (loop (api_App__170_s_l5 data cmp p) (q.1, q.2)).bind fun start1 =>
      let end_ := w64 ((w64 (mid + m)) - start1)
      (
        (
          bif decide (start1 < m) then
            some (decide (m < end_))
          else
            some false).bind fun q1 =>
        bif q1 then
          (api_App__191 data start1 m end_ cmp).bind fun x14 =>
          some x14
        else
          some data).bind fun data3 =>
      (
        (
          bif decide (a < start1) then
            some (decide (start1 < mid))
          else
            some false).bind fun q2 =>
        bif q2 then
          (self data3 a start1 mid cmp).bind fun x15 =>
          some x15
        else
          some data3).bind fun data4 =>
      (
        bif decide (mid < end_) then
          some (decide (end_ < b))
        else
          some false).bind fun q3 =>
      bif q3 then
        (self data4 mid end_ b cmp).bind fun x16 =>
        some x16
      else
        some data4

def api_App__170_r : Nat → (List App) → Int → Int → Int → ((TupT fam [.st 8, .st 8] → Option Int)) → Option (List App)
  | 0 => fun _ _ _ _ _ => none
  | n + 1 => api_App__170_s (api_App__170_r n)

def api_App__170 (a0 : List App) (a1 : Int) (a2 : Int) (a3 : Int) (a4 : (TupT fam [.st 8, .st 8] → Option Int)) : Option (List App) := api_App__170_r 64 a0 a1 a2 a3 a4
def h170 : Hint := (.s (.s .z (.c (.s .z (.s .z (.s (.b (.l [(10, .v (.int .i64) []), (11, .v (.int .i64) [])] [10, 11, 12] [(2, [(10, .v (.int .i64) [])])] .z)) (.s (.s .z (.b (.l [(0, .row (.st 8) false), (13, .v (.int .i64) [])] [0, 13] [(4, [(0, .row (.st 8) false)])] .z))) .z)))) .z)) (.s (.s .z (.c (.s .z (.s .z (.s (.b (.l [(14, .v (.int .i64) []), (15, .v (.int .i64) [])] [14, 15, 16] [(6, [(14, .v (.int .i64) [])])] .z)) (.s (.s .z (.b (.l [(0, .row (.st 8) false), (17, .v (.int .i64) [])] [0, 17] [(8, [(0, .row (.st 8) false)])] .z))) .z)))) .z)) (.s .z (.s .z (.s .z (.s (.j [20, 21] [(0, [(20, .v (.int .i64) []), (21, .v (.int .i64) [])])] .z) (.s .z (.s (.b (.l [(20, .v (.int .i64) []), (21, .v (.int .i64) [])] [20, 21, 23] [(10, [(20, .v (.int .i64) [])])] .z)) (.s .z (.s (.j [0, 185] [(0, [(0, .row (.st 8) false)])] (.s (.j [] [(0, [(185, .v .bool [])])] .z) .z)) (.s (.j [0, 199] [(0, [(0, .row (.st 8) false)])] (.s (.j [] [(0, [(199, .v .bool [])])] .z) .z)) (.s (.j [] [(0, [(213, .v .bool [])])] .z) .z))))))))))))
noncomputable def sp170 : Spec fam := ⟨[.row (.st 8) false, .v (.int .i64) [], .v (.int .i64) [], .v (.int .i64) [], .fn [.st 8, .st 8] (.int .i64)], [], fun a => api_App__170 a.1 a.2.1 a.2.2.1 a.2.2.2.1 a.2.2.2.2.1⟩

noncomputable def sp170_r (n : Nat) : Spec fam := ⟨[.row (.st 8) false, .v (.int .i64) [], .v (.int .i64) [], .v (.int .i64) [], .fn [.st 8, .st 8] (.int .i64)], [], fun a => api_App__170_r n a.1 a.2.1 a.2.2.1 a.2.2.2.1 a.2.2.2.2.1⟩

def api_App__152_l3 (n : Int) (cmp : (TupT fam [.st 8, .st 8] → Option Int)) (t1 : List App × Int) (t2 : List App × Int × Int) : Option ((List App × Int × Int) ⊕ ((List App × Int))) :=
  bif decide (t2.2.2 ≤ n) then
    (api_App__170 t2.1 t2.2.1 (w64 (t2.2.1 + t1.2)) t2.2.2 cmp).bind fun x2 =>
    let b := w64 (t2.2.2 + (w64 (2 * t1.2)))
    some (.inl (x2, t2.2.2, b))
  else
    some (.inr (t2.1, t2.2.1))

def api_App__152_l2 (n : Int) (cmp : (TupT fam [.st 8, .st 8] → Option Int)) (t1 : List App × Int) : Option ((List App × Int) ⊕ List App) :=
  bif decide (t1.2 < n) then
    (loop (api_App__152_l3 n cmp t1) (t1.1, 0, w64 (2 * t1.2))).bind fun q1 =>
    (
      let m := w64 (q1.2 + t1.2)
      bif decide (m < n) then
        (api_App__170 q1.1 q1.2 m n cmp).bind fun x3 =>
        some x3
      else
        some q1.1).bind fun data1 =>
    some (.inl (data1, w64 (t1.2 * 2)))
  else
    some (.inr t1.1)

def api_App__152_l1 (n : Int) (cmp : (TupT fam [.st 8, .st 8] → Option Int)) (t : List App × Int × Int) : Option ((List App × Int × Int) ⊕ ((List App × Int))) :=
  bif decide (t.2.2 ≤ n) then
    (api_App__169 t.1 t.2.1 t.2.2 cmp).bind fun x =>
    some (.inl (x, t.2.2, w64 (t.2.2 + 20)))
  else
    some (.inr (t.1, t.2.1))

def api_App__152 (data : List App) (n : Int) (cmp : (TupT fam [.st 8, .st 8] → Option Int)) : Option (List App) :=
  (loop (api_App__152_l1 n cmp) (data, 0, 20)).bind fun q =>
  (api_App__169 q.1 q.2 n cmp).bind fun x1 =>
  (loop (api_App__152_l2 n cmp) (x1, 20)).bind fun data2 =>
  some data2
def h152 : Hint := (.s .z (.s .z (.s (.b (.l [(0, .row (.st 8) false), (7, .v (.int .i64) []), (8, .v (.int .i64) [])] [0, 7, 8] [(2, [(0, .row (.st 8) false), (7, .v (.int .i64) [])])] .z)) (.s .z (.b (.l [(0, .row (.st 8) false), (6, .v (.int .i64) [])] [0, 6, 7, 8, 9] [(4, [(0, .row (.st 8) false)])] (.s .z (.b (.s .z (.s (.b (.l [(0, .row (.st 8) false), (7, .v (.int .i64) []), (8, .v (.int .i64) [])] [0, 7, 8] [(6, [(0, .row (.st 8) false), (7, .v (.int .i64) [])])] .z)) (.s (.j [0, 9] [(0, [(0, .row (.st 8) false)])] .z) .z)))))))))))
noncomputable def sp152 : Spec fam := ⟨[.row (.st 8) false, .v (.int .i64) [], .fn [.st 8, .st 8] (.int .i64)], [], fun a => api_App__152 a.1 a.2.1 a.2.2.1⟩

def api_App__126 (x : List App) (cmp : (TupT fam [.st 8, .st 8] → Option Int)) : Option (List App) :=
  (api_App__152 x (x.length : Int) cmp).bind fun x1 =>
  some x1
def h126 : Hint := .z
noncomputable def sp126 : Spec fam := ⟨[.row (.st 8) false, .fn [.st 8, .st 8] (.int .i64)], [], fun a => api_App__126 a.1 a.2.1⟩

def cmp_isNaN_int_ (x : Int) : Option Bool :=
  some (x != x)
def h153 : Hint := .z
noncomputable def sp153 : Spec fam := ⟨[.v (.int .i64) []], [.v .bool []], fun a => cmp_isNaN_int_ a.1⟩

def cmp_Compare_int_ (x : Int) (y : Int) : Option Int :=
  (cmp_isNaN_int_ x).bind fun xNaN =>
  (cmp_isNaN_int_ y).bind fun yNaN =>
  bif xNaN then
    bif yNaN then
      some 0
    else
      some (-1)
  else
    bif yNaN then
      some 1
    else
      bif decide (x < y) then
        some (-1)
      else
        bif decide (x > y) then
          some 1
        else
          some 0
def h129 : Hint := .z
noncomputable def sp129 : Spec fam := ⟨[.v (.int .i64) [], .v (.int .i64) []], [.v (.int .i64) []], fun a => cmp_Compare_int_ a.1 a.2.1⟩

def order_Apps_1 (a : App) (b : App) : Option Int :=
  (cmp_Compare_int_ b.Prio a.Prio).bind fun x =>
  (cmp_Compare_int_ a.Id b.Id).bind fun x1 =>
  (cmp_Or_int_ [x, x1]).bind fun x2 =>
  some x2
def h127 : Hint := .z
noncomputable def sp127 : Spec fam := ⟨[.v (.st 8) [], .v (.st 8) []], [.v (.int .i64) []], fun a => order_Apps_1 a.1 a.2.1⟩

def order_Apps_l2 (x2 : List App) (t1 : List Int × Int) : Option ((List Int × Int) ⊕ List Int) :=
  bif decide (t1.2 < (x2.length : Int)) then
    (inb t1.2 x2.length).bind fun i =>
    (x2[i]?).bind fun x3 =>
    (inb t1.2 t1.1.length).bind fun i1 =>
    (t1.1[i1]?).bind fun x4 =>
    some (.inl (List.set t1.1 i1 x3.Id, w64 (t1.2 + 1)))
  else
    some (.inr t1.1)

def order_Apps_l1 (s : State) (queue : List UInt8) (t : List App × Int) : Option ((List App × Int) ⊕ List App) :=
  bif decide (t.2 < (s.Apps.length : Int)) then
    (
      (idx s.Apps t.2).bind fun x =>
      (
        (apps_Live x).bind fun x1 =>
        bif x1 then
          some (x.Queue == queue)
        else
          some false).bind fun q =>
      bif q then
        (app 200 t.1 [x]).bind fun l =>
        some l
      else
        some t.1).bind fun l1 =>
    some (.inl (l1, w64 (t.2 + 1)))
  else
    some (.inr t.1)

def order_Apps (s : State) (queue : List UInt8) : Option (List Int) :=
  (loop (order_Apps_l1 s queue) ([], 0)).bind fun l2 =>
  (api_App__126 l2 (fun a' => order_Apps_1 a'.1 a'.2.1)).bind fun x2 =>
  (mkl 8 (x2.length : Int) (x2.length : Int) 0).bind fun l3 =>
  (loop (order_Apps_l2 x2) (l3, 0)).bind fun out =>
  some out
def h97 : Hint := (.s .z (.s .z (.s (.s .z (.b (.l [(5, .v (.slice (.st 8)) [0]), (14, .v (.int .i64) [])] [5, 7, 14, 15, 16, 17, 18, 19, 20, 21, 22, 23, 24, 25, 26, 27, 28, 29, 30] [(2, [(5, .v (.slice (.st 8)) [0])])] (.s .z (.s .z (.s (.j [5, 7, 16, 17, 18, 19, 20, 21, 22, 23, 24, 25, 26, 27, 28, 29] [(0, [(5, .v (.slice (.st 8)) [0])])] (.b (.s .z (.s (.j [18, 19, 20, 21, 22, 23, 24, 25] [(0, [(25, .v .bool [])])] .z) .z)))) .z)))))) (.s .z (.s .z (.s (.s .z (.b (.l [(8, .row (.int .i64) false), (38, .v (.int .i64) [])] [8, 9, 10, 38] [(4, [(8, .row (.int .i64) false)])] .z))) .z))))))
noncomputable def sp97 : Spec fam := ⟨[.v (.st 10) [], .v .str []], [.v (.slice (.int .i64)) [0]], fun a => order_Apps a.1 a.2.1⟩

def assign_attempt_miss (_a0 : Attempt) (_a1 : App) (_a2 : Int) : Option App := none
def h99 : Hint := .z
noncomputable def sp99 : Spec fam := ⟨[.rp (.st 11), .v (.st 8) [], .v (.int .i64) []], [.v (.st 8) []], fun a => assign_attempt_miss a.1 a.2.1 a.2.2.1⟩

def assign_attempt_hold (_a0 : Attempt) (_a1 : Int) (_a2 : Int) : Option Bool := none
def h100 : Hint := .z
noncomputable def sp100 : Spec fam := ⟨[.rp (.st 11), .v (.int .i64) [], .v (.int .i64) []], [.v .bool []], fun a => assign_attempt_hold a.1 a.2.1 a.2.2.1⟩

def assign_attempt_round_l3 (first : Bool) (may : (TupT fam [.st 7, .st 3] → Option Bool)) (x5 : List Ask) (t3 : Attempt × Cont × App × Int) : Option ((Attempt × Cont × App × Int) ⊕ ((Attempt × Int × Cont) ⊕ (Attempt × Cont))) :=
  bif decide (t3.2.2.2 < (x5.length : Int)) then
    (
      (inb t3.2.2.2 x5.length).bind fun i1 =>
      (x5[i1]?).bind fun x6 =>
      (assign_attempt_due t3.1 t3.2.2.1 x6).bind fun due =>
      (
        (assign_attempt_could t3.1 x6).bind fun x7 =>
        bif ! x7 then
          some true
        else
          bif first then
            some (! due)
          else
            some false).bind fun q =>
      bif q then
        some (.inl (t3.1, t3.2.1, t3.2.2.1))
      else
        (may (x6, t3.1.n, ())).bind fun r =>
        bif ! r then
          bif first == due then
            none
          else
            some (.inl (t3.1, t3.2.1, t3.2.2.1))
        else
          (assign_attempt_room t3.1 t3.2.2.1 x6).bind fun x8 =>
          bif ! x8 then
            some (.inl (t3.1, t3.2.1, t3.2.2.1))
          else
            (assign_attempt_fits t3.1 x6).bind fun x9 =>
            bif x9 then
              (assign_attempt_grant t3.1 t3.2.2.1 x6).bind fun x10 =>
              some (.inr (x10.2, 1, x10.1))
            else
              bif first then
                none
              else
                some (.inl (t3.1, t3.2.1, t3.2.2.1)) : Option ((Attempt × Cont × App) ⊕ (Attempt × Int × Cont))).bind fun q0 =>
    match q0 with
    | .inl q1 =>
      some (.inl (q1.1, q1.2.1, q1.2.2, w64 (t3.2.2.2 + 1)))
    | .inr q2 =>
      some (.inr (.inl (q2.1, q2.2.1, q2.2.2)))
  else
    some (.inr (.inr (t3.1, t3.2.1)))

def assign_attempt_round_l2 (first : Bool) (may : (TupT fam [.st 7, .st 3] → Option Bool)) (x1 : List Int) (t2 : Attempt × Cont × Int) : Option ((Attempt × Cont × Int) ⊕ ((Attempt × Int × Cont) ⊕ (Attempt × Cont) ⊕ (Attempt × Cont))) :=
  bif decide (t2.2.2 < (x1.length : Int)) then
    (
      (inb t2.2.2 x1.length).bind fun i =>
      (x1[i]?).bind fun x2 =>
      (apps_Find t2.1.s x2).bind fun x3 =>
      bif ! x3.2 then
        some (.inr (.inr (t2.1, t2.2.1)))
      else
        (assign_attempt_more t2.1 x3.1).bind fun x4 =>
        bif ! x4 then
          some (.inl (t2.1, t2.2.1))
        else
          (api_Ask_ x3.1.Asks).bind fun x5 =>
          (loop (assign_attempt_round_l3 first may x5) (t2.1, t2.2.1, x3.1, 0)).bind fun q0 =>
          match q0 with
          | .inl q3 =>
            some (.inr (.inl (q3.1, q3.2.1, q3.2.2)))
          | .inr q4 =>
            some (.inl (q4.1, q4.2)) : Option ((Attempt × Cont) ⊕ (Attempt × Int × Cont) ⊕ (Attempt × Cont))).bind fun q0 =>
    match q0 with
    | .inl q5 =>
      some (.inl (q5.1, q5.2, w64 (t2.2.2 + 1)))
    | .inr (.inl q6) =>
      some (.inr (.inl (q6.1, q6.2.1, q6.2.2)))
    | .inr (.inr q7) =>
      some (.inr (.inr (.inl (q7.1, q7.2))))
  else
    some (.inr (.inr (.inr (t2.1, t2.2.1))))

def assign_attempt_round_l1 (leaves : List (List UInt8)) (first : Bool) (may : (TupT fam [.st 7, .st 3] → Option Bool)) (t1 : Attempt × Cont × Int) : Option ((Attempt × Cont × Int) ⊕ ((Attempt × Int × Cont) ⊕ (Attempt × Cont))) :=
  bif decide (t1.2.2 < (leaves.length : Int)) then
    (
      (idx leaves t1.2.2).bind fun x =>
      (order_Apps t1.1.s x).bind fun x1 =>
      (loop (assign_attempt_round_l2 first may x1) (t1.1, t1.2.1, 0)).bind fun q0 =>
      match q0 with
      | .inl q8 =>
        some (.inr (q8.1, q8.2.1, q8.2.2))
      | .inr (.inl q9) =>
        some (.inl (q9.1, q9.2))
      | .inr (.inr q10) =>
        some (.inl (q10.1, q10.2)) : Option ((Attempt × Cont) ⊕ (Attempt × Int × Cont))).bind fun q0 =>
    match q0 with
    | .inl q11 =>
      some (.inl (q11.1, q11.2, w64 (t1.2.2 + 1)))
    | .inr q12 =>
      some (.inr (.inl (q12.1, q12.2.1, q12.2.2)))
  else
    some (.inr (.inr (t1.1, t1.2.1)))

def assign_attempt_round (t : Attempt) (leaves : List (List UInt8)) (first : Bool) (may : (TupT fam [.st 7, .st 3] → Option Bool)) : Option (Int × Cont × Attempt) :=
  (loop (assign_attempt_round_l1 leaves first may) (t, (⟨0, 0, 0, ⟨0, 0⟩, 0, 0, false, 0⟩ : Cont), 0)).bind fun q0 =>
  match q0 with
  | .inl q13 =>
    some (q13.2.1, q13.2.2, q13.1)
  | .inr q14 =>
    some (0, (⟨0, 0, 0, ⟨0, 0⟩, 0, 0, false, 0⟩ : Cont), q14.1)
def h66 : Hint := (.s .z (.b (.s .z (.s .z (.s (.s .z (.b (.l [(0, .box (.st 11) []), (9, .box (.st 4) []), (24, .v (.int .i64) [])] [0, 8, 9, 12, 14, 15, 16, 18, 19, 24, 25, 26, 27, 28, 29, 30, 31, 32, 33, 34, 35, 36, 37, 38, 39, 40, 41, 42, 43, 44, 45, 46, 47, 48, 49, 50, 51, 52, 53, 54, 55, 56, 57, 58, 66] [(1, [(0, .box (.st 11) []), (8, .v (.int .i64) []), (9, .box (.st 4) [])]), (2, [(0, .box (.st 11) []), (9, .box (.st 4) [])])] (.s .z (.s .z (.s (.j [0, 8, 9, 12, 14, 15, 16, 18, 19, 26, 27, 28, 29, 30, 31, 32, 33, 34, 35, 36, 37, 38, 39, 40, 41, 42, 43, 44, 45, 46, 47, 48, 49, 50, 51, 52, 53, 54, 55, 56, 57, 58, 66] [(0, [(0, .box (.st 11) []), (9, .box (.st 4) [])]), (1, [(0, .box (.st 11) []), (8, .v (.int .i64) []), (9, .box (.st 4) [])])] (.b (.s .z (.s .z (.b (.l [(0, .box (.st 11) []), (9, .box (.st 4) []), (35, .v (.int .i64) [])] [0, 8, 9, 14, 15, 16, 18, 19, 35, 36, 37, 38, 39, 40, 41, 42, 43, 44, 45, 46, 47, 48, 49, 50, 51, 52, 53, 54, 55, 56, 57, 58, 66] [(1, [(0, .box (.st 11) []), (8, .v (.int .i64) []), (9, .box (.st 4) [])]), (3, [(0, .box (.st 11) []), (9, .box (.st 4) [])]), (4, [(0, .box (.st 11) []), (9, .box (.st 4) [])])] (.s .z (.s .z (.s (.j [0, 8, 9, 14, 15, 16, 18, 19, 37, 38, 39, 40, 41, 42, 43, 44, 45, 46, 47, 48, 49, 50, 51, 52, 53, 54, 55, 56, 57, 58, 66] [(0, [(0, .box (.st 11) []), (9, .box (.st 4) [])]), (1, [(0, .box (.st 11) []), (8, .v (.int .i64) []), (9, .box (.st 4) [])]), (3, [(0, .box (.st 11) []), (9, .box (.st 4) [])])] (.b (.s .z (.s .z (.s .z (.s .z (.s .z (.b (.l [(0, .box (.st 11) []), (9, .box (.st 4) []), (15, .box (.st 8) [7, 10, 11, 12, 13]), (58, .v (.int .i64) [])] [0, 8, 9, 15, 18, 19, 46, 51, 54, 55, 58, 66] [(1, [(0, .box (.st 11) []), (8, .v (.int .i64) []), (9, .box (.st 4) [])]), (6, [(0, .box (.st 11) []), (9, .box (.st 4) [])])] (.s .z (.s .z (.s (.j [0, 8, 9, 15, 18, 19, 66] [(0, [(0, .box (.st 11) []), (9, .box (.st 4) []), (15, .box (.st 8) [7, 10, 11, 12, 13])]), (1, [(0, .box (.st 11) []), (8, .v (.int .i64) []), (9, .box (.st 4) [])])] (.b (.s .z (.s .z (.b (.s (.j [] [(0, [(66, .v .bool [])])] .z) .z)))))) .z)))))))))))) .z))))))))) .z)))))) .z)))))
noncomputable def sp66 : Spec fam := ⟨[.box (.st 11) [], .v (.slice (.str)) [], .v .bool [], .fn [.st 7, .st 3] .bool], [.v (.int .i64) [], .v (.st 4) []], fun a => assign_attempt_round a.1 a.2.1 a.2.2.1 a.2.2.2.1⟩

def assign_attempt_rounds (t : Attempt) : Option (Int × Cont × Attempt) :=
  (order_Leaves t.s t.n.Label).bind fun leaves =>
  (assign_attempt_round t leaves true (fun a' => local_May a'.1 a'.2.1)).bind fun x =>
  bif x.1 != 0 then
    some (x.1, x.2.1, x.2.2)
  else
    (assign_attempt_round x.2.2 leaves false (fun a' => local_May a'.1 a'.2.1)).bind fun x1 =>
    some (x1.1, x1.2.1, x1.2.2)
def h26 : Hint := .z
noncomputable def sp26 : Spec fam := ⟨[.box (.st 11) []], [.v (.int .i64) [], .v (.st 4) []], fun a => assign_attempt_rounds a.1⟩

def assign_One (s : State) (node : Int) : Option (State × Int × Cont) :=
  (apps_Lose s []).bind fun x =>
  (nodes_Find s node).bind fun x1 =>
  (
    bif ! x1.2 then
      some true
    else
      bif ! x1.1.Up then
        some true
      else
        bif decide ((s.Conts.length : Int) ≥ 200) then
          some true
        else
          some (decide (s.Seq ≥ 1048575))).bind fun q =>
  bif q then
    some (x, 0, (⟨0, 0, 0, ⟨0, 0⟩, 0, 0, false, 0⟩ : Cont))
  else
    (nodes_Free s node).bind fun x2 =>
    (assign_attempt_kept (⟨⟨⟨x.Conf.Labels, x.Conf.Queues⟩, x.Nodes, x.Apps, x.Conts, x.Slots, x.Plans, x.Now, x.Epoch, x.Seq⟩, ⟨x1.1.Id, x1.1.Label, x1.1.Rack, ⟨x1.1.Cap.Mem, x1.1.Cap.Cores⟩, x1.1.Seen, x1.1.Beat, x1.1.Up⟩, ⟨x2.Mem, x2.Cores⟩⟩ : Attempt)).bind fun x3 =>
    (
      bif ! x3.2.2.1 then
        (assign_attempt_rounds x3.2.2.2).bind fun x4 =>
        some (x4.1, x4.2.1, x4.2.2)
      else
        some (x3.1, x3.2.1, x3.2.2.2)).bind fun q1 =>
    (apps_Lose q1.2.2.s []).bind fun x5 =>
    some (x5, q1.1, q1.2.1)
def h12 : Hint := (.s .z (.s .z (.s .z (.s (.s (.j [] [(0, [(37, .v .bool [])])] .z) .z) (.s .z (.s .z (.s (.j [5, 6, 10] [(0, [(5, .v (.int .i64) []), (6, .box (.st 4) []), (10, .box (.st 11) [])])] .z) .z)))))))
noncomputable def sp12 : Spec fam := ⟨[.v (.st 10) [], .v (.int .i64) []], [.v (.st 10) [0, 1, 2, 3, 4, 5, 6], .v (.int .i64) [], .v (.st 4) []], fun a => assign_One a.1 a.2.1⟩

def dispatchref8_Find_l1 (s : State) (id_ : Int) (t : Node × Int) : Option ((Node × Int) ⊕ ((Node × Bool) ⊕ Node)) :=
  bif decide (t.2 < (s.Nodes.length : Int)) then
    (idx s.Nodes t.2).bind fun x =>
    bif x.Id == id_ then
      (idx s.Nodes t.2).bind fun x1 =>
      some (.inr (.inl (x1, true)))
    else
      some (.inl (t.1, w64 (t.2 + 1)))
  else
    some (.inr (.inr (t.1)))

def dispatchref8_Find (s : State) (id_ : Int) : Option (Node × Bool) :=
  (loop (dispatchref8_Find_l1 s id_) ((⟨0, 0, 0, ⟨0, 0⟩, 0, 0, false⟩ : Node), 0)).bind fun q0 =>
  match q0 with
  | .inl q =>
    some (q.1, q.2)
  | .inr q1 =>
    some ((⟨0, 0, 0, ⟨0, 0⟩, 0, 0, false⟩ : Node), false)
def h27 : Hint := (.s .z (.s (.s .z (.b (.l [(4, .box (.st 3) []), (6, .v (.int .i64) [])] [4, 5, 6] [(1, [(4, .box (.st 3) []), (5, .v .bool [])]), (2, [(4, .box (.st 3) [])])] .z))) .z))
noncomputable def sp27 : Spec fam := ⟨[.v (.st 10) [], .v (.int .i64) []], [.v (.st 3) [], .v .bool []], fun a => dispatchref8_Find a.1 a.2.1⟩

def dispatchref8_part (n : Int) : Option Bool :=
  bif decide (n ≥ 0) then
    some (decide (n ≤ 1073741824))
  else
    some false
def h35 : Hint := .z
noncomputable def sp35 : Spec fam := ⟨[.v (.int .i64) []], [.v .bool []], fun a => dispatchref8_part a.1⟩

def dispatchref8_put_l1 (s : State) (n : Node) (k : Int) : Option (Int ⊕ Int) :=
  (
    bif decide (k < (s.Nodes.length : Int)) then
      (inb k s.Nodes.length).bind fun i =>
      (s.Nodes[i]?).bind fun x =>
      some (decide (x.Id < n.Id))
    else
      some false).bind fun q =>
  bif q then
    some (.inl (w64 (k + 1)))
  else
    some (.inr k)

def dispatchref8_put (s : State) (n : Node) : Option State :=
  (loop (dispatchref8_put_l1 s n) 0).bind fun k1 =>
  (inS 0 k1 s.Nodes.length).bind fun p =>
  (app 64 [] (sub s.Nodes p.1 p.2)).bind fun l =>
  (app 64 l [n]).bind fun l1 =>
  (
    (
      bif decide (k1 < (s.Nodes.length : Int)) then
        (inb k1 s.Nodes.length).bind fun i1 =>
        (s.Nodes[i1]?).bind fun x1 =>
        some (x1.Id == n.Id)
      else
        some false).bind fun q1 =>
    bif q1 then
      some (w64 (k1 + 1))
    else
      some k1).bind fun k2 =>
  (inS k2 (s.Nodes.length : Int) s.Nodes.length).bind fun p1 =>
  (app 64 l1 (sub s.Nodes p1.1 p1.2)).bind fun l2 =>
  some (⟨⟨s.Conf.Labels, s.Conf.Queues⟩, l2, s.Apps, s.Conts, s.Slots, s.Plans, s.Now, s.Epoch, s.Seq⟩ : State)
def h36 : Hint := (.s .z (.s .z (.s (.b (.l [(5, .v (.int .i64) [])] [5, 22] [(2, [(5, .v (.int .i64) [])])] (.s (.s (.j [] [(0, [(22, .v .bool [])])] .z) .z) .z))) (.s .z (.s .z (.s (.j [5, 50] [(0, [(5, .v (.int .i64) [])])] (.s (.j [] [(0, [(50, .v .bool [])])] .z) .z)) .z))))))
noncomputable def sp36 : Spec fam := ⟨[.v (.st 10) [0, 1, 2, 3, 4, 5, 6], .v (.st 3) []], [.v (.st 10) [0, 1, 2, 3, 4, 5, 6]], fun a => dispatchref8_put a.1 a.2.1⟩

def dispatchref8_Register (s : State) (n : Node) : Option (State × Int) :=
  (
    bif decide (n.Id < 0) then
      some true
    else
      bif decide (n.Id > 999) then
        some true
      else
        bif decide (n.Label < 0) then
          some true
        else
          bif decide (n.Label ≥ (s.Conf.Labels.length : Int)) then
            some true
          else
            bif decide (n.Rack < 0) then
              some true
            else
              bif decide (n.Rack > 99) then
                some true
              else
                (dispatchref8_part n.Cap.Mem).bind fun x =>
                bif ! x then
                  some true
                else
                  (dispatchref8_part n.Cap.Cores).bind fun x1 =>
                  some (! x1)).bind fun q =>
  bif q then
    some (s, 1)
  else
    (dispatchref8_Find s n.Id).bind fun x2 =>
    (
      bif x2.2 then
        some x2.1.Up
      else
        some false).bind fun q1 =>
    bif q1 then
      some (s, 7)
    else
      (
        bif ! x2.2 then
          some (decide ((s.Nodes.length : Int) ≥ 12))
        else
          some false).bind fun q2 =>
      bif q2 then
        some (s, 4)
      else
        (dispatchref8_put s (⟨n.Id, n.Label, n.Rack, ⟨n.Cap.Mem, n.Cap.Cores⟩, s.Now, 0, true⟩ : Node)).bind fun x3 =>
        some (x3, 0)
def h18 : Hint := (.s .z (.s (.s (.j [] [(0, [(53, .v .bool [])])] .z) .z) (.s .z (.s (.s (.j [] [(0, [(66, .v .bool [])])] .z) .z) (.s (.s (.j [] [(0, [(75, .v .bool [])])] .z) .z) .z)))))
noncomputable def sp18 : Spec fam := ⟨[.v (.st 10) [0, 1, 2, 3, 4, 5, 6], .v (.st 3) []], [.v (.st 10) [0, 1, 2, 3, 4, 5, 6], .v (.int .i64) []], fun a => dispatchref8_Register a.1 a.2.1⟩

def dispatchref19_New : Option State :=
  some (⟨⟨[([] : List UInt8)], [(⟨([114, 111, 111, 116] : List UInt8), [(⟨10000, 10000⟩ : Cap)], 10000⟩ : Queue)]⟩, [], [], [], [], [], 0, 0, 0⟩ : State)
def h19 : Hint := .z
noncomputable def sp19 : Spec fam := ⟨[], [.v (.st 10) [0, 1, 2, 3, 4, 5, 6]], fun _ => dispatchref19_New⟩

def dispatchref10_Find_l1 (s : State) (id_ : Int) (t : App × Int) : Option ((App × Int) ⊕ ((App × Bool) ⊕ App)) :=
  bif decide (t.2 < (s.Apps.length : Int)) then
    (idx s.Apps t.2).bind fun x =>
    bif x.Id == id_ then
      (idx s.Apps t.2).bind fun x1 =>
      some (.inr (.inl (x1, true)))
    else
      some (.inl (t.1, w64 (t.2 + 1)))
  else
    some (.inr (.inr (t.1)))

def dispatchref10_Find (s : State) (id_ : Int) : Option (App × Bool) :=
  (loop (dispatchref10_Find_l1 s id_) ((⟨0, 0, [], 0, 0, ⟨0, 0⟩, [], 0, 0, [], [], [], []⟩ : App), 0)).bind fun q0 =>
  match q0 with
  | .inl q =>
    some (q.1, q.2)
  | .inr q1 =>
    some ((⟨0, 0, [], 0, 0, ⟨0, 0⟩, [], 0, 0, [], [], [], []⟩ : App), false)
def h21 : Hint := (.s .z (.s (.s .z (.b (.l [(4, .box (.st 8) [7, 10, 11, 12, 13]), (6, .v (.int .i64) [])] [4, 5, 6] [(1, [(4, .box (.st 8) []), (5, .v .bool [])]), (2, [(4, .box (.st 8) [7, 10, 11, 12, 13])])] .z))) .z))
noncomputable def sp21 : Spec fam := ⟨[.v (.st 10) [], .v (.int .i64) []], [.v (.st 8) [], .v .bool []], fun a => dispatchref10_Find a.1 a.2.1⟩

def dispatchref10_Live (a : App) : Option Bool :=
  bif a.State == 1 then
    some true
  else
    some (a.State == 2)
def h30 : Hint := .z
noncomputable def sp30 : Spec fam := ⟨[.v (.st 8) []], [.v .bool []], fun a => dispatchref10_Live a.1⟩

def dispatchref10_part (n : Int) : Option Bool :=
  bif decide (n ≥ 1) then
    some (decide (n ≤ 1073741824))
  else
    some false
def h37 : Hint := .z
noncomputable def sp37 : Spec fam := ⟨[.v (.int .i64) []], [.v .bool []], fun a => dispatchref10_part a.1⟩

def dispatchref6_Find_l1 (c : Conf) (path : List UInt8) (t : Queue × Int) : Option ((Queue × Int) ⊕ ((Queue × Bool) ⊕ Queue)) :=
  bif decide (t.2 < (c.Queues.length : Int)) then
    (idx c.Queues t.2).bind fun x =>
    bif x.Path == path then
      (idx c.Queues t.2).bind fun x1 =>
      (app 16 [] x1.Caps).bind fun l =>
      some (.inr (.inl ((⟨x1.Path, l, x1.User⟩ : Queue), true)))
    else
      some (.inl (t.1, w64 (t.2 + 1)))
  else
    some (.inr (.inr (t.1)))

def dispatchref6_Find (c : Conf) (path : List UInt8) : Option (Queue × Bool) :=
  (loop (dispatchref6_Find_l1 c path) ((⟨[], [], 0⟩ : Queue), 0)).bind fun q0 =>
  match q0 with
  | .inl q =>
    some (q.1, q.2)
  | .inr q1 =>
    some ((⟨[], [], 0⟩ : Queue), false)
def h68 : Hint := (.s .z (.s (.s .z (.b (.l [(4, .box (.st 1) [1]), (6, .v (.int .i64) [])] [4, 5, 6, 7] [(1, [(4, .box (.st 1) [1]), (5, .v .bool [])]), (2, [(4, .box (.st 1) [1])])] .z))) .z))
noncomputable def sp68 : Spec fam := ⟨[.v (.st 9) [], .v .str []], [.v (.st 1) [1], .v .bool []], fun a => dispatchref6_Find a.1 a.2.1⟩

def dispatchref6_above_l1 (path : List UInt8) (k1 : Int) : Option (Int ⊕ Int) :=
  (
    bif decide (k1 ≥ 0) then
      (idx path k1).bind fun ch =>
      some ((ch.toNat : Int) != 46)
    else
      some false).bind fun q =>
  bif q then
    some (.inl (w64 (k1 - 1)))
  else
    some (.inr k1)

def dispatchref6_above (path : List UInt8) : Option (List UInt8) :=
  let k := w64 ((path.length : Int) - 1)
  (loop (dispatchref6_above_l1 path) k).bind fun k2 =>
  bif decide (k2 < 0) then
    some ([] : List UInt8)
  else
    (slc path 0 k2).bind fun s =>
    some s
def h101 : Hint := (.s .z (.s .z (.s (.b (.l [(3, .v (.int .i64) [])] [3, 14] [(2, [(3, .v (.int .i64) [])])] (.s (.s (.j [] [(0, [(14, .v .bool [])])] .z) .z) .z))) .z)))
noncomputable def sp101 : Spec fam := ⟨[.v .str []], [.v .str []], fun a => dispatchref6_above a.1⟩

def dispatchref6_Kids_l1 (c : Conf) (path : List UInt8) (t : List (List UInt8) × Int) : Option ((List (List UInt8) × Int) ⊕ List (List UInt8)) :=
  bif decide (t.2 < (c.Queues.length : Int)) then
    (
      (
        bif ! (path == ([] : List UInt8)) then
          (idx c.Queues t.2).bind fun x =>
          (dispatchref6_above x.Path).bind fun x1 =>
          some (x1 == path)
        else
          some false).bind fun q =>
      bif q then
        (idx c.Queues t.2).bind fun x2 =>
        (app 16 t.1 [x2.Path]).bind fun l =>
        some l
      else
        some t.1).bind fun l1 =>
    some (.inl (l1, w64 (t.2 + 1)))
  else
    some (.inr t.1)

def dispatchref6_Kids (c : Conf) (path : List UInt8) : Option (List (List UInt8)) :=
  (loop (dispatchref6_Kids_l1 c path) ([], 0)).bind fun l2 =>
  some l2
def h69 : Hint := (.s .z (.s .z (.s (.s .z (.b (.l [(5, .v (.slice (.str)) [0]), (6, .v (.int .i64) [])] [5, 6, 26] [(2, [(5, .v (.slice (.str)) [0])])] (.s .z (.s (.j [5, 26] [(0, [(5, .v (.slice (.str)) [0])])] (.b (.s (.j [] [(0, [(26, .v .bool [])])] .z) .z))) .z))))) .z)))
noncomputable def sp69 : Spec fam := ⟨[.v (.st 9) [], .v .str []], [.v (.slice (.str)) [0]], fun a => dispatchref6_Kids a.1 a.2.1⟩

def dispatchref6_Leaf (c : Conf) (path : List UInt8) : Option Bool :=
  (dispatchref6_Find c path).bind fun x =>
  bif x.2 then
    (dispatchref6_Kids c path).bind fun x1 =>
    some ((x1.length : Int) == 0)
  else
    some false
def h38 : Hint := .z
noncomputable def sp38 : Spec fam := ⟨[.v (.st 9) [], .v .str []], [.v .bool []], fun a => dispatchref6_Leaf a.1 a.2.1⟩

def dispatchref10_forget_l1 (s : State) (t : List App × Bool × Int) : Option ((List App × Bool × Int) ⊕ List App) :=
  bif decide (t.2.2 < (s.Apps.length : Int)) then
    (
      (
        bif ! t.2.1 then
          (idx s.Apps t.2.2).bind fun x =>
          (dispatchref10_Live x).bind fun x1 =>
          some (! x1)
        else
          some false).bind fun q =>
      bif q then
        some (t.1, true)
      else
        (idx s.Apps t.2.2).bind fun x2 =>
        (app 200 t.1 [x2]).bind fun l =>
        some (l, t.2.1)).bind fun q1 =>
    some (.inl (q1.1, q1.2, w64 (t.2.2 + 1)))
  else
    some (.inr t.1)

def dispatchref10_forget (s : State) : Option State :=
  (loop (dispatchref10_forget_l1 s) ([], false, 0)).bind fun l1 =>
  some (⟨⟨s.Conf.Labels, s.Conf.Queues⟩, s.Nodes, l1, s.Conts, s.Slots, s.Plans, s.Now, s.Epoch, s.Seq⟩ : State)
def h39 : Hint := (.s .z (.s .z (.s .z (.s (.s .z (.b (.l [(3, .v (.slice (.st 8)) [0]), (4, .v .bool []), (5, .v (.int .i64) [])] [3, 4, 5, 23] [(2, [(3, .v (.slice (.st 8)) [0])])] (.s .z (.s (.j [3, 4, 23] [(0, [(3, .v (.slice (.st 8)) [0]), (4, .v .bool [])])] (.b (.s (.s (.j [] [(0, [(23, .v .bool [])])] .z) .z) .z))) .z))))) .z))))
noncomputable def sp39 : Spec fam := ⟨[.v (.st 10) []], [.v (.st 10) [3]], fun a => dispatchref10_forget a.1⟩

def dispatchref10_Put_l1 (s : State) (a : App) (k : Int) : Option (Int ⊕ Int) :=
  (
    bif decide (k < (s.Apps.length : Int)) then
      (idx s.Apps k).bind fun x =>
      some (decide (x.Id < a.Id))
    else
      some false).bind fun q =>
  bif q then
    some (.inl (w64 (k + 1)))
  else
    some (.inr k)

def dispatchref10_Put (s : State) (a : App) : Option State :=
  (loop (dispatchref10_Put_l1 s a) 0).bind fun k1 =>
  (slc s.Apps 0 k1).bind fun l =>
  (app 200 [] l).bind fun l1 =>
  (app 200 l1 [a]).bind fun l2 =>
  (
    (
      bif decide (k1 < (s.Apps.length : Int)) then
        (idx s.Apps k1).bind fun x1 =>
        some (x1.Id == a.Id)
      else
        some false).bind fun q1 =>
    bif q1 then
      some (w64 (k1 + 1))
    else
      some k1).bind fun k2 =>
  (slc s.Apps k2 (s.Apps.length : Int)).bind fun l3 =>
  (app 200 l2 l3).bind fun l4 =>
  some (⟨⟨s.Conf.Labels, s.Conf.Queues⟩, s.Nodes, l4, s.Conts, s.Slots, s.Plans, s.Now, s.Epoch, s.Seq⟩ : State)
def h40 : Hint := (.s .z (.s .z (.s (.b (.l [(5, .v (.int .i64) [])] [5, 22] [(2, [(5, .v (.int .i64) [])])] (.s (.s (.j [] [(0, [(22, .v .bool [])])] .z) .z) .z))) (.s .z (.s .z (.s (.j [5, 50] [(0, [(5, .v (.int .i64) [])])] (.s (.j [] [(0, [(50, .v .bool [])])] .z) .z)) .z))))))
noncomputable def sp40 : Spec fam := ⟨[.v (.st 10) [], .v (.st 8) []], [.v (.st 10) [3]], fun a => dispatchref10_Put a.1 a.2.1⟩

def dispatchref10_first (a : App) : Option (List Ask) :=
  some [(⟨0, 0, ⟨a.Master.Mem, a.Master.Cores⟩, 1, (-1), (-1), 0⟩ : Ask)]
def h41 : Hint := .z
noncomputable def sp41 : Spec fam := ⟨[.v (.st 8) []], [.v (.slice (.st 7)) [0]], fun a => dispatchref10_first a.1⟩

def dispatchref10_Submit_l1 (s : State) (t : Int × Int) : Option ((Int × Int) ⊕ Int) :=
  bif decide (t.2 < (s.Apps.length : Int)) then
    (
      (idx s.Apps t.2).bind fun x3 =>
      (dispatchref10_Live x3).bind fun x4 =>
      bif x4 then
        some (w64 (t.1 + 1))
      else
        some t.1).bind fun live =>
    some (.inl (live, w64 (t.2 + 1)))
  else
    some (.inr t.1)

def dispatchref10_Submit (s : State) (a : App) : Option (State × Int) :=
  (
    bif decide (a.Id < 0) then
      some true
    else
      bif decide (a.Id > 9999) then
        some true
      else
        bif decide (a.User < 0) then
          some true
        else
          bif decide (a.User > 99) then
            some true
          else
            bif decide (a.Prio < 0) then
              some true
            else
              bif decide (a.Prio > 9) then
                some true
              else
                (dispatchref10_part a.Master.Mem).bind fun x =>
                bif ! x then
                  some true
                else
                  (dispatchref10_part a.Master.Cores).bind fun x1 =>
                  some (! x1)).bind fun q =>
  bif q then
    some (s, 1)
  else
    (dispatchref10_Find s a.Id).bind fun x2 =>
    bif x2.2 then
      some (s, 7)
    else
      (loop (dispatchref10_Submit_l1 s) (0, 0)).bind fun live1 =>
      bif decide (live1 ≥ 16) then
        some (s, 4)
      else
        (dispatchref6_Leaf s.Conf a.Queue).bind fun x5 =>
        bif ! x5 then
          some (s, 19)
        else
          (
            bif decide ((s.Apps.length : Int) ≥ 16) then
              (dispatchref10_forget s).bind fun x6 =>
              some x6
            else
              some s).bind fun s1 =>
          (dispatchref10_first a).bind fun x7 =>
          (dispatchref10_Put s1 (⟨a.Id, 1, a.Queue, a.User, a.Prio, ⟨a.Master.Mem, a.Master.Cores⟩, x7, s1.Now, 0, [], [], [], []⟩ : App)).bind fun x8 =>
          some (x8, 0)
def h20 : Hint := (.s .z (.s (.s (.j [] [(0, [(51, .v .bool [])])] .z) .z) (.s .z (.s .z (.s .z (.s (.s .z (.b (.l [(8, .v (.int .i64) []), (9, .v (.int .i64) [])] [8, 9] [(2, [(8, .v (.int .i64) [])])] (.s .z (.s (.j [8] [(0, [(8, .v (.int .i64) [])])] .z) .z))))) (.s .z (.s .z (.s (.j [2] [(0, [(2, .box (.st 10) [])])] .z) .z)))))))))
noncomputable def sp20 : Spec fam := ⟨[.v (.st 10) [], .v (.st 8) []], [.v (.st 10) [], .v (.int .i64) []], fun a => dispatchref10_Submit a.1 a.2.1⟩

def dispatchlaw14_known : Option Bool :=
  (dispatchref19_New).bind fun x =>
  (dispatchref8_Register x (⟨1, 0, 0, ⟨4, 4⟩, 0, 0, false⟩ : Node)).bind fun x1 =>
  (dispatchref10_Submit x1.1 (⟨7, 0, ([114, 111, 111, 116] : List UInt8), 0, 0, ⟨2, 1⟩, [], 0, 0, [], [], [], []⟩ : App)).bind fun x2 =>
  (assign_One x2.1 1).bind fun x3 =>
  (dispatchref10_Find x3.1 7).bind fun x4 =>
  bif x3.2.1 == 1 then
    bif x3.2.2.Id == 1 then
      bif x3.2.2.Master then
        bif x3.2.2.App == 7 then
          bif x4.1.State == 2 then
            some ((x3.1.Conts.length : Int) == 1)
          else
            some false
        else
          some false
      else
        some false
    else
      some false
  else
    some false
def h9 : Hint := .z
noncomputable def sp9 : Spec fam := ⟨[], [.v .bool []], fun _ => dispatchlaw14_known⟩

def dispatchlaw14_within (at_ : Int) (n : Int) : Option Int :=
  (nz n).bind fun _ =>
  (
    bif decide ((Int.tmod at_ n) < 0) then
      let k := w64 ((Int.tmod at_ n) + n)
      some k
    else
      some (Int.tmod at_ n)).bind fun k1 =>
  some k1
def h10 : Hint := (.s .z (.s .z (.s (.j [5] [(0, [(5, .v (.int .i64) [])])] .z) .z)))
noncomputable def sp10 : Spec fam := ⟨[.v (.int .i64) [], .v (.int .i64) []], [.v (.int .i64) []], fun a => dispatchlaw14_within a.1 a.2.1⟩

def dispatchlaw14_two_l3 (used : Arr2_Int) (t1 : State × Int) (t2 : State × Int) : Option ((State × Int) ⊕ State) :=
  (inb t1.2 2).bind fun i3 =>
  ([used.a0, used.a1][i3]?).bind fun x5 =>
  bif decide (t2.2 < x5) then
    (app 72 t2.1.Conts [(⟨w64 (t2.1.Seq + 1), t1.2, 1, ⟨1, 1⟩, 0, 0, t2.2 == 0, 0⟩ : Cont)]).bind fun l2 =>
    some (.inl ((⟨⟨t2.1.Conf.Labels, t2.1.Conf.Queues⟩, t2.1.Nodes, t2.1.Apps, l2, t2.1.Slots, t2.1.Plans, t2.1.Now, t2.1.Epoch, w64 (t2.1.Seq + 1)⟩ : State), w64 (t2.2 + 1)))
  else
    some (.inr t2.1)

def dispatchlaw14_two_l2 (used : Arr2_Int) (t1 : State × Int) : Option ((State × Int) ⊕ State) :=
  bif decide (t1.2 < 2) then
    (loop (dispatchlaw14_two_l3 used t1) (t1.1, 0)).bind fun s1 =>
    some (.inl (s1, w64 (t1.2 + 1)))
  else
    some (.inr t1.1)

def dispatchlaw14_two_l1 (want : Arr2_Int) (t : State × Int) : Option ((State × Int) ⊕ State) :=
  bif decide (t.2 < 2) then
    (inb t.2 [([114, 111, 111, 116, 46, 97] : List UInt8), ([114, 111, 111, 116, 46, 98] : List UInt8)].length).bind fun i =>
    ([([114, 111, 111, 116, 46, 97] : List UInt8), ([114, 111, 111, 116, 46, 98] : List UInt8)][i]?).bind fun x2 =>
    (
      (inb t.2 2).bind fun i1 =>
      ([want.a0, want.a1][i1]?).bind fun x3 =>
      bif decide (x3 > 0) then
        (inb t.2 2).bind fun i2 =>
        ([want.a0, want.a1][i2]?).bind fun x4 =>
        some (⟨t.2, 2, x2, 0, 0, ⟨1, 1⟩, [(⟨1, 0, ⟨1, 1⟩, x4, (-1), (-1), 0⟩ : Ask)], 0, 0, [], [], [], []⟩ : App)
      else
        some (⟨t.2, 2, x2, 0, 0, ⟨1, 1⟩, [], 0, 0, [], [], [], []⟩ : App)).bind fun a =>
    (app 200 t.1.Apps [a]).bind fun l1 =>
    some (.inl ((⟨⟨t.1.Conf.Labels, t.1.Conf.Queues⟩, t.1.Nodes, l1, t.1.Conts, t.1.Slots, t.1.Plans, t.1.Now, t.1.Epoch, t.1.Seq⟩ : State), w64 (t.2 + 1)))
  else
    some (.inr t.1)

def dispatchlaw14_two (units : Int) (want : Arr2_Int) (used : Arr2_Int) : Option State :=
  (dispatchref19_New).bind fun x =>
  (app 48 x.Conf.Queues [(⟨([114, 111, 111, 116, 46, 97] : List UInt8), [(⟨5000, 10000⟩ : Cap)], 1000000⟩ : Queue), (⟨([114, 111, 111, 116, 46, 98] : List UInt8), [(⟨5000, 10000⟩ : Cap)], 1000000⟩ : Queue)]).bind fun l =>
  (dispatchref8_Register (⟨⟨x.Conf.Labels, l⟩, x.Nodes, x.Apps, x.Conts, x.Slots, x.Plans, x.Now, x.Epoch, x.Seq⟩ : State) (⟨1, 0, 0, ⟨units, units⟩, 0, 0, false⟩ : Node)).bind fun x1 =>
  (loop (dispatchlaw14_two_l1 want) (x1.1, 0)).bind fun s =>
  (loop (dispatchlaw14_two_l2 used) (s, 0)).bind fun s2 =>
  some s2
def h11 : Hint := (.s .z (.s .z (.s .z (.s .z (.s .z (.s (.s .z (.b (.l [(7, .box (.st 10) [0, 1, 2, 3, 4, 5, 6]), (9, .v (.int .i64) [])] [7, 9, 10] [(2, [(7, .box (.st 10) [0, 1, 2, 3, 4, 5, 6])])] (.s .z (.s (.b (.s .z (.s (.j [10] [(0, [(10, .box (.st 8) [7, 10, 11, 12, 13])])] .z) .z))) .z))))) (.s (.s .z (.b (.l [(7, .box (.st 10) [0, 1, 2, 3, 4, 5, 6]), (11, .v (.int .i64) [])] [7, 11, 12] [(4, [(7, .box (.st 10) [0, 1, 2, 3, 4, 5, 6])])] (.s .z (.s (.b (.s .z (.b (.l [(7, .box (.st 10) [0, 1, 2, 3, 4, 5, 6]), (12, .v (.int .i64) [])] [7, 12] [(6, [(7, .box (.st 10) [0, 1, 2, 3, 4, 5, 6])])] .z)))) .z))))) .z)))))))
noncomputable def sp11 : Spec fam := ⟨[.v (.int .i64) [], .v (.st 15) [], .v (.st 15) []], [.v (.st 10) [0, 1, 2, 3, 4, 5, 6]], fun a => dispatchlaw14_two a.1 a.2.1 a.2.2.1⟩

def dispatchref1_Less (a : Vec) (b : Vec) : Option Vec :=
  some (⟨imax (w64 (a.Mem - b.Mem)) 0, imax (w64 (a.Cores - b.Cores)) 0⟩ : Vec)
def h28 : Hint := .z
noncomputable def sp28 : Spec fam := ⟨[.v (.st 2) [], .v (.st 2) []], [.v (.st 2) []], fun a => dispatchref1_Less a.1 a.2.1⟩

def dispatchref1_Plus (a : Vec) (b : Vec) : Option Vec :=
  some (⟨w64 (a.Mem + b.Mem), w64 (a.Cores + b.Cores)⟩ : Vec)
def h32 : Hint := .z
noncomputable def sp32 : Spec fam := ⟨[.v (.st 2) [], .v (.st 2) []], [.v (.st 2) []], fun a => dispatchref1_Plus a.1 a.2.1⟩

def dispatchref8_Used_l1 (s : State) (id_ : Int) (t : Vec × Int) : Option ((Vec × Int) ⊕ Vec) :=
  bif decide (t.2 < (s.Conts.length : Int)) then
    (
      (idx s.Conts t.2).bind fun x =>
      bif x.Node == id_ then
        (idx s.Conts t.2).bind fun x1 =>
        (dispatchref1_Plus t.1 x1.Size).bind fun x2 =>
        some x2
      else
        some t.1).bind fun v =>
    some (.inl (v, w64 (t.2 + 1)))
  else
    some (.inr t.1)

def dispatchref8_Used (s : State) (id_ : Int) : Option Vec :=
  (loop (dispatchref8_Used_l1 s id_) ((⟨0, 0⟩ : Vec), 0)).bind fun v1 =>
  some v1
def h29 : Hint := (.s .z (.s .z (.s (.s .z (.b (.l [(5, .box (.st 2) []), (6, .v (.int .i64) [])] [5, 6] [(2, [(5, .box (.st 2) [])])] (.s .z (.s (.j [5] [(0, [(5, .box (.st 2) [])])] .z) .z))))) .z)))
noncomputable def sp29 : Spec fam := ⟨[.v (.st 10) [], .v (.int .i64) []], [.v (.st 2) []], fun a => dispatchref8_Used a.1 a.2.1⟩

def dispatchref8_Free (s : State) (id_ : Int) : Option Vec :=
  (dispatchref8_Find s id_).bind fun x =>
  (
    bif ! x.2 then
      some true
    else
      some (! x.1.Up)).bind fun q =>
  bif q then
    some (⟨0, 0⟩ : Vec)
  else
    (dispatchref8_Used s id_).bind fun x1 =>
    (dispatchref1_Less x.1.Cap x1).bind fun x2 =>
    some x2
def h13 : Hint := (.s .z (.s .z (.s (.s (.j [] [(0, [(19, .v .bool [])])] .z) .z) .z)))
noncomputable def sp13 : Spec fam := ⟨[.v (.st 10) [], .v (.int .i64) []], [.v (.st 2) []], fun a => dispatchref8_Free a.1 a.2.1⟩

def dispatchref6_Up_l1 (t : List UInt8 × List (List UInt8)) : Option ((List UInt8 × List (List UInt8)) ⊕ List (List UInt8)) :=
  bif ! (t.1 == ([] : List UInt8)) then
    (app 16 t.2 [t.1]).bind fun l =>
    (dispatchref6_above t.1).bind fun path1 =>
    some (.inl (path1, l))
  else
    some (.inr t.2)

def dispatchref6_Up (path : List UInt8) : Option (List (List UInt8)) :=
  (loop dispatchref6_Up_l1 (path, [])).bind fun l1 =>
  some l1
def h67 : Hint := (.s .z (.s .z (.s (.b (.l [(0, .v .str []), (3, .v (.slice (.str)) [0])] [0, 3] [(2, [(3, .v (.slice (.str)) [0])])] .z)) .z)))
noncomputable def sp67 : Spec fam := ⟨[.v .str []], [.v (.slice (.str)) [0]], fun a => dispatchref6_Up a.1⟩

def dispatchref11_below_l1 (path : List UInt8) (up : List (List UInt8)) (i : Int) : Option (Int ⊕ (Bool ⊕ Unit)) :=
  bif decide (i < (up.length : Int)) then
    (inb i up.length).bind fun i1 =>
    (up[i1]?).bind fun x =>
    bif x == path then
      some (.inr (.inl true))
    else
      some (.inl (w64 (i + 1)))
  else
    some (.inr (.inr ()))

def dispatchref11_below (leaf : List UInt8) (path : List UInt8) : Option Bool :=
  (dispatchref6_Up leaf).bind fun up =>
  (loop (dispatchref11_below_l1 path up) 0).bind fun q0 =>
  match q0 with
  | .inl q =>
    some q
  | .inr _ =>
    some false
def h31 : Hint := (.s .z (.s .z (.s (.s .z (.b (.l [(6, .v (.int .i64) [])] [4, 6] [(1, [(4, .v .bool [])]), (2, [])] .z))) .z)))
noncomputable def sp31 : Spec fam := ⟨[.v .str [], .v .str []], [.v .bool []], fun a => dispatchref11_below a.1 a.2.1⟩

def dispatchref9_Pending_l1 (l : List Ask) (label : Int) (t : Vec × Int) : Option ((Vec × Int) ⊕ Vec) :=
  bif decide (t.2 < (l.length : Int)) then
    (
      (idx l t.2).bind fun x =>
      bif x.Label == label then
        (idx l t.2).bind fun x1 =>
        (idx l t.2).bind fun x2 =>
        (idx l t.2).bind fun x3 =>
        (idx l t.2).bind fun x4 =>
        (dispatchref1_Plus t.1 (⟨w64 (x1.Size.Mem * x2.Count), w64 (x3.Size.Cores * x4.Count)⟩ : Vec)).bind fun x5 =>
        some x5
      else
        some t.1).bind fun v =>
    some (.inl (v, w64 (t.2 + 1)))
  else
    some (.inr t.1)

def dispatchref9_Pending (l : List Ask) (label : Int) : Option Vec :=
  (loop (dispatchref9_Pending_l1 l label) ((⟨0, 0⟩ : Vec), 0)).bind fun v1 =>
  some v1
def h33 : Hint := (.s .z (.s .z (.s (.s .z (.b (.l [(5, .box (.st 2) []), (6, .v (.int .i64) [])] [5, 6] [(2, [(5, .box (.st 2) [])])] (.s .z (.s (.j [5] [(0, [(5, .box (.st 2) [])])] .z) .z))))) .z)))
noncomputable def sp33 : Spec fam := ⟨[.v (.slice (.st 7)) [], .v (.int .i64) []], [.v (.st 2) []], fun a => dispatchref9_Pending a.1 a.2.1⟩

def dispatchref11_Pending_l1 (s : State) (path : List UInt8) (label : Int) (t : Vec × Int) : Option ((Vec × Int) ⊕ Vec) :=
  bif decide (t.2 < (s.Apps.length : Int)) then
    (
      (
        (idx s.Apps t.2).bind fun x =>
        (dispatchref10_Live x).bind fun x1 =>
        bif x1 then
          (idx s.Apps t.2).bind fun x2 =>
          (dispatchref11_below x2.Queue path).bind fun x3 =>
          some x3
        else
          some false).bind fun q =>
      bif q then
        (idx s.Apps t.2).bind fun x4 =>
        (dispatchref9_Pending x4.Asks label).bind fun x5 =>
        (dispatchref1_Plus t.1 x5).bind fun x6 =>
        some x6
      else
        some t.1).bind fun v =>
    some (.inl (v, w64 (t.2 + 1)))
  else
    some (.inr t.1)

def dispatchref11_Pending (s : State) (path : List UInt8) (label : Int) : Option Vec :=
  (loop (dispatchref11_Pending_l1 s path label) ((⟨0, 0⟩ : Vec), 0)).bind fun v1 =>
  some v1
def h14 : Hint := (.s .z (.s .z (.s (.s .z (.b (.l [(7, .box (.st 2) []), (8, .v (.int .i64) [])] [7, 8, 32] [(2, [(7, .box (.st 2) [])])] (.s .z (.s (.j [7, 32] [(0, [(7, .box (.st 2) [])])] (.b (.s (.j [] [(0, [(32, .v .bool [])])] .z) .z))) .z))))) .z)))
noncomputable def sp14 : Spec fam := ⟨[.v (.st 10) [], .v .str [], .v (.int .i64) []], [.v (.st 2) []], fun a => dispatchref11_Pending a.1 a.2.1 a.2.2.1⟩

def dispatchref11_used_l1 (s : State) (path : List UInt8) (label : Int) (all : Bool) (user : Int) (t : Vec × Int) : Option ((Vec × Int) ⊕ Vec) :=
  bif decide (t.2 < (s.Conts.length : Int)) then
    (
      (idx s.Conts t.2).bind fun x =>
      (dispatchref10_Find s x.App).bind fun x1 =>
      (
        bif x1.2 then
          (idx s.Conts t.2).bind fun x2 =>
          bif x2.Label == label then
            (dispatchref11_below x1.1.Queue path).bind fun x3 =>
            bif x3 then
              bif all then
                some true
              else
                some (x1.1.User == user)
            else
              some false
          else
            some false
        else
          some false).bind fun q =>
      bif q then
        (idx s.Conts t.2).bind fun x4 =>
        (dispatchref1_Plus t.1 x4.Size).bind fun x5 =>
        some x5
      else
        some t.1).bind fun v =>
    some (.inl (v, w64 (t.2 + 1)))
  else
    some (.inr t.1)

def dispatchref11_used (s : State) (path : List UInt8) (label : Int) (all : Bool) (user : Int) : Option Vec :=
  (loop (dispatchref11_used_l1 s path label all user) ((⟨0, 0⟩ : Vec), 0)).bind fun v1 =>
  some v1
def h34 : Hint := (.s .z (.s .z (.s (.s .z (.b (.l [(11, .box (.st 2) []), (12, .v (.int .i64) [])] [11, 12, 13, 59] [(2, [(11, .box (.st 2) [])])] (.s .z (.s (.j [11, 13, 59] [(0, [(11, .box (.st 2) [])])] (.b (.s .z (.s (.j [] [(0, [(59, .v .bool [])])] .z) .z)))) .z))))) .z)))
noncomputable def sp34 : Spec fam := ⟨[.v (.st 10) [], .v .str [], .v (.int .i64) [], .v .bool [], .v (.int .i64) []], [.v (.st 2) []], fun a => dispatchref11_used a.1 a.2.1 a.2.2.1 a.2.2.2.1 a.2.2.2.2.1⟩

def dispatchref11_Used (s : State) (path : List UInt8) (label : Int) : Option Vec :=
  (dispatchref11_used s path label true 0).bind fun x =>
  some x
def h15 : Hint := .z
noncomputable def sp15 : Spec fam := ⟨[.v (.st 10) [], .v .str [], .v (.int .i64) []], [.v (.st 2) []], fun a => dispatchref11_Used a.1 a.2.1 a.2.2.1⟩

def dispatchlaw14_AssignTurns_l1 (t : State × Int) : Option ((State × Int) ⊕ (Bool ⊕ Unit)) :=
  bif decide (t.2 < 30) then
    (assign_One t.1 1).bind fun x5 =>
    bif x5.2.1 != 1 then
      (dispatchref8_Free t.1 1).bind fun x6 =>
      bif x6.Mem == 0 then
        some (.inr (.inl true))
      else
        (dispatchref11_Pending t.1 ([114, 111, 111, 116] : List UInt8) 0).bind fun x7 =>
        some (.inr (.inl (x7.Mem == 0)))
    else
      (dispatchref11_Used x5.1 ([114, 111, 111, 116, 46, 97] : List UInt8) 0).bind fun x8 =>
      (dispatchref11_Used x5.1 ([114, 111, 111, 116, 46, 98] : List UInt8) 0).bind fun x9 =>
      (
        (dispatchref11_Pending x5.1 ([114, 111, 111, 116, 46, 97] : List UInt8) 0).bind fun x10 =>
        bif decide (x10.Mem > 0) then
          (dispatchref11_Pending x5.1 ([114, 111, 111, 116, 46, 98] : List UInt8) 0).bind fun x11 =>
          bif decide (x11.Mem > 0) then
            bif decide ((w64 (x8.Mem - x9.Mem)) > 1) then
              some true
            else
              some (decide ((w64 (x9.Mem - x8.Mem)) > 1))
          else
            some false
        else
          some false).bind fun q =>
      bif q then
        some (.inr (.inl false))
      else
        some (.inl (x5.1, w64 (t.2 + 1)))
  else
    some (.inr (.inr ()))

def dispatchlaw14_AssignTurns (units : Int) (a : Int) (b : Int) : Option Bool :=
  (dispatchlaw14_known).bind fun x =>
  bif ! x then
    some false
  else
    (dispatchlaw14_within units 20).bind fun x1 =>
    (dispatchlaw14_within a 20).bind fun x2 =>
    (dispatchlaw14_within b 20).bind fun x3 =>
    (dispatchlaw14_two (w64 (4 + x1)) (⟨w64 (1 + x2), w64 (1 + x3)⟩ : Arr2_Int) (⟨1, 1⟩ : Arr2_Int)).bind fun x4 =>
    (loop dispatchlaw14_AssignTurns_l1 (x4, 0)).bind fun q0 =>
    match q0 with
    | .inl q1 =>
      some q1
    | .inr _ =>
      some true
def h3 : Hint := (.s .z (.s .z (.s .z (.s .z (.s (.s .z (.b (.l [(7, .box (.st 10) [0, 1, 2, 3, 4, 5, 6]), (8, .v (.int .i64) [])] [6, 7, 8, 9, 10, 11, 12, 79] [(1, [(6, .v .bool [])]), (2, [])] (.s .z (.s (.b (.s .z (.s .z (.s .z (.s .z (.s (.j [] [(0, [(79, .v .bool [])])] .z) .z)))))) .z))))) .z)))))
noncomputable def sp3 : Spec fam := ⟨[.v (.int .i64) [], .v (.int .i64) [], .v (.int .i64) []], [.v .bool []], fun a => dispatchlaw14_AssignTurns a.1 a.2.1 a.2.2.1⟩

def dispatchlaw14_AssignDue (units : Int) (a : Int) (b : Int) : Option Bool :=
  (dispatchlaw14_known).bind fun x =>
  bif ! x then
    some false
  else
    (dispatchlaw14_within units 10).bind fun x1 =>
    let units1 := w64 (2 * (w64 (2 + x1)))
    (dispatchlaw14_within a (w64 (Int.tdiv units1 2))).bind fun x2 =>
    let x3 := w64 ((w64 (Int.tdiv units1 2)) + x2)
    bif (w64 ((w64 (units1 - x3)) - 1)) == 0 then
      some true
    else
      (dispatchlaw14_within b 5).bind fun x4 =>
      (dispatchlaw14_two units1 (⟨5, w64 (1 + x4)⟩ : Arr2_Int) (⟨x3, w64 ((w64 (units1 - x3)) - 1)⟩ : Arr2_Int)).bind fun x5 =>
      (assign_One x5 1).bind fun x6 =>
      bif x6.2.1 == 1 then
        bif x6.2.2.App == 1 then
          (dispatchref8_Free x6.1 1).bind fun x7 =>
          some (x7.Mem == 0)
        else
          some false
      else
        some false
def h4 : Hint := .z
noncomputable def sp4 : Spec fam := ⟨[.v (.int .i64) [], .v (.int .i64) [], .v (.int .i64) []], [.v .bool []], fun a => dispatchlaw14_AssignDue a.1 a.2.1 a.2.2.1⟩

def dispatchlaw14_AssignMost (most : Int) (used : Int) : Option Bool :=
  (dispatchlaw14_known).bind fun x =>
  bif ! x then
    some false
  else
    (dispatchlaw14_within most 11).bind fun most1 =>
    (dispatchlaw14_within used 9).bind fun x1 =>
    (dispatchlaw14_two 20 (⟨3, 0⟩ : Arr2_Int) (⟨w64 (1 + x1), 1⟩ : Arr2_Int)).bind fun x2 =>
    (app 48 [] x2.Conf.Queues).bind fun l =>
    (inb 1 l.length).bind fun i =>
    (l[i]?).bind fun x3 =>
    (inb 2 (List.set l i (⟨x3.Path, [(⟨imin 5000 (w64 (most1 * 1000)), w64 (most1 * 1000)⟩ : Cap)], x3.User⟩ : Queue)).length).bind fun i1 =>
    ((List.set l i (⟨x3.Path, [(⟨imin 5000 (w64 (most1 * 1000)), w64 (most1 * 1000)⟩ : Cap)], x3.User⟩ : Queue))[i1]?).bind fun x4 =>
    (assign_One (⟨⟨x2.Conf.Labels, List.set (List.set l i (⟨x3.Path, [(⟨imin 5000 (w64 (most1 * 1000)), w64 (most1 * 1000)⟩ : Cap)], x3.User⟩ : Queue)) i1 (⟨x4.Path, [(⟨w64 (10000 - (imin 5000 (w64 (most1 * 1000)))), 10000⟩ : Cap)], x4.User⟩ : Queue)⟩, x2.Nodes, x2.Apps, x2.Conts, x2.Slots, x2.Plans, x2.Now, x2.Epoch, x2.Seq⟩ : State) 1).bind fun x5 =>
    bif decide ((w64 ((w64 (1 + x1)) + 1)) ≤ (w64 (2 * most1))) then
      bif x5.2.1 == 1 then
        some (x5.2.2.App == 0)
      else
        some false
    else
      some (x5.2.1 == 0)
def h6 : Hint := .z
noncomputable def sp6 : Spec fam := ⟨[.v (.int .i64) [], .v (.int .i64) []], [.v .bool []], fun a => dispatchlaw14_AssignMost a.1 a.2.1⟩

def dispatchlaw14_AssignUser (user : Int) (used : Int) : Option Bool :=
  (dispatchlaw14_known).bind fun x =>
  bif ! x then
    some false
  else
    (dispatchlaw14_within user 10).bind fun x1 =>
    (dispatchlaw14_within used 8).bind fun x2 =>
    (dispatchlaw14_two 20 (⟨3, 0⟩ : Arr2_Int) (⟨w64 (1 + x2), 1⟩ : Arr2_Int)).bind fun x3 =>
    (app 48 [] x3.Conf.Queues).bind fun l =>
    (inb 1 l.length).bind fun i =>
    (l[i]?).bind fun x4 =>
    (assign_One (⟨⟨x3.Conf.Labels, List.set l i (⟨x4.Path, x4.Caps, w64 ((w64 (1 + x1)) * 1000)⟩ : Queue)⟩, x3.Nodes, x3.Apps, x3.Conts, x3.Slots, x3.Plans, x3.Now, x3.Epoch, x3.Seq⟩ : State) 1).bind fun x5 =>
    bif decide ((w64 (1 + x2)) ≤ (w64 (1 + x1))) then
      bif x5.2.1 == 1 then
        some (x5.2.2.App == 0)
      else
        some false
    else
      some (x5.2.1 == 0)
def h7 : Hint := .z
noncomputable def sp7 : Spec fam := ⟨[.v (.int .i64) [], .v (.int .i64) []], [.v .bool []], fun a => dispatchlaw14_AssignUser a.1 a.2.1⟩

def dispatchlaw14_one_l1 (racks : List Int) (units : Int) (t : State × Int) : Option ((State × Int) ⊕ State) :=
  bif decide (t.2 < (racks.length : Int)) then
    (idx racks t.2).bind fun x2 =>
    (dispatchref8_Register t.1 (⟨t.2, 0, x2, ⟨units, units⟩, 0, 0, false⟩ : Node)).bind fun x3 =>
    some (.inl (x3.1, w64 (t.2 + 1)))
  else
    some (.inr t.1)

def dispatchlaw14_one (racks : List Int) (units : Int) (x : Ask) : Option State :=
  (dispatchref19_New).bind fun x1 =>
  (loop (dispatchlaw14_one_l1 racks units) (x1, 0)).bind fun s =>
  some (⟨⟨s.Conf.Labels, s.Conf.Queues⟩, s.Nodes, [(⟨5, 2, ([114, 111, 111, 116] : List UInt8), 0, 0, ⟨1, 1⟩, [x], 0, 0, [], [], [], []⟩ : App)], [(⟨1, 5, 0, ⟨1, 1⟩, 0, 0, true, 0⟩ : Cont)], s.Slots, s.Plans, s.Now, s.Epoch, 1⟩ : State)
def h16 : Hint := (.s .z (.s .z (.s (.s .z (.b (.l [(7, .box (.st 10) [0, 1, 2, 3, 4, 5, 6]), (8, .v (.int .i64) [])] [7, 8] [(2, [(7, .box (.st 10) [0, 1, 2, 3, 4, 5, 6])])] .z))) .z)))
noncomputable def sp16 : Spec fam := ⟨[.v (.slice (.int .i64)) [], .v (.int .i64) [], .v (.st 7) []], [.v (.st 10) [0, 1, 2, 3, 4, 5, 6]], fun a => dispatchlaw14_one a.1 a.2.1 a.2.2.1⟩

def dispatchlaw14_AssignLabels (node : Int) (label : Int) : Option Bool :=
  (dispatchlaw14_known).bind fun x =>
  bif ! x then
    some false
  else
    (dispatchlaw14_within node 2).bind fun node1 =>
    (dispatchlaw14_within label 2).bind fun label1 =>
    (dispatchlaw14_one [0] 10 (⟨1, label1, ⟨1, 1⟩, 1, (-1), (-1), 0⟩ : Ask)).bind fun x1 =>
    (dispatchref8_Register (⟨⟨[([] : List UInt8), ([103, 112, 117] : List UInt8)], [(⟨([114, 111, 111, 116] : List UInt8), [(⟨10000, 10000⟩ : Cap), (⟨10000, 10000⟩ : Cap)], 10000⟩ : Queue)]⟩, x1.Nodes, x1.Apps, x1.Conts, x1.Slots, x1.Plans, x1.Now, x1.Epoch, x1.Seq⟩ : State) (⟨3, node1, 0, ⟨4, 4⟩, 0, 0, false⟩ : Node)).bind fun x2 =>
    (assign_One x2.1 3).bind fun x3 =>
    bif node1 == label1 then
      bif x3.2.1 == 1 then
        bif x3.2.2.Label == label1 then
          some (x3.2.2.Node == 3)
        else
          some false
      else
        some false
    else
      some (x3.2.1 == 0)
def h8 : Hint := .z
noncomputable def sp8 : Spec fam := ⟨[.v (.int .i64) [], .v (.int .i64) []], [.v .bool []], fun a => dispatchlaw14_AssignLabels a.1 a.2.1⟩

end
end Go.Fx.D
