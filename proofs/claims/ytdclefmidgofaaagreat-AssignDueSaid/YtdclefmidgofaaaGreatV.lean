/-
  Laws over plain data: true at all inputs. Conditions: none.
-/
import Derived.Test.YtdclefmidgofaaaGreatD
import Derived.Test.YtdclefmidgofaaaGreatFxC
namespace Go.Fx.D
open Go Go.Fx
set_option linter.unusedVariables false
set_option linter.unusedSimpArgs false
set_option maxRecDepth 100000

def c_slices_Clone___string_string__ne (s : List (List UInt8)) : Option (List (List UInt8)) :=
  bif s.isEmpty then
    none
  else
    (app 16 [] s).bind fun l =>
    some l
theorem le_slices_Clone___string_string__ne (s : List (List UInt8)) : Lo (c_slices_Clone___string_string__ne s) (slices_Clone___string_string__ne s) := by
  unfold c_slices_Clone___string_string__ne slices_Clone___string_string__ne
  repeat' (first | with_reducible refine lo_bind4 ?_ ?_ ?_ ?_ ?_ | with_reducible refine lo_bind3 ?_ ?_ ?_ ?_ | with_reducible refine lo_bind2 ?_ ?_ ?_ | with_reducible refine lo_bind ?_ ?_ | with_reducible refine lo_cond ?_ ?_ | with_reducible refine lo_iter ?_ _ | (intro _) | with_reducible exact lo_refl _ | exact lo_none | (dsimp only))
def c_slices_Clone___string_string_ (s : List (List UInt8)) : Option (List (List UInt8)) := app 16 [] s
theorem le_slices_Clone___string_string_ (s : List (List UInt8)) : Lo (c_slices_Clone___string_string_ s) (slices_Clone___string_string_ s) := by
  unfold c_slices_Clone___string_string_ slices_Clone___string_string_
  repeat' (first | with_reducible refine lo_bind4 ?_ ?_ ?_ ?_ ?_ | with_reducible refine lo_bind3 ?_ ?_ ?_ ?_ | with_reducible refine lo_bind2 ?_ ?_ ?_ | with_reducible refine lo_bind ?_ ?_ | with_reducible refine lo_cond ?_ ?_ | with_reducible refine lo_iter ?_ _ | (intro _) | with_reducible exact lo_refl _ | exact lo_none | (dsimp only))
def c_api_Queue__ne (s : List Queue) : Option (List Queue) :=
  bif s.isEmpty then
    none
  else
    (app 48 [] s).bind fun l =>
    some l
theorem le_api_Queue__ne (s : List Queue) : Lo (c_api_Queue__ne s) (api_Queue__ne s) := by
  unfold c_api_Queue__ne api_Queue__ne
  repeat' (first | with_reducible refine lo_bind4 ?_ ?_ ?_ ?_ ?_ | with_reducible refine lo_bind3 ?_ ?_ ?_ ?_ | with_reducible refine lo_bind2 ?_ ?_ ?_ | with_reducible refine lo_bind ?_ ?_ | with_reducible refine lo_cond ?_ ?_ | with_reducible refine lo_iter ?_ _ | (intro _) | with_reducible exact lo_refl _ | exact lo_none | (dsimp only))
def c_api_Queue_ (s : List Queue) : Option (List Queue) := app 48 [] s
theorem le_api_Queue_ (s : List Queue) : Lo (c_api_Queue_ s) (api_Queue_ s) := by
  unfold c_api_Queue_ api_Queue_
  repeat' (first | with_reducible refine lo_bind4 ?_ ?_ ?_ ?_ ?_ | with_reducible refine lo_bind3 ?_ ?_ ?_ ?_ | with_reducible refine lo_bind2 ?_ ?_ ?_ | with_reducible refine lo_bind ?_ ?_ | with_reducible refine lo_cond ?_ ?_ | with_reducible refine lo_iter ?_ _ | (intro _) | with_reducible exact lo_refl _ | exact lo_none | (dsimp only))
def c_api_Cap__ne (s : List Cap) : Option (List Cap) :=
  bif s.isEmpty then
    none
  else
    (app 16 [] s).bind fun l =>
    some l
theorem le_api_Cap__ne (s : List Cap) : Lo (c_api_Cap__ne s) (api_Cap__ne s) := by
  unfold c_api_Cap__ne api_Cap__ne
  repeat' (first | with_reducible refine lo_bind4 ?_ ?_ ?_ ?_ ?_ | with_reducible refine lo_bind3 ?_ ?_ ?_ ?_ | with_reducible refine lo_bind2 ?_ ?_ ?_ | with_reducible refine lo_bind ?_ ?_ | with_reducible refine lo_cond ?_ ?_ | with_reducible refine lo_iter ?_ _ | (intro _) | with_reducible exact lo_refl _ | exact lo_none | (dsimp only))
def c_api_Cap_ (s : List Cap) : Option (List Cap) := app 16 [] s
theorem le_api_Cap_ (s : List Cap) : Lo (c_api_Cap_ s) (api_Cap_ s) := by
  unfold c_api_Cap_ api_Cap_
  repeat' (first | with_reducible refine lo_bind4 ?_ ?_ ?_ ?_ ?_ | with_reducible refine lo_bind3 ?_ ?_ ?_ ?_ | with_reducible refine lo_bind2 ?_ ?_ ?_ | with_reducible refine lo_bind ?_ ?_ | with_reducible refine lo_cond ?_ ?_ | with_reducible refine lo_iter ?_ _ | (intro _) | with_reducible exact lo_refl _ | exact lo_none | (dsimp only))
def c_api_Node__ne (s : List Node) : Option (List Node) :=
  bif s.isEmpty then
    none
  else
    (app 64 [] s).bind fun l =>
    some l
theorem le_api_Node__ne (s : List Node) : Lo (c_api_Node__ne s) (api_Node__ne s) := by
  unfold c_api_Node__ne api_Node__ne
  repeat' (first | with_reducible refine lo_bind4 ?_ ?_ ?_ ?_ ?_ | with_reducible refine lo_bind3 ?_ ?_ ?_ ?_ | with_reducible refine lo_bind2 ?_ ?_ ?_ | with_reducible refine lo_bind ?_ ?_ | with_reducible refine lo_cond ?_ ?_ | with_reducible refine lo_iter ?_ _ | (intro _) | with_reducible exact lo_refl _ | exact lo_none | (dsimp only))
def c_api_Node_ (s : List Node) : Option (List Node) := app 64 [] s
theorem le_api_Node_ (s : List Node) : Lo (c_api_Node_ s) (api_Node_ s) := by
  unfold c_api_Node_ api_Node_
  repeat' (first | with_reducible refine lo_bind4 ?_ ?_ ?_ ?_ ?_ | with_reducible refine lo_bind3 ?_ ?_ ?_ ?_ | with_reducible refine lo_bind2 ?_ ?_ ?_ | with_reducible refine lo_bind ?_ ?_ | with_reducible refine lo_cond ?_ ?_ | with_reducible refine lo_iter ?_ _ | (intro _) | with_reducible exact lo_refl _ | exact lo_none | (dsimp only))
def c_api_Cont__ne (s : List Cont) : Option (List Cont) :=
  bif s.isEmpty then
    none
  else
    (app 72 [] s).bind fun l =>
    some l
theorem le_api_Cont__ne (s : List Cont) : Lo (c_api_Cont__ne s) (api_Cont__ne s) := by
  unfold c_api_Cont__ne api_Cont__ne
  repeat' (first | with_reducible refine lo_bind4 ?_ ?_ ?_ ?_ ?_ | with_reducible refine lo_bind3 ?_ ?_ ?_ ?_ | with_reducible refine lo_bind2 ?_ ?_ ?_ | with_reducible refine lo_bind ?_ ?_ | with_reducible refine lo_cond ?_ ?_ | with_reducible refine lo_iter ?_ _ | (intro _) | with_reducible exact lo_refl _ | exact lo_none | (dsimp only))
def c_api_Cont_ (s : List Cont) : Option (List Cont) := app 72 [] s
theorem le_api_Cont_ (s : List Cont) : Lo (c_api_Cont_ s) (api_Cont_ s) := by
  unfold c_api_Cont_ api_Cont_
  repeat' (first | with_reducible refine lo_bind4 ?_ ?_ ?_ ?_ ?_ | with_reducible refine lo_bind3 ?_ ?_ ?_ ?_ | with_reducible refine lo_bind2 ?_ ?_ ?_ | with_reducible refine lo_bind ?_ ?_ | with_reducible refine lo_cond ?_ ?_ | with_reducible refine lo_iter ?_ _ | (intro _) | with_reducible exact lo_refl _ | exact lo_none | (dsimp only))
def c_api_Slot__ne (s : List Slot) : Option (List Slot) :=
  bif s.isEmpty then
    none
  else
    (app 24 [] s).bind fun l =>
    some l
theorem le_api_Slot__ne (s : List Slot) : Lo (c_api_Slot__ne s) (api_Slot__ne s) := by
  unfold c_api_Slot__ne api_Slot__ne
  repeat' (first | with_reducible refine lo_bind4 ?_ ?_ ?_ ?_ ?_ | with_reducible refine lo_bind3 ?_ ?_ ?_ ?_ | with_reducible refine lo_bind2 ?_ ?_ ?_ | with_reducible refine lo_bind ?_ ?_ | with_reducible refine lo_cond ?_ ?_ | with_reducible refine lo_iter ?_ _ | (intro _) | with_reducible exact lo_refl _ | exact lo_none | (dsimp only))
def c_api_Slot_ (s : List Slot) : Option (List Slot) := app 24 [] s
theorem le_api_Slot_ (s : List Slot) : Lo (c_api_Slot_ s) (api_Slot_ s) := by
  unfold c_api_Slot_ api_Slot_
  repeat' (first | with_reducible refine lo_bind4 ?_ ?_ ?_ ?_ ?_ | with_reducible refine lo_bind3 ?_ ?_ ?_ ?_ | with_reducible refine lo_bind2 ?_ ?_ ?_ | with_reducible refine lo_bind ?_ ?_ | with_reducible refine lo_cond ?_ ?_ | with_reducible refine lo_iter ?_ _ | (intro _) | with_reducible exact lo_refl _ | exact lo_none | (dsimp only))
def c_api_Plan__ne (s : List Plan) : Option (List Plan) :=
  bif s.isEmpty then
    none
  else
    (app 48 [] s).bind fun l =>
    some l
theorem le_api_Plan__ne (s : List Plan) : Lo (c_api_Plan__ne s) (api_Plan__ne s) := by
  unfold c_api_Plan__ne api_Plan__ne
  repeat' (first | with_reducible refine lo_bind4 ?_ ?_ ?_ ?_ ?_ | with_reducible refine lo_bind3 ?_ ?_ ?_ ?_ | with_reducible refine lo_bind2 ?_ ?_ ?_ | with_reducible refine lo_bind ?_ ?_ | with_reducible refine lo_cond ?_ ?_ | with_reducible refine lo_iter ?_ _ | (intro _) | with_reducible exact lo_refl _ | exact lo_none | (dsimp only))
def c_api_Plan_ (s : List Plan) : Option (List Plan) := app 48 [] s
theorem le_api_Plan_ (s : List Plan) : Lo (c_api_Plan_ s) (api_Plan_ s) := by
  unfold c_api_Plan_ api_Plan_
  repeat' (first | with_reducible refine lo_bind4 ?_ ?_ ?_ ?_ ?_ | with_reducible refine lo_bind3 ?_ ?_ ?_ ?_ | with_reducible refine lo_bind2 ?_ ?_ ?_ | with_reducible refine lo_bind ?_ ?_ | with_reducible refine lo_cond ?_ ?_ | with_reducible refine lo_iter ?_ _ | (intro _) | with_reducible exact lo_refl _ | exact lo_none | (dsimp only))
def c_api_App__ne (s : List App) : Option (List App) :=
  bif s.isEmpty then
    none
  else
    (app 200 [] s).bind fun l =>
    some l
theorem le_api_App__ne (s : List App) : Lo (c_api_App__ne s) (api_App__ne s) := by
  unfold c_api_App__ne api_App__ne
  repeat' (first | with_reducible refine lo_bind4 ?_ ?_ ?_ ?_ ?_ | with_reducible refine lo_bind3 ?_ ?_ ?_ ?_ | with_reducible refine lo_bind2 ?_ ?_ ?_ | with_reducible refine lo_bind ?_ ?_ | with_reducible refine lo_cond ?_ ?_ | with_reducible refine lo_iter ?_ _ | (intro _) | with_reducible exact lo_refl _ | exact lo_none | (dsimp only))
def c_api_App_ (s : List App) : Option (List App) := app 200 [] s
theorem le_api_App_ (s : List App) : Lo (c_api_App_ s) (api_App_ s) := by
  unfold c_api_App_ api_App_
  repeat' (first | with_reducible refine lo_bind4 ?_ ?_ ?_ ?_ ?_ | with_reducible refine lo_bind3 ?_ ?_ ?_ ?_ | with_reducible refine lo_bind2 ?_ ?_ ?_ | with_reducible refine lo_bind ?_ ?_ | with_reducible refine lo_cond ?_ ?_ | with_reducible refine lo_iter ?_ _ | (intro _) | with_reducible exact lo_refl _ | exact lo_none | (dsimp only))
def c_api_Ask__ne (s : List Ask) : Option (List Ask) :=
  bif s.isEmpty then
    none
  else
    (app 64 [] s).bind fun l =>
    some l
theorem le_api_Ask__ne (s : List Ask) : Lo (c_api_Ask__ne s) (api_Ask__ne s) := by
  unfold c_api_Ask__ne api_Ask__ne
  repeat' (first | with_reducible refine lo_bind4 ?_ ?_ ?_ ?_ ?_ | with_reducible refine lo_bind3 ?_ ?_ ?_ ?_ | with_reducible refine lo_bind2 ?_ ?_ ?_ | with_reducible refine lo_bind ?_ ?_ | with_reducible refine lo_cond ?_ ?_ | with_reducible refine lo_iter ?_ _ | (intro _) | with_reducible exact lo_refl _ | exact lo_none | (dsimp only))
def c_api_Ask_ (s : List Ask) : Option (List Ask) := app 64 [] s
theorem le_api_Ask_ (s : List Ask) : Lo (c_api_Ask_ s) (api_Ask_ s) := by
  unfold c_api_Ask_ api_Ask_
  repeat' (first | with_reducible refine lo_bind4 ?_ ?_ ?_ ?_ ?_ | with_reducible refine lo_bind3 ?_ ?_ ?_ ?_ | with_reducible refine lo_bind2 ?_ ?_ ?_ | with_reducible refine lo_bind ?_ ?_ | with_reducible refine lo_cond ?_ ?_ | with_reducible refine lo_iter ?_ _ | (intro _) | with_reducible exact lo_refl _ | exact lo_none | (dsimp only))
def c_apps_ints (l : List Int) : Option (List Int) :=
  (mkl 8 (l.length : Int) (l.length : Int) 0).bind fun l1 =>
  some (cpy l1 0 l1.length l)
theorem le_apps_ints (l : List Int) : Lo (c_apps_ints l) (apps_ints l) := by
  unfold c_apps_ints apps_ints
  repeat' (first | with_reducible refine lo_bind4 ?_ ?_ ?_ ?_ ?_ | with_reducible refine lo_bind3 ?_ ?_ ?_ ?_ | with_reducible refine lo_bind2 ?_ ?_ ?_ | with_reducible refine lo_bind ?_ ?_ | with_reducible refine lo_cond ?_ ?_ | with_reducible refine lo_iter ?_ _ | (intro _) | with_reducible exact lo_refl _ | exact lo_none | (dsimp only))
def c_apps_app (a : App) : Option App :=
  (c_api_Ask_ a.Asks).bind fun x =>
  (c_apps_ints a.Grants).bind fun x1 =>
  (c_apps_ints a.Kills).bind fun x2 =>
  (c_apps_ints a.Told).bind fun x3 =>
  (c_apps_ints a.Lost).bind fun x4 =>
  some (⟨a.Id, a.State, a.Queue, a.User, a.Prio, ⟨a.Master.Mem, a.Master.Cores⟩, x, a.Seen, a.Beat, x1, x2, x3, x4⟩ : App)
theorem le_apps_app (a : App) : Lo (c_apps_app a) (apps_app a) := by
  unfold c_apps_app apps_app
  repeat' (first | with_reducible exact le_api_Ask_ _ | with_reducible exact le_apps_ints _ | with_reducible refine lo_bind4 ?_ ?_ ?_ ?_ ?_ | with_reducible refine lo_bind3 ?_ ?_ ?_ ?_ | with_reducible refine lo_bind2 ?_ ?_ ?_ | with_reducible refine lo_bind ?_ ?_ | with_reducible refine lo_cond ?_ ?_ | with_reducible refine lo_iter ?_ _ | (intro _) | with_reducible exact lo_refl _ | exact lo_none | (dsimp only))
def c_apps_own_l2 (x9 : List App) (t1 : List App × Int) : Option ((List App × Int) ⊕ List App) :=
  bif decide (t1.2 < (x9.length : Int)) then
    (inb t1.2 t1.1.length).bind fun i2 =>
    (t1.1[i2]?).bind fun x10 =>
    (c_apps_app x10).bind fun x11 =>
    (inb t1.2 t1.1.length).bind fun i3 =>
    (t1.1[i3]?).bind fun x12 =>
    some (.inl (List.set t1.1 i3 x11, w64 (t1.2 + 1)))
  else
    some (.inr t1.1)
theorem le_apps_own_l2 (x9 : List App) (t1 : List App × Int) : Lo (c_apps_own_l2 x9 t1) (apps_own_l2 x9 t1) := by
  unfold c_apps_own_l2 apps_own_l2
  repeat' (first | with_reducible exact le_apps_app _ | with_reducible refine lo_bind4 ?_ ?_ ?_ ?_ ?_ | with_reducible refine lo_bind3 ?_ ?_ ?_ ?_ | with_reducible refine lo_bind2 ?_ ?_ ?_ | with_reducible refine lo_bind ?_ ?_ | with_reducible refine lo_cond ?_ ?_ | with_reducible refine lo_iter ?_ _ | (intro _) | with_reducible exact lo_refl _ | exact lo_none | (dsimp only))
def c_apps_own_l1 (x1 : List Queue) (t : List Queue × Int) : Option ((List Queue × Int) ⊕ List Queue) :=
  bif decide (t.2 < (x1.length : Int)) then
    (inb t.2 t.1.length).bind fun i =>
    (t.1[i]?).bind fun x2 =>
    (c_api_Cap_ x2.Caps).bind fun x3 =>
    (inb t.2 t.1.length).bind fun i1 =>
    (t.1[i1]?).bind fun x4 =>
    some (.inl (List.set t.1 i1 (⟨x4.Path, x3, x4.User⟩ : Queue), w64 (t.2 + 1)))
  else
    some (.inr t.1)
theorem le_apps_own_l1 (x1 : List Queue) (t : List Queue × Int) : Lo (c_apps_own_l1 x1 t) (apps_own_l1 x1 t) := by
  unfold c_apps_own_l1 apps_own_l1
  repeat' (first | with_reducible exact le_api_Cap_ _ | with_reducible refine lo_bind4 ?_ ?_ ?_ ?_ ?_ | with_reducible refine lo_bind3 ?_ ?_ ?_ ?_ | with_reducible refine lo_bind2 ?_ ?_ ?_ | with_reducible refine lo_bind ?_ ?_ | with_reducible refine lo_cond ?_ ?_ | with_reducible refine lo_iter ?_ _ | (intro _) | with_reducible exact lo_refl _ | exact lo_none | (dsimp only))
def c_apps_own (s : State) : Option State :=
  (c_slices_Clone___string_string_ s.Conf.Labels).bind fun x =>
  (c_api_Queue_ s.Conf.Queues).bind fun x1 =>
  (itr 4096 (c_apps_own_l1 x1) (x1, 0)).bind fun q =>
  (c_api_Node_ s.Nodes).bind fun x5 =>
  (c_api_Cont_ s.Conts).bind fun x6 =>
  (c_api_Slot_ s.Slots).bind fun x7 =>
  (c_api_Plan_ s.Plans).bind fun x8 =>
  (c_api_App_ s.Apps).bind fun x9 =>
  (itr 4096 (c_apps_own_l2 x9) (x9, 0)).bind fun q1 =>
  some (⟨⟨x, q⟩, x5, q1, x6, x7, x8, s.Now, s.Epoch, s.Seq⟩ : State)
theorem le_apps_own (s : State) : Lo (c_apps_own s) (apps_own s) := by
  unfold c_apps_own apps_own
  repeat' (first | with_reducible exact le_slices_Clone___string_string_ _ | with_reducible exact le_api_Queue_ _ | with_reducible exact le_apps_own_l1 _ _ | with_reducible exact le_api_Node_ _ | with_reducible exact le_api_Cont_ _ | with_reducible exact le_api_Slot_ _ | with_reducible exact le_api_Plan_ _ | with_reducible exact le_api_App_ _ | with_reducible exact le_apps_own_l2 _ _ | with_reducible refine lo_bind4 ?_ ?_ ?_ ?_ ?_ | with_reducible refine lo_bind3 ?_ ?_ ?_ ?_ | with_reducible refine lo_bind2 ?_ ?_ ?_ | with_reducible refine lo_bind ?_ ?_ | with_reducible refine lo_cond ?_ ?_ | with_reducible refine lo_iter ?_ _ | (intro _) | with_reducible exact lo_refl _ | exact lo_none | (dsimp only))
def c_api_Cont__43_l1 (s : List Cont) (f : (TupT fam [.st 4] → Option Bool)) (t : Int) : Option (Int ⊕ (Int ⊕ Unit)) :=
  bif decide (t < (s.length : Int)) then
    (idx s t).bind fun x =>
    (f (x, ())).bind fun r =>
    bif r then
      some (.inr (.inl t))
    else
      some (.inl (w64 (t + 1)))
  else
    some (.inr (.inr ()))
theorem le_api_Cont__43_l1 (s : List Cont) (f f_' : (TupT fam [.st 4] → Option Bool)) (h_f : ∀ a, Lo (f a) (f_' a)) (t : Int) : Lo (c_api_Cont__43_l1 s f t) (api_Cont__43_l1 s f_' t) := by
  unfold c_api_Cont__43_l1 api_Cont__43_l1
  repeat' (first | exact h_f _ | with_reducible refine lo_bind4 ?_ ?_ ?_ ?_ ?_ | with_reducible refine lo_bind3 ?_ ?_ ?_ ?_ | with_reducible refine lo_bind2 ?_ ?_ ?_ | with_reducible refine lo_bind ?_ ?_ | with_reducible refine lo_cond ?_ ?_ | with_reducible refine lo_iter ?_ _ | (intro _) | with_reducible exact lo_refl _ | exact lo_none | (dsimp only))
def c_api_Cont__43 (s : List Cont) (f : (TupT fam [.st 4] → Option Bool)) : Option Int :=
  (itr 4096 (c_api_Cont__43_l1 s f) 0).bind fun q0 =>
  match q0 with
  | .inl q =>
    some q
  | .inr _ =>
    some (-1)
theorem le_api_Cont__43 (s : List Cont) (f f_' : (TupT fam [.st 4] → Option Bool)) (h_f : ∀ a, Lo (f a) (f_' a)) : Lo (c_api_Cont__43 s f) (api_Cont__43 s f_') := by
  unfold c_api_Cont__43 api_Cont__43
  repeat' (first | with_reducible refine le_api_Cont__43_l1 _ _ _ ?_ _ | exact h_f _ | with_reducible refine lo_bind4 ?_ ?_ ?_ ?_ ?_ | with_reducible refine lo_bind3 ?_ ?_ ?_ ?_ | with_reducible refine lo_bind2 ?_ ?_ ?_ | with_reducible refine lo_bind ?_ ?_ | with_reducible refine lo_cond ?_ ?_ | with_reducible refine lo_iter ?_ _ | (intro _) | with_reducible exact lo_refl _ | exact lo_none | (dsimp only))
def c_apps_Lose_1 (c : Cont) (p : Int) : Option Bool :=
  some (c.Id == p)
theorem le_apps_Lose_1 (c : Cont) (p : Int) : Lo (c_apps_Lose_1 c p) (apps_Lose_1 c p) := by
  unfold c_apps_Lose_1 apps_Lose_1
  repeat' (first | with_reducible refine lo_bind4 ?_ ?_ ?_ ?_ ?_ | with_reducible refine lo_bind3 ?_ ?_ ?_ ?_ | with_reducible refine lo_bind2 ?_ ?_ ?_ | with_reducible refine lo_bind ?_ ?_ | with_reducible refine lo_cond ?_ ?_ | with_reducible refine lo_iter ?_ _ | (intro _) | with_reducible exact lo_refl _ | exact lo_none | (dsimp only))
def c_api_App__79_l1 (s : List App) (f : (TupT fam [.st 8] → Option Bool)) (t : Int) : Option (Int ⊕ (Int ⊕ Unit)) :=
  bif decide (t < (s.length : Int)) then
    (idx s t).bind fun x =>
    (f (x, ())).bind fun r =>
    bif r then
      some (.inr (.inl t))
    else
      some (.inl (w64 (t + 1)))
  else
    some (.inr (.inr ()))
theorem le_api_App__79_l1 (s : List App) (f f_' : (TupT fam [.st 8] → Option Bool)) (h_f : ∀ a, Lo (f a) (f_' a)) (t : Int) : Lo (c_api_App__79_l1 s f t) (api_App__79_l1 s f_' t) := by
  unfold c_api_App__79_l1 api_App__79_l1
  repeat' (first | exact h_f _ | with_reducible refine lo_bind4 ?_ ?_ ?_ ?_ ?_ | with_reducible refine lo_bind3 ?_ ?_ ?_ ?_ | with_reducible refine lo_bind2 ?_ ?_ ?_ | with_reducible refine lo_bind ?_ ?_ | with_reducible refine lo_cond ?_ ?_ | with_reducible refine lo_iter ?_ _ | (intro _) | with_reducible exact lo_refl _ | exact lo_none | (dsimp only))
def c_api_App__79 (s : List App) (f : (TupT fam [.st 8] → Option Bool)) : Option Int :=
  (itr 4096 (c_api_App__79_l1 s f) 0).bind fun q0 =>
  match q0 with
  | .inl q =>
    some q
  | .inr _ =>
    some (-1)
theorem le_api_App__79 (s : List App) (f f_' : (TupT fam [.st 8] → Option Bool)) (h_f : ∀ a, Lo (f a) (f_' a)) : Lo (c_api_App__79 s f) (api_App__79 s f_') := by
  unfold c_api_App__79 api_App__79
  repeat' (first | with_reducible refine le_api_App__79_l1 _ _ _ ?_ _ | exact h_f _ | with_reducible refine lo_bind4 ?_ ?_ ?_ ?_ ?_ | with_reducible refine lo_bind3 ?_ ?_ ?_ ?_ | with_reducible refine lo_bind2 ?_ ?_ ?_ | with_reducible refine lo_bind ?_ ?_ | with_reducible refine lo_cond ?_ ?_ | with_reducible refine lo_iter ?_ _ | (intro _) | with_reducible exact lo_refl _ | exact lo_none | (dsimp only))
def c_apps_at_1 (a : App) (p : Int) : Option Bool :=
  some (a.Id == p)
theorem le_apps_at_1 (a : App) (p : Int) : Lo (c_apps_at_1 a p) (apps_at_1 a p) := by
  unfold c_apps_at_1 apps_at_1
  repeat' (first | with_reducible refine lo_bind4 ?_ ?_ ?_ ?_ ?_ | with_reducible refine lo_bind3 ?_ ?_ ?_ ?_ | with_reducible refine lo_bind2 ?_ ?_ ?_ | with_reducible refine lo_bind ?_ ?_ | with_reducible refine lo_cond ?_ ?_ | with_reducible refine lo_iter ?_ _ | (intro _) | with_reducible exact lo_refl _ | exact lo_none | (dsimp only))
def c_apps_at (s : State) (id_ : Int) : Option Int :=
  (c_api_App__79 s.Apps (fun a' => c_apps_at_1 a'.1 id_)).bind fun x =>
  some x
theorem le_apps_at (s : State) (id_ : Int) : Lo (c_apps_at s id_) (apps_at s id_) := by
  unfold c_apps_at apps_at
  repeat' (first | with_reducible refine le_api_App__79 _ _ _ ?_ | with_reducible exact le_apps_at_1 _ _ | with_reducible refine lo_bind4 ?_ ?_ ?_ ?_ ?_ | with_reducible refine lo_bind3 ?_ ?_ ?_ ?_ | with_reducible refine lo_bind2 ?_ ?_ ?_ | with_reducible refine lo_bind ?_ ?_ | with_reducible refine lo_cond ?_ ?_ | with_reducible refine lo_iter ?_ _ | (intro _) | with_reducible exact lo_refl _ | exact lo_none | (dsimp only))
def c_asks_own (l : List Ask) : Option (List Ask) :=
  (mkl 64 (l.length : Int) (l.length : Int) (⟨0, 0, ⟨0, 0⟩, 0, 0, 0, 0⟩ : Ask)).bind fun l1 =>
  some (cpy l1 0 l1.length l)
theorem le_asks_own (l : List Ask) : Lo (c_asks_own l) (asks_own l) := by
  unfold c_asks_own asks_own
  repeat' (first | with_reducible refine lo_bind4 ?_ ?_ ?_ ?_ ?_ | with_reducible refine lo_bind3 ?_ ?_ ?_ ?_ | with_reducible refine lo_bind2 ?_ ?_ ?_ | with_reducible refine lo_bind ?_ ?_ | with_reducible refine lo_cond ?_ ?_ | with_reducible refine lo_iter ?_ _ | (intro _) | with_reducible exact lo_refl _ | exact lo_none | (dsimp only))
def c_api_Ask__145_l1 (s : List Ask) (f : (TupT fam [.st 7] → Option Bool)) (t : Int) : Option (Int ⊕ (Int ⊕ Unit)) :=
  bif decide (t < (s.length : Int)) then
    (idx s t).bind fun x =>
    (f (x, ())).bind fun r =>
    bif r then
      some (.inr (.inl t))
    else
      some (.inl (w64 (t + 1)))
  else
    some (.inr (.inr ()))
theorem le_api_Ask__145_l1 (s : List Ask) (f f_' : (TupT fam [.st 7] → Option Bool)) (h_f : ∀ a, Lo (f a) (f_' a)) (t : Int) : Lo (c_api_Ask__145_l1 s f t) (api_Ask__145_l1 s f_' t) := by
  unfold c_api_Ask__145_l1 api_Ask__145_l1
  repeat' (first | exact h_f _ | with_reducible refine lo_bind4 ?_ ?_ ?_ ?_ ?_ | with_reducible refine lo_bind3 ?_ ?_ ?_ ?_ | with_reducible refine lo_bind2 ?_ ?_ ?_ | with_reducible refine lo_bind ?_ ?_ | with_reducible refine lo_cond ?_ ?_ | with_reducible refine lo_iter ?_ _ | (intro _) | with_reducible exact lo_refl _ | exact lo_none | (dsimp only))
def c_api_Ask__145 (s : List Ask) (f : (TupT fam [.st 7] → Option Bool)) : Option Int :=
  (itr 4096 (c_api_Ask__145_l1 s f) 0).bind fun q0 =>
  match q0 with
  | .inl q =>
    some q
  | .inr _ =>
    some (-1)
theorem le_api_Ask__145 (s : List Ask) (f f_' : (TupT fam [.st 7] → Option Bool)) (h_f : ∀ a, Lo (f a) (f_' a)) : Lo (c_api_Ask__145 s f) (api_Ask__145 s f_') := by
  unfold c_api_Ask__145 api_Ask__145
  repeat' (first | with_reducible refine le_api_Ask__145_l1 _ _ _ ?_ _ | exact h_f _ | with_reducible refine lo_bind4 ?_ ?_ ?_ ?_ ?_ | with_reducible refine lo_bind3 ?_ ?_ ?_ ?_ | with_reducible refine lo_bind2 ?_ ?_ ?_ | with_reducible refine lo_bind ?_ ?_ | with_reducible refine lo_cond ?_ ?_ | with_reducible refine lo_iter ?_ _ | (intro _) | with_reducible exact lo_refl _ | exact lo_none | (dsimp only))
def c_api_Ask__134_l1 (del : (TupT fam [.st 7] → Option Bool)) (t : List Ask × Int × Int) : Option ((List Ask × Int × Int) ⊕ ((List Ask × Int))) :=
  bif decide (t.2.2 < (t.1.length : Int)) then
    (
      (inb t.2.2 t.1.length).bind fun i1 =>
      (t.1[i1]?).bind fun x =>
      (del (x, ())).bind fun r =>
      bif ! r then
        (inb t.2.1 t.1.length).bind fun i2 =>
        (t.1[i2]?).bind fun x1 =>
        some (List.set t.1 i2 x, w64 (t.2.1 + 1))
      else
        some (t.1, t.2.1)).bind fun q =>
    some (.inl (q.1, q.2, w64 (t.2.2 + 1)))
  else
    some (.inr (t.1, t.2.1))
theorem le_api_Ask__134_l1 (del del_' : (TupT fam [.st 7] → Option Bool)) (h_del : ∀ a, Lo (del a) (del_' a)) (t : List Ask × Int × Int) : Lo (c_api_Ask__134_l1 del t) (api_Ask__134_l1 del_' t) := by
  unfold c_api_Ask__134_l1 api_Ask__134_l1
  repeat' (first | exact h_del _ | with_reducible refine lo_bind4 ?_ ?_ ?_ ?_ ?_ | with_reducible refine lo_bind3 ?_ ?_ ?_ ?_ | with_reducible refine lo_bind2 ?_ ?_ ?_ | with_reducible refine lo_bind ?_ ?_ | with_reducible refine lo_cond ?_ ?_ | with_reducible refine lo_iter ?_ _ | (intro _) | with_reducible exact lo_refl _ | exact lo_none | (dsimp only))
def c_api_Ask__134 (s : List Ask) (del : (TupT fam [.st 7] → Option Bool)) : Option (List Ask) :=
  (c_api_Ask__145 s del).bind fun i =>
  bif i == (-1) then
    some s
  else
    (itr 4096 (c_api_Ask__134_l1 del) (s, i, w64 (i + 1))).bind fun q1 =>
    (inS q1.2 (q1.1.length : Int) q1.1.length).bind fun p =>
    none
theorem le_api_Ask__134 (s : List Ask) (del del_' : (TupT fam [.st 7] → Option Bool)) (h_del : ∀ a, Lo (del a) (del_' a)) : Lo (c_api_Ask__134 s del) (api_Ask__134 s del_') := by
  unfold c_api_Ask__134 api_Ask__134
  repeat' (first | with_reducible refine le_api_Ask__145 _ _ _ ?_ | with_reducible refine le_api_Ask__134_l1 _ _ ?_ _ | exact h_del _ | with_reducible refine lo_bind4 ?_ ?_ ?_ ?_ ?_ | with_reducible refine lo_bind3 ?_ ?_ ?_ ?_ | with_reducible refine lo_bind2 ?_ ?_ ?_ | with_reducible refine lo_bind ?_ ?_ | with_reducible refine lo_cond ?_ ?_ | with_reducible refine lo_iter ?_ _ | (intro _) | with_reducible exact lo_refl _ | exact lo_none | (dsimp only))
def c_asks_Set_1 (x : Ask) (p : Ask) : Option Bool :=
  some (x.Prio == p.Prio)
theorem le_asks_Set_1 (x : Ask) (p : Ask) : Lo (c_asks_Set_1 x p) (asks_Set_1 x p) := by
  unfold c_asks_Set_1 asks_Set_1
  repeat' (first | with_reducible refine lo_bind4 ?_ ?_ ?_ ?_ ?_ | with_reducible refine lo_bind3 ?_ ?_ ?_ ?_ | with_reducible refine lo_bind2 ?_ ?_ ?_ | with_reducible refine lo_bind ?_ ?_ | with_reducible refine lo_cond ?_ ?_ | with_reducible refine lo_iter ?_ _ | (intro _) | with_reducible exact lo_refl _ | exact lo_none | (dsimp only))
def c_api_Ask__193_l1 (t : List Ask × Int × Int) : Option ((List Ask × Int × Int) ⊕ List Ask) :=
  bif decide (t.2.1 < t.2.2) then
    (inb t.2.2 t.1.length).bind fun i =>
    (t.1[i]?).bind fun x =>
    (inb t.2.1 t.1.length).bind fun i1 =>
    (t.1[i1]?).bind fun x1 =>
    (inb t.2.1 t.1.length).bind fun i2 =>
    (t.1[i2]?).bind fun x2 =>
    (inb t.2.2 (List.set t.1 i2 x).length).bind fun i3 =>
    ((List.set t.1 i2 x)[i3]?).bind fun x3 =>
    some (.inl (List.set (List.set t.1 i2 x) i3 x1, w64 (t.2.1 + 1), w64 (t.2.2 - 1)))
  else
    some (.inr t.1)
theorem le_api_Ask__193_l1 (t : List Ask × Int × Int) : Lo (c_api_Ask__193_l1 t) (api_Ask__193_l1 t) := by
  unfold c_api_Ask__193_l1 api_Ask__193_l1
  repeat' (first | with_reducible refine lo_bind4 ?_ ?_ ?_ ?_ ?_ | with_reducible refine lo_bind3 ?_ ?_ ?_ ?_ | with_reducible refine lo_bind2 ?_ ?_ ?_ | with_reducible refine lo_bind ?_ ?_ | with_reducible refine lo_cond ?_ ?_ | with_reducible refine lo_iter ?_ _ | (intro _) | with_reducible exact lo_refl _ | exact lo_none | (dsimp only))
def c_api_Ask__193 (s : List Ask) : Option (List Ask) :=
  let j := w64 ((s.length : Int) - 1)
  (itr 4096 c_api_Ask__193_l1 (s, 0, j)).bind fun s1 =>
  some s1
theorem le_api_Ask__193 (s : List Ask) : Lo (c_api_Ask__193 s) (api_Ask__193 s) := by
  unfold c_api_Ask__193 api_Ask__193
  repeat' (first | with_reducible exact le_api_Ask__193_l1 _ | with_reducible refine lo_bind4 ?_ ?_ ?_ ?_ ?_ | with_reducible refine lo_bind3 ?_ ?_ ?_ ?_ | with_reducible refine lo_bind2 ?_ ?_ ?_ | with_reducible refine lo_bind ?_ ?_ | with_reducible refine lo_cond ?_ ?_ | with_reducible refine lo_iter ?_ _ | (intro _) | with_reducible exact lo_refl _ | exact lo_none | (dsimp only))
def c_api_Ask__172 (s : List Ask) (r : Int) : Option Unit :=
  (slc s 0 r).bind fun l =>
  none
theorem le_api_Ask__172 (s : List Ask) (r : Int) : Lo (c_api_Ask__172 s r) (api_Ask__172 s r) := by
  unfold c_api_Ask__172 api_Ask__172
  repeat' (first | with_reducible refine lo_bind4 ?_ ?_ ?_ ?_ ?_ | with_reducible refine lo_bind3 ?_ ?_ ?_ ?_ | with_reducible refine lo_bind2 ?_ ?_ ?_ | with_reducible refine lo_bind ?_ ?_ | with_reducible refine lo_cond ?_ ?_ | with_reducible refine lo_iter ?_ _ | (intro _) | with_reducible exact lo_refl _ | exact lo_none | (dsimp only))
def c_api_Ask__157 (s : List Ask) (r : Int) : Option Unit :=
  (c_api_Ask__172 s (w64 ((s.length : Int) - r))).bind fun _ =>
  some ()
theorem le_api_Ask__157 (s : List Ask) (r : Int) : Lo (c_api_Ask__157 s r) (api_Ask__157 s r) := by
  unfold c_api_Ask__157 api_Ask__157
  repeat' (first | with_reducible exact le_api_Ask__172 _ _ | with_reducible refine lo_bind4 ?_ ?_ ?_ ?_ ?_ | with_reducible refine lo_bind3 ?_ ?_ ?_ ?_ | with_reducible refine lo_bind2 ?_ ?_ ?_ | with_reducible refine lo_bind ?_ ?_ | with_reducible refine lo_cond ?_ ?_ | with_reducible refine lo_iter ?_ _ | (intro _) | with_reducible exact lo_refl _ | exact lo_none | (dsimp only))
def c_api_Ask__136 (s : List Ask) (i : Int) (v : List Ask) : Option (List Ask) :=
  (inS i (s.length : Int) s.length).bind fun p =>
  bif (v.length : Int) == 0 then
    some s
  else
    bif i == (s.length : Int) then
      (app 64 s v).bind fun l =>
      some l
    else
      none
theorem le_api_Ask__136 (s : List Ask) (i : Int) (v : List Ask) : Lo (c_api_Ask__136 s i v) (api_Ask__136 s i v) := by
  unfold c_api_Ask__136 api_Ask__136
  repeat' (first | with_reducible refine lo_bind4 ?_ ?_ ?_ ?_ ?_ | with_reducible refine lo_bind3 ?_ ?_ ?_ ?_ | with_reducible refine lo_bind2 ?_ ?_ ?_ | with_reducible refine lo_bind ?_ ?_ | with_reducible refine lo_cond ?_ ?_ | with_reducible refine lo_iter ?_ _ | (intro _) | with_reducible exact lo_refl _ | exact lo_none | (dsimp only))
def c_asks_Set_l1 (a : Ask) (out : List Ask) (k : Int) : Option (Int ⊕ Int) :=
  (
    bif decide (k < (out.length : Int)) then
      (inb k out.length).bind fun i =>
      (out[i]?).bind fun x1 =>
      some (decide (x1.Prio < a.Prio))
    else
      some false).bind fun q =>
  bif q then
    some (.inl (w64 (k + 1)))
  else
    some (.inr k)
theorem le_asks_Set_l1 (a : Ask) (out : List Ask) (k : Int) : Lo (c_asks_Set_l1 a out k) (asks_Set_l1 a out k) := by
  unfold c_asks_Set_l1 asks_Set_l1
  repeat' (first | with_reducible refine lo_bind4 ?_ ?_ ?_ ?_ ?_ | with_reducible refine lo_bind3 ?_ ?_ ?_ ?_ | with_reducible refine lo_bind2 ?_ ?_ ?_ | with_reducible refine lo_bind ?_ ?_ | with_reducible refine lo_cond ?_ ?_ | with_reducible refine lo_iter ?_ _ | (intro _) | with_reducible exact lo_refl _ | exact lo_none | (dsimp only))
def c_asks_Set (l : List Ask) (a : Ask) : Option (List Ask × Int) :=
  (c_asks_own l).bind fun x =>
  (c_api_Ask__134 x (fun a' => c_asks_Set_1 a'.1 a)).bind fun out =>
  bif a.Count == 0 then
    some (out, 0)
  else
    bif decide ((out.length : Int) ≥ 8) then
      some ([], 4)
    else
      (itr 4096 (c_asks_Set_l1 a out) 0).bind fun k1 =>
      (c_api_Ask__136 out k1 [(⟨a.Prio, a.Label, ⟨a.Size.Mem, a.Size.Cores⟩, a.Count, a.Node, a.Rack, 0⟩ : Ask)]).bind fun x2 =>
      some (x2, 0)
theorem le_asks_Set (l : List Ask) (a : Ask) : Lo (c_asks_Set l a) (asks_Set l a) := by
  unfold c_asks_Set asks_Set
  repeat' (first | with_reducible exact le_asks_own _ | with_reducible refine le_api_Ask__134 _ _ _ ?_ | with_reducible exact le_asks_Set_1 _ _ | with_reducible exact le_asks_Set_l1 _ _ _ | with_reducible exact le_api_Ask__136 _ _ _ | with_reducible refine lo_bind4 ?_ ?_ ?_ ?_ ?_ | with_reducible refine lo_bind3 ?_ ?_ ?_ ?_ | with_reducible refine lo_bind2 ?_ ?_ ?_ | with_reducible refine lo_bind ?_ ?_ | with_reducible refine lo_cond ?_ ?_ | with_reducible refine lo_iter ?_ _ | (intro _) | with_reducible exact lo_refl _ | exact lo_none | (dsimp only))
def c_apps_first (a : App) : Option (List Ask) :=
  (c_asks_Set [] (⟨0, 0, ⟨a.Master.Mem, a.Master.Cores⟩, 1, (-1), (-1), 0⟩ : Ask)).bind fun x =>
  some x.1
theorem le_apps_first (a : App) : Lo (c_apps_first a) (apps_first a) := by
  unfold c_apps_first apps_first
  repeat' (first | with_reducible exact le_asks_Set _ _ | with_reducible refine lo_bind4 ?_ ?_ ?_ ?_ ?_ | with_reducible refine lo_bind3 ?_ ?_ ?_ ?_ | with_reducible refine lo_bind2 ?_ ?_ ?_ | with_reducible refine lo_bind ?_ ?_ | with_reducible refine lo_cond ?_ ?_ | with_reducible refine lo_iter ?_ _ | (intro _) | with_reducible exact lo_refl _ | exact lo_none | (dsimp only))
def c_api_Cont__104_l1 (del : (TupT fam [.st 4] → Option Bool)) (t : List Cont × Int × Int) : Option ((List Cont × Int × Int) ⊕ ((List Cont × Int))) :=
  bif decide (t.2.2 < (t.1.length : Int)) then
    (
      (inb t.2.2 t.1.length).bind fun i1 =>
      (t.1[i1]?).bind fun x =>
      (del (x, ())).bind fun r =>
      bif ! r then
        (inb t.2.1 t.1.length).bind fun i2 =>
        (t.1[i2]?).bind fun x1 =>
        some (List.set t.1 i2 x, w64 (t.2.1 + 1))
      else
        some (t.1, t.2.1)).bind fun q =>
    some (.inl (q.1, q.2, w64 (t.2.2 + 1)))
  else
    some (.inr (t.1, t.2.1))
theorem le_api_Cont__104_l1 (del del_' : (TupT fam [.st 4] → Option Bool)) (h_del : ∀ a, Lo (del a) (del_' a)) (t : List Cont × Int × Int) : Lo (c_api_Cont__104_l1 del t) (api_Cont__104_l1 del_' t) := by
  unfold c_api_Cont__104_l1 api_Cont__104_l1
  repeat' (first | exact h_del _ | with_reducible refine lo_bind4 ?_ ?_ ?_ ?_ ?_ | with_reducible refine lo_bind3 ?_ ?_ ?_ ?_ | with_reducible refine lo_bind2 ?_ ?_ ?_ | with_reducible refine lo_bind ?_ ?_ | with_reducible refine lo_cond ?_ ?_ | with_reducible refine lo_iter ?_ _ | (intro _) | with_reducible exact lo_refl _ | exact lo_none | (dsimp only))
def c_api_Cont__104 (s : List Cont) (del : (TupT fam [.st 4] → Option Bool)) : Option (List Cont) :=
  (c_api_Cont__43 s del).bind fun i =>
  bif i == (-1) then
    some s
  else
    (itr 4096 (c_api_Cont__104_l1 del) (s, i, w64 (i + 1))).bind fun q1 =>
    (inS q1.2 (q1.1.length : Int) q1.1.length).bind fun p =>
    none
theorem le_api_Cont__104 (s : List Cont) (del del_' : (TupT fam [.st 4] → Option Bool)) (h_del : ∀ a, Lo (del a) (del_' a)) : Lo (c_api_Cont__104 s del) (api_Cont__104 s del_') := by
  unfold c_api_Cont__104 api_Cont__104
  repeat' (first | with_reducible refine le_api_Cont__43 _ _ _ ?_ | with_reducible refine le_api_Cont__104_l1 _ _ ?_ _ | exact h_del _ | with_reducible refine lo_bind4 ?_ ?_ ?_ ?_ ?_ | with_reducible refine lo_bind3 ?_ ?_ ?_ ?_ | with_reducible refine lo_bind2 ?_ ?_ ?_ | with_reducible refine lo_bind ?_ ?_ | with_reducible refine lo_cond ?_ ?_ | with_reducible refine lo_iter ?_ _ | (intro _) | with_reducible exact lo_refl _ | exact lo_none | (dsimp only))
def c_apps_strip_1 (c : Cont) (p : Int) (p1 : List Int) : Option (Bool × List Int) :=
  (
    bif c.App == p then
      (app 8 p1 [c.Id]).bind fun l =>
      some l
    else
      some p1).bind fun q =>
  some (c.App == p, q)
theorem le_apps_strip_1 (c : Cont) (p : Int) (p1 : List Int) : Lo (c_apps_strip_1 c p p1) (apps_strip_1 c p p1) := by
  unfold c_apps_strip_1 apps_strip_1
  repeat' (first | with_reducible refine lo_bind4 ?_ ?_ ?_ ?_ ?_ | with_reducible refine lo_bind3 ?_ ?_ ?_ ?_ | with_reducible refine lo_bind2 ?_ ?_ ?_ | with_reducible refine lo_bind ?_ ?_ | with_reducible refine lo_cond ?_ ?_ | with_reducible refine lo_iter ?_ _ | (intro _) | with_reducible exact lo_refl _ | exact lo_none | (dsimp only))
def c_api_Slot__52_l1 (s : List Slot) (f : (TupT fam [.st 5] → Option Bool)) (t : Int) : Option (Int ⊕ (Int ⊕ Unit)) :=
  bif decide (t < (s.length : Int)) then
    (idx s t).bind fun x =>
    (f (x, ())).bind fun r =>
    bif r then
      some (.inr (.inl t))
    else
      some (.inl (w64 (t + 1)))
  else
    some (.inr (.inr ()))
theorem le_api_Slot__52_l1 (s : List Slot) (f f_' : (TupT fam [.st 5] → Option Bool)) (h_f : ∀ a, Lo (f a) (f_' a)) (t : Int) : Lo (c_api_Slot__52_l1 s f t) (api_Slot__52_l1 s f_' t) := by
  unfold c_api_Slot__52_l1 api_Slot__52_l1
  repeat' (first | exact h_f _ | with_reducible refine lo_bind4 ?_ ?_ ?_ ?_ ?_ | with_reducible refine lo_bind3 ?_ ?_ ?_ ?_ | with_reducible refine lo_bind2 ?_ ?_ ?_ | with_reducible refine lo_bind ?_ ?_ | with_reducible refine lo_cond ?_ ?_ | with_reducible refine lo_iter ?_ _ | (intro _) | with_reducible exact lo_refl _ | exact lo_none | (dsimp only))
def c_api_Slot__52 (s : List Slot) (f : (TupT fam [.st 5] → Option Bool)) : Option Int :=
  (itr 4096 (c_api_Slot__52_l1 s f) 0).bind fun q0 =>
  match q0 with
  | .inl q =>
    some q
  | .inr _ =>
    some (-1)
theorem le_api_Slot__52 (s : List Slot) (f f_' : (TupT fam [.st 5] → Option Bool)) (h_f : ∀ a, Lo (f a) (f_' a)) : Lo (c_api_Slot__52 s f) (api_Slot__52 s f_') := by
  unfold c_api_Slot__52 api_Slot__52
  repeat' (first | with_reducible refine le_api_Slot__52_l1 _ _ _ ?_ _ | exact h_f _ | with_reducible refine lo_bind4 ?_ ?_ ?_ ?_ ?_ | with_reducible refine lo_bind3 ?_ ?_ ?_ ?_ | with_reducible refine lo_bind2 ?_ ?_ ?_ | with_reducible refine lo_bind ?_ ?_ | with_reducible refine lo_cond ?_ ?_ | with_reducible refine lo_iter ?_ _ | (intro _) | with_reducible exact lo_refl _ | exact lo_none | (dsimp only))
def c_api_Slot__106_l1 (del : (TupT fam [.st 5] → Option Bool)) (t : List Slot × Int × Int) : Option ((List Slot × Int × Int) ⊕ ((List Slot × Int))) :=
  bif decide (t.2.2 < (t.1.length : Int)) then
    (
      (inb t.2.2 t.1.length).bind fun i1 =>
      (t.1[i1]?).bind fun x =>
      (del (x, ())).bind fun r =>
      bif ! r then
        (inb t.2.1 t.1.length).bind fun i2 =>
        (t.1[i2]?).bind fun x1 =>
        some (List.set t.1 i2 x, w64 (t.2.1 + 1))
      else
        some (t.1, t.2.1)).bind fun q =>
    some (.inl (q.1, q.2, w64 (t.2.2 + 1)))
  else
    some (.inr (t.1, t.2.1))
theorem le_api_Slot__106_l1 (del del_' : (TupT fam [.st 5] → Option Bool)) (h_del : ∀ a, Lo (del a) (del_' a)) (t : List Slot × Int × Int) : Lo (c_api_Slot__106_l1 del t) (api_Slot__106_l1 del_' t) := by
  unfold c_api_Slot__106_l1 api_Slot__106_l1
  repeat' (first | exact h_del _ | with_reducible refine lo_bind4 ?_ ?_ ?_ ?_ ?_ | with_reducible refine lo_bind3 ?_ ?_ ?_ ?_ | with_reducible refine lo_bind2 ?_ ?_ ?_ | with_reducible refine lo_bind ?_ ?_ | with_reducible refine lo_cond ?_ ?_ | with_reducible refine lo_iter ?_ _ | (intro _) | with_reducible exact lo_refl _ | exact lo_none | (dsimp only))
def c_api_Slot__106 (s : List Slot) (del : (TupT fam [.st 5] → Option Bool)) : Option (List Slot) :=
  (c_api_Slot__52 s del).bind fun i =>
  bif i == (-1) then
    some s
  else
    (itr 4096 (c_api_Slot__106_l1 del) (s, i, w64 (i + 1))).bind fun q1 =>
    (inS q1.2 (q1.1.length : Int) q1.1.length).bind fun p =>
    none
theorem le_api_Slot__106 (s : List Slot) (del del_' : (TupT fam [.st 5] → Option Bool)) (h_del : ∀ a, Lo (del a) (del_' a)) : Lo (c_api_Slot__106 s del) (api_Slot__106 s del_') := by
  unfold c_api_Slot__106 api_Slot__106
  repeat' (first | with_reducible refine le_api_Slot__52 _ _ _ ?_ | with_reducible refine le_api_Slot__106_l1 _ _ ?_ _ | exact h_del _ | with_reducible refine lo_bind4 ?_ ?_ ?_ ?_ ?_ | with_reducible refine lo_bind3 ?_ ?_ ?_ ?_ | with_reducible refine lo_bind2 ?_ ?_ ?_ | with_reducible refine lo_bind ?_ ?_ | with_reducible refine lo_cond ?_ ?_ | with_reducible refine lo_iter ?_ _ | (intro _) | with_reducible exact lo_refl _ | exact lo_none | (dsimp only))
def c_apps_strip_2 (x : Slot) (p : Int) : Option Bool :=
  some (x.App == p)
theorem le_apps_strip_2 (x : Slot) (p : Int) : Lo (c_apps_strip_2 x p) (apps_strip_2 x p) := by
  unfold c_apps_strip_2 apps_strip_2
  repeat' (first | with_reducible refine lo_bind4 ?_ ?_ ?_ ?_ ?_ | with_reducible refine lo_bind3 ?_ ?_ ?_ ?_ | with_reducible refine lo_bind2 ?_ ?_ ?_ | with_reducible refine lo_bind ?_ ?_ | with_reducible refine lo_cond ?_ ?_ | with_reducible refine lo_iter ?_ _ | (intro _) | with_reducible exact lo_refl _ | exact lo_none | (dsimp only))
def c_apps_strip (s : State) (id_ : Int) : Option (State × List Int) :=
  none
theorem le_apps_strip (s : State) (id_ : Int) : Lo (c_apps_strip s id_) (apps_strip s id_) := by
  unfold c_apps_strip apps_strip
  repeat' (first | with_reducible refine lo_bind4 ?_ ?_ ?_ ?_ ?_ | with_reducible refine lo_bind3 ?_ ?_ ?_ ?_ | with_reducible refine lo_bind2 ?_ ?_ ?_ | with_reducible refine lo_bind ?_ ?_ | with_reducible refine lo_cond ?_ ?_ | with_reducible refine lo_iter ?_ _ | (intro _) | with_reducible exact lo_refl _ | exact lo_none | (dsimp only))
def c_apps_master (s : State) (i : Int) : Option State :=
  (inb i s.Apps.length).bind fun i1 =>
  (s.Apps[i1]?).bind fun x =>
  (c_apps_first x).bind fun x1 =>
  (inb i s.Apps.length).bind fun i2 =>
  (s.Apps[i2]?).bind fun x2 =>
  (c_apps_strip (⟨⟨s.Conf.Labels, s.Conf.Queues⟩, s.Nodes, List.set s.Apps i2 (⟨x.Id, 1, x.Queue, x.User, x.Prio, ⟨x.Master.Mem, x.Master.Cores⟩, x1, s.Now, 0, [], [], [], []⟩ : App), s.Conts, s.Slots, s.Plans, s.Now, s.Epoch, s.Seq⟩ : State) x.Id).bind fun x3 =>
  some x3.1
theorem le_apps_master (s : State) (i : Int) : Lo (c_apps_master s i) (apps_master s i) := by
  unfold c_apps_master apps_master
  repeat' (first | with_reducible exact le_apps_first _ | with_reducible exact le_apps_strip _ _ | with_reducible refine lo_bind4 ?_ ?_ ?_ ?_ ?_ | with_reducible refine lo_bind3 ?_ ?_ ?_ ?_ | with_reducible refine lo_bind2 ?_ ?_ ?_ | with_reducible refine lo_bind ?_ ?_ | with_reducible refine lo_cond ?_ ?_ | with_reducible refine lo_iter ?_ _ | (intro _) | with_reducible exact lo_refl _ | exact lo_none | (dsimp only))
def c_api_Cont__47 (s : List Cont) (i : Int) (j : Int) : Option (List Cont) := del s i j
theorem le_api_Cont__47 (s : List Cont) (i : Int) (j : Int) : Lo (c_api_Cont__47 s i j) (api_Cont__47 s i j) := by
  unfold c_api_Cont__47 api_Cont__47
  repeat' (first | with_reducible refine lo_bind4 ?_ ?_ ?_ ?_ ?_ | with_reducible refine lo_bind3 ?_ ?_ ?_ ?_ | with_reducible refine lo_bind2 ?_ ?_ ?_ | with_reducible refine lo_bind ?_ ?_ | with_reducible refine lo_cond ?_ ?_ | with_reducible refine lo_iter ?_ _ | (intro _) | with_reducible exact lo_refl _ | exact lo_none | (dsimp only))
def c_slices_Index___int_int__l1 (s : List Int) (v : Int) (t : Int) : Option (Int ⊕ (Int ⊕ Unit)) :=
  bif decide (t < (s.length : Int)) then
    (idx s t).bind fun x =>
    bif v == x then
      some (.inr (.inl t))
    else
      some (.inl (w64 (t + 1)))
  else
    some (.inr (.inr ()))
theorem le_slices_Index___int_int__l1 (s : List Int) (v : Int) (t : Int) : Lo (c_slices_Index___int_int__l1 s v t) (slices_Index___int_int__l1 s v t) := by
  unfold c_slices_Index___int_int__l1 slices_Index___int_int__l1
  repeat' (first | with_reducible refine lo_bind4 ?_ ?_ ?_ ?_ ?_ | with_reducible refine lo_bind3 ?_ ?_ ?_ ?_ | with_reducible refine lo_bind2 ?_ ?_ ?_ | with_reducible refine lo_bind ?_ ?_ | with_reducible refine lo_cond ?_ ?_ | with_reducible refine lo_iter ?_ _ | (intro _) | with_reducible exact lo_refl _ | exact lo_none | (dsimp only))
def c_slices_Index___int_int_ (s : List Int) (v : Int) : Option Int :=
  (itr 4096 (c_slices_Index___int_int__l1 s v) 0).bind fun q0 =>
  match q0 with
  | .inl q =>
    some q
  | .inr _ =>
    some (-1)
theorem le_slices_Index___int_int_ (s : List Int) (v : Int) : Lo (c_slices_Index___int_int_ s v) (slices_Index___int_int_ s v) := by
  unfold c_slices_Index___int_int_ slices_Index___int_int_
  repeat' (first | with_reducible exact le_slices_Index___int_int__l1 _ _ _ | with_reducible refine lo_bind4 ?_ ?_ ?_ ?_ ?_ | with_reducible refine lo_bind3 ?_ ?_ ?_ ?_ | with_reducible refine lo_bind2 ?_ ?_ ?_ | with_reducible refine lo_bind ?_ ?_ | with_reducible refine lo_cond ?_ ?_ | with_reducible refine lo_iter ?_ _ | (intro _) | with_reducible exact lo_refl _ | exact lo_none | (dsimp only))
def c_slices_Delete___int_int_ (s : List Int) (i : Int) (j : Int) : Option (List Int) :=
  none
theorem le_slices_Delete___int_int_ (s : List Int) (i : Int) (j : Int) : Lo (c_slices_Delete___int_int_ s i j) (slices_Delete___int_int_ s i j) := by
  unfold c_slices_Delete___int_int_ slices_Delete___int_int_
  repeat' (first | with_reducible refine lo_bind4 ?_ ?_ ?_ ?_ ?_ | with_reducible refine lo_bind3 ?_ ?_ ?_ ?_ | with_reducible refine lo_bind2 ?_ ?_ ?_ | with_reducible refine lo_bind ?_ ?_ | with_reducible refine lo_cond ?_ ?_ | with_reducible refine lo_iter ?_ _ | (intro _) | with_reducible exact lo_refl _ | exact lo_none | (dsimp only))
def c_apps_Lose_l1 (ids : List Int) (t : State × Int) : Option ((State × Int) ⊕ State) :=
  bif decide (t.2 < (ids.length : Int)) then
    (
      (idx ids t.2).bind fun x1 =>
      (c_api_Cont__43 t.1.Conts (fun a' => c_apps_Lose_1 a'.1 x1)).bind fun k =>
      bif decide (k < 0) then
        some t.1
      else
        (inb k t.1.Conts.length).bind fun i =>
        (t.1.Conts[i]?).bind fun x2 =>
        (c_apps_at t.1 x2.App).bind fun i1 =>
        (
          bif decide (i1 ≥ 0) then
            some x2.Master
          else
            some false).bind fun q =>
        bif q then
          (c_apps_master t.1 i1).bind fun x3 =>
          some x3
        else
          (c_api_Cont__47 t.1.Conts k (w64 (k + 1))).bind fun x4 =>
          bif decide (i1 < 0) then
            some (⟨⟨t.1.Conf.Labels, t.1.Conf.Queues⟩, t.1.Nodes, t.1.Apps, x4, t.1.Slots, t.1.Plans, t.1.Now, t.1.Epoch, t.1.Seq⟩ : State)
          else
            (inb i1 t.1.Apps.length).bind fun i2 =>
            (t.1.Apps[i2]?).bind fun x5 =>
            (c_slices_Index___int_int_ x5.Grants x1).bind fun j =>
            bif decide (j ≥ 0) then
              (c_slices_Delete___int_int_ x5.Grants j (w64 (j + 1))).bind fun x6 =>
              (inb i1 t.1.Apps.length).bind fun i3 =>
              (t.1.Apps[i3]?).bind fun x7 =>
              some (⟨⟨t.1.Conf.Labels, t.1.Conf.Queues⟩, t.1.Nodes, List.set t.1.Apps i3 (⟨x5.Id, x5.State, x5.Queue, x5.User, x5.Prio, ⟨x5.Master.Mem, x5.Master.Cores⟩, x5.Asks, x5.Seen, x5.Beat, x6, x5.Kills, x5.Told, x5.Lost⟩ : App), x4, t.1.Slots, t.1.Plans, t.1.Now, t.1.Epoch, t.1.Seq⟩ : State)
            else
              none).bind fun s1 =>
    some (.inl (s1, w64 (t.2 + 1)))
  else
    some (.inr t.1)
theorem le_apps_Lose_l1 (ids : List Int) (t : State × Int) : Lo (c_apps_Lose_l1 ids t) (apps_Lose_l1 ids t) := by
  unfold c_apps_Lose_l1 apps_Lose_l1
  repeat' (first | with_reducible refine le_api_Cont__43 _ _ _ ?_ | with_reducible exact le_apps_Lose_1 _ _ | with_reducible exact le_apps_at _ _ | with_reducible exact le_apps_master _ _ | with_reducible exact le_api_Cont__47 _ _ _ | with_reducible exact le_slices_Index___int_int_ _ _ | with_reducible exact le_slices_Delete___int_int_ _ _ _ | with_reducible refine lo_bind4 ?_ ?_ ?_ ?_ ?_ | with_reducible refine lo_bind3 ?_ ?_ ?_ ?_ | with_reducible refine lo_bind2 ?_ ?_ ?_ | with_reducible refine lo_bind ?_ ?_ | with_reducible refine lo_cond ?_ ?_ | with_reducible refine lo_iter ?_ _ | (intro _) | with_reducible exact lo_refl _ | exact lo_none | (dsimp only))
def c_apps_Lose (s : State) (ids : List Int) : Option State :=
  (c_apps_own s).bind fun x =>
  (itr 4096 (c_apps_Lose_l1 ids) (x, 0)).bind fun s2 =>
  (c_apps_own s2).bind fun x8 =>
  some x8
theorem le_apps_Lose (s : State) (ids : List Int) : Lo (c_apps_Lose s ids) (apps_Lose s ids) := by
  unfold c_apps_Lose apps_Lose
  repeat' (first | with_reducible exact le_apps_own _ | with_reducible exact le_apps_Lose_l1 _ _ | with_reducible refine lo_bind4 ?_ ?_ ?_ ?_ ?_ | with_reducible refine lo_bind3 ?_ ?_ ?_ ?_ | with_reducible refine lo_bind2 ?_ ?_ ?_ | with_reducible refine lo_bind ?_ ?_ | with_reducible refine lo_cond ?_ ?_ | with_reducible refine lo_iter ?_ _ | (intro _) | with_reducible exact lo_refl _ | exact lo_none | (dsimp only))
def c_api_Node__83_l1 (s : List Node) (f : (TupT fam [.st 3] → Option Bool)) (t : Int) : Option (Int ⊕ (Int ⊕ Unit)) :=
  bif decide (t < (s.length : Int)) then
    (idx s t).bind fun x =>
    (f (x, ())).bind fun r =>
    bif r then
      some (.inr (.inl t))
    else
      some (.inl (w64 (t + 1)))
  else
    some (.inr (.inr ()))
theorem le_api_Node__83_l1 (s : List Node) (f f_' : (TupT fam [.st 3] → Option Bool)) (h_f : ∀ a, Lo (f a) (f_' a)) (t : Int) : Lo (c_api_Node__83_l1 s f t) (api_Node__83_l1 s f_' t) := by
  unfold c_api_Node__83_l1 api_Node__83_l1
  repeat' (first | exact h_f _ | with_reducible refine lo_bind4 ?_ ?_ ?_ ?_ ?_ | with_reducible refine lo_bind3 ?_ ?_ ?_ ?_ | with_reducible refine lo_bind2 ?_ ?_ ?_ | with_reducible refine lo_bind ?_ ?_ | with_reducible refine lo_cond ?_ ?_ | with_reducible refine lo_iter ?_ _ | (intro _) | with_reducible exact lo_refl _ | exact lo_none | (dsimp only))
def c_api_Node__83 (s : List Node) (f : (TupT fam [.st 3] → Option Bool)) : Option Int :=
  (itr 4096 (c_api_Node__83_l1 s f) 0).bind fun q0 =>
  match q0 with
  | .inl q =>
    some q
  | .inr _ =>
    some (-1)
theorem le_api_Node__83 (s : List Node) (f f_' : (TupT fam [.st 3] → Option Bool)) (h_f : ∀ a, Lo (f a) (f_' a)) : Lo (c_api_Node__83 s f) (api_Node__83 s f_') := by
  unfold c_api_Node__83 api_Node__83
  repeat' (first | with_reducible refine le_api_Node__83_l1 _ _ _ ?_ _ | exact h_f _ | with_reducible refine lo_bind4 ?_ ?_ ?_ ?_ ?_ | with_reducible refine lo_bind3 ?_ ?_ ?_ ?_ | with_reducible refine lo_bind2 ?_ ?_ ?_ | with_reducible refine lo_bind ?_ ?_ | with_reducible refine lo_cond ?_ ?_ | with_reducible refine lo_iter ?_ _ | (intro _) | with_reducible exact lo_refl _ | exact lo_none | (dsimp only))
def c_nodes_ids_is (i : Int) (n : Node) : Option Bool :=
  some (n.Id == i)
theorem le_nodes_ids_is (i : Int) (n : Node) : Lo (c_nodes_ids_is i n) (nodes_ids_is i n) := by
  unfold c_nodes_ids_is nodes_ids_is
  repeat' (first | with_reducible refine lo_bind4 ?_ ?_ ?_ ?_ ?_ | with_reducible refine lo_bind3 ?_ ?_ ?_ ?_ | with_reducible refine lo_bind2 ?_ ?_ ?_ | with_reducible refine lo_bind ?_ ?_ | with_reducible refine lo_cond ?_ ?_ | with_reducible refine lo_iter ?_ _ | (intro _) | with_reducible exact lo_refl _ | exact lo_none | (dsimp only))
def c_nodes_at (s : State) (id_ : Int) : Option Int :=
  (c_api_Node__83 s.Nodes (fun a' => c_nodes_ids_is id_ a'.1)).bind fun x =>
  some x
theorem le_nodes_at (s : State) (id_ : Int) : Lo (c_nodes_at s id_) (nodes_at s id_) := by
  unfold c_nodes_at nodes_at
  repeat' (first | with_reducible refine le_api_Node__83 _ _ _ ?_ | with_reducible exact le_nodes_ids_is _ _ | with_reducible refine lo_bind4 ?_ ?_ ?_ ?_ ?_ | with_reducible refine lo_bind3 ?_ ?_ ?_ ?_ | with_reducible refine lo_bind2 ?_ ?_ ?_ | with_reducible refine lo_bind ?_ ?_ | with_reducible refine lo_cond ?_ ?_ | with_reducible refine lo_iter ?_ _ | (intro _) | with_reducible exact lo_refl _ | exact lo_none | (dsimp only))
def c_nodes_Find (s : State) (id_ : Int) : Option (Node × Bool) :=
  (c_nodes_at s id_).bind fun i =>
  bif decide (i < 0) then
    some ((⟨0, 0, 0, ⟨0, 0⟩, 0, 0, false⟩ : Node), false)
  else
    (idx s.Nodes i).bind fun x =>
    some (x, true)
theorem le_nodes_Find (s : State) (id_ : Int) : Lo (c_nodes_Find s id_) (nodes_Find s id_) := by
  unfold c_nodes_Find nodes_Find
  repeat' (first | with_reducible exact le_nodes_at _ _ | with_reducible refine lo_bind4 ?_ ?_ ?_ ?_ ?_ | with_reducible refine lo_bind3 ?_ ?_ ?_ ?_ | with_reducible refine lo_bind2 ?_ ?_ ?_ | with_reducible refine lo_bind ?_ ?_ | with_reducible refine lo_cond ?_ ?_ | with_reducible refine lo_iter ?_ _ | (intro _) | with_reducible exact lo_refl _ | exact lo_none | (dsimp only))
def c_rvec_vec_good (v : Vec) : Option Bool :=
  bif decide (v.Mem ≥ 0) then
    bif decide (v.Mem ≤ 1125899906842624) then
      bif decide (v.Cores ≥ 0) then
        some (decide (v.Cores ≤ 1125899906842624))
      else
        some false
    else
      some false
  else
    some false
theorem le_rvec_vec_good (v : Vec) : Lo (c_rvec_vec_good v) (rvec_vec_good v) := by
  unfold c_rvec_vec_good rvec_vec_good
  repeat' (first | with_reducible refine lo_bind4 ?_ ?_ ?_ ?_ ?_ | with_reducible refine lo_bind3 ?_ ?_ ?_ ?_ | with_reducible refine lo_bind2 ?_ ?_ ?_ | with_reducible refine lo_bind ?_ ?_ | with_reducible refine lo_cond ?_ ?_ | with_reducible refine lo_iter ?_ _ | (intro _) | with_reducible exact lo_refl _ | exact lo_none | (dsimp only))
def c_rvec_over (v : Vec) : Option (Vec × Int) :=
  (c_rvec_vec_good v).bind fun x =>
  bif ! x then
    some ((⟨0, 0⟩ : Vec), 11)
  else
    some (v, 0)
theorem le_rvec_over (v : Vec) : Lo (c_rvec_over v) (rvec_over v) := by
  unfold c_rvec_over rvec_over
  repeat' (first | with_reducible exact le_rvec_vec_good _ | with_reducible refine lo_bind4 ?_ ?_ ?_ ?_ ?_ | with_reducible refine lo_bind3 ?_ ?_ ?_ ?_ | with_reducible refine lo_bind2 ?_ ?_ ?_ | with_reducible refine lo_bind ?_ ?_ | with_reducible refine lo_cond ?_ ?_ | with_reducible refine lo_iter ?_ _ | (intro _) | with_reducible exact lo_refl _ | exact lo_none | (dsimp only))
def c_rvec_Add (a : Vec) (b : Vec) : Option (Vec × Int) :=
  (
    (c_rvec_vec_good a).bind fun x =>
    bif ! x then
      some true
    else
      (c_rvec_vec_good b).bind fun x1 =>
      some (! x1)).bind fun q =>
  bif q then
    some ((⟨0, 0⟩ : Vec), 1)
  else
    (c_rvec_over (⟨w64 (a.Mem + b.Mem), w64 (a.Cores + b.Cores)⟩ : Vec)).bind fun x2 =>
    some (x2.1, x2.2)
theorem le_rvec_Add (a : Vec) (b : Vec) : Lo (c_rvec_Add a b) (rvec_Add a b) := by
  unfold c_rvec_Add rvec_Add
  repeat' (first | with_reducible exact le_rvec_vec_good _ | with_reducible exact le_rvec_over _ | with_reducible refine lo_bind4 ?_ ?_ ?_ ?_ ?_ | with_reducible refine lo_bind3 ?_ ?_ ?_ ?_ | with_reducible refine lo_bind2 ?_ ?_ ?_ | with_reducible refine lo_bind ?_ ?_ | with_reducible refine lo_cond ?_ ?_ | with_reducible refine lo_iter ?_ _ | (intro _) | with_reducible exact lo_refl _ | exact lo_none | (dsimp only))
def c_nodes_Used_l1 (s : State) (id_ : Int) (t : Vec × Int) : Option ((Vec × Int) ⊕ Vec) :=
  bif decide (t.2 < (s.Conts.length : Int)) then
    (
      (idx s.Conts t.2).bind fun x =>
      bif x.Node == id_ then
        (c_rvec_Add t.1 x.Size).bind fun x1 =>
        some x1.1
      else
        some t.1).bind fun out =>
    some (.inl (out, w64 (t.2 + 1)))
  else
    some (.inr t.1)
theorem le_nodes_Used_l1 (s : State) (id_ : Int) (t : Vec × Int) : Lo (c_nodes_Used_l1 s id_ t) (nodes_Used_l1 s id_ t) := by
  unfold c_nodes_Used_l1 nodes_Used_l1
  repeat' (first | with_reducible exact le_rvec_Add _ _ | with_reducible refine lo_bind4 ?_ ?_ ?_ ?_ ?_ | with_reducible refine lo_bind3 ?_ ?_ ?_ ?_ | with_reducible refine lo_bind2 ?_ ?_ ?_ | with_reducible refine lo_bind ?_ ?_ | with_reducible refine lo_cond ?_ ?_ | with_reducible refine lo_iter ?_ _ | (intro _) | with_reducible exact lo_refl _ | exact lo_none | (dsimp only))
def c_nodes_Used (s : State) (id_ : Int) : Option Vec :=
  (itr 4096 (c_nodes_Used_l1 s id_) ((⟨0, 0⟩ : Vec), 0)).bind fun out1 =>
  some out1
theorem le_nodes_Used (s : State) (id_ : Int) : Lo (c_nodes_Used s id_) (nodes_Used s id_) := by
  unfold c_nodes_Used nodes_Used
  repeat' (first | with_reducible exact le_nodes_Used_l1 _ _ _ | with_reducible refine lo_bind4 ?_ ?_ ?_ ?_ ?_ | with_reducible refine lo_bind3 ?_ ?_ ?_ ?_ | with_reducible refine lo_bind2 ?_ ?_ ?_ | with_reducible refine lo_bind ?_ ?_ | with_reducible refine lo_cond ?_ ?_ | with_reducible refine lo_iter ?_ _ | (intro _) | with_reducible exact lo_refl _ | exact lo_none | (dsimp only))
def c_nodes_Free (s : State) (id_ : Int) : Option Vec :=
  (c_nodes_Find s id_).bind fun x =>
  (
    bif ! x.2 then
      some true
    else
      some (! x.1.Up)).bind fun q =>
  bif q then
    some (⟨0, 0⟩ : Vec)
  else
    (c_nodes_Used s id_).bind fun x1 =>
    some (⟨imax (w64 (x.1.Cap.Mem - x1.Mem)) 0, imax (w64 (x.1.Cap.Cores - x1.Cores)) 0⟩ : Vec)
theorem le_nodes_Free (s : State) (id_ : Int) : Lo (c_nodes_Free s id_) (nodes_Free s id_) := by
  unfold c_nodes_Free nodes_Free
  repeat' (first | with_reducible exact le_nodes_Find _ _ | with_reducible exact le_nodes_Used _ _ | with_reducible refine lo_bind4 ?_ ?_ ?_ ?_ ?_ | with_reducible refine lo_bind3 ?_ ?_ ?_ ?_ | with_reducible refine lo_bind2 ?_ ?_ ?_ | with_reducible refine lo_bind ?_ ?_ | with_reducible refine lo_cond ?_ ?_ | with_reducible refine lo_iter ?_ _ | (intro _) | with_reducible exact lo_refl _ | exact lo_none | (dsimp only))
def c_assign_attempt_kept_1 (_a0 : Slot) (_a1 : Bool) : Option Bool := none
theorem le_assign_attempt_kept_1 (_a0 : Slot) (_a1 : Bool) : Lo (c_assign_attempt_kept_1 _a0 _a1) (assign_attempt_kept_1 _a0 _a1) := by
  unfold c_assign_attempt_kept_1 assign_attempt_kept_1
  repeat' (first | with_reducible refine lo_bind4 ?_ ?_ ?_ ?_ ?_ | with_reducible refine lo_bind3 ?_ ?_ ?_ ?_ | with_reducible refine lo_bind2 ?_ ?_ ?_ | with_reducible refine lo_bind ?_ ?_ | with_reducible refine lo_cond ?_ ?_ | with_reducible refine lo_iter ?_ _ | (intro _) | with_reducible exact lo_refl _ | exact lo_none | (dsimp only))
def c_apps_Find (s : State) (id_ : Int) : Option (App × Bool) :=
  (c_apps_at s id_).bind fun i =>
  bif decide (i < 0) then
    some ((⟨0, 0, [], 0, 0, ⟨0, 0⟩, [], 0, 0, [], [], [], []⟩ : App), false)
  else
    (idx s.Apps i).bind fun x =>
    (c_apps_app x).bind fun x1 =>
    some (x1, true)
theorem le_apps_Find (s : State) (id_ : Int) : Lo (c_apps_Find s id_) (apps_Find s id_) := by
  unfold c_apps_Find apps_Find
  repeat' (first | with_reducible exact le_apps_at _ _ | with_reducible exact le_apps_app _ | with_reducible refine lo_bind4 ?_ ?_ ?_ ?_ ?_ | with_reducible refine lo_bind3 ?_ ?_ ?_ ?_ | with_reducible refine lo_bind2 ?_ ?_ ?_ | with_reducible refine lo_bind ?_ ?_ | with_reducible refine lo_cond ?_ ?_ | with_reducible refine lo_iter ?_ _ | (intro _) | with_reducible exact lo_refl _ | exact lo_none | (dsimp only))
def c_assign_find_l1 (a : App) (prio : Int) (t : Ask × Int) : Option ((Ask × Int) ⊕ ((Ask × Bool) ⊕ Ask)) :=
  bif decide (t.2 < (a.Asks.length : Int)) then
    (idx a.Asks t.2).bind fun x =>
    bif x.Prio == prio then
      some (.inr (.inl (x, true)))
    else
      some (.inl (t.1, w64 (t.2 + 1)))
  else
    some (.inr (.inr (t.1)))
theorem le_assign_find_l1 (a : App) (prio : Int) (t : Ask × Int) : Lo (c_assign_find_l1 a prio t) (assign_find_l1 a prio t) := by
  unfold c_assign_find_l1 assign_find_l1
  repeat' (first | with_reducible refine lo_bind4 ?_ ?_ ?_ ?_ ?_ | with_reducible refine lo_bind3 ?_ ?_ ?_ ?_ | with_reducible refine lo_bind2 ?_ ?_ ?_ | with_reducible refine lo_bind ?_ ?_ | with_reducible refine lo_cond ?_ ?_ | with_reducible refine lo_iter ?_ _ | (intro _) | with_reducible exact lo_refl _ | exact lo_none | (dsimp only))
def c_assign_find (a : App) (prio : Int) : Option (Ask × Bool) :=
  (itr 4096 (c_assign_find_l1 a prio) ((⟨0, 0, ⟨0, 0⟩, 0, 0, 0, 0⟩ : Ask), 0)).bind fun q0 =>
  match q0 with
  | .inl q =>
    some (q.1, q.2)
  | .inr q1 =>
    some ((⟨0, 0, ⟨0, 0⟩, 0, 0, 0, 0⟩ : Ask), false)
theorem le_assign_find (a : App) (prio : Int) : Lo (c_assign_find a prio) (assign_find a prio) := by
  unfold c_assign_find assign_find
  repeat' (first | with_reducible exact le_assign_find_l1 _ _ _ | with_reducible refine lo_bind4 ?_ ?_ ?_ ?_ ?_ | with_reducible refine lo_bind3 ?_ ?_ ?_ ?_ | with_reducible refine lo_bind2 ?_ ?_ ?_ | with_reducible refine lo_bind ?_ ?_ | with_reducible refine lo_cond ?_ ?_ | with_reducible refine lo_iter ?_ _ | (intro _) | with_reducible exact lo_refl _ | exact lo_none | (dsimp only))
def c_apps_Live (a : App) : Option Bool :=
  bif a.State == 1 then
    some true
  else
    some (a.State == 2)
theorem le_apps_Live (a : App) : Lo (c_apps_Live a) (apps_Live a) := by
  unfold c_apps_Live apps_Live
  repeat' (first | with_reducible refine lo_bind4 ?_ ?_ ?_ ?_ ?_ | with_reducible refine lo_bind3 ?_ ?_ ?_ ?_ | with_reducible refine lo_bind2 ?_ ?_ ?_ | with_reducible refine lo_bind ?_ ?_ | with_reducible refine lo_cond ?_ ?_ | with_reducible refine lo_iter ?_ _ | (intro _) | with_reducible exact lo_refl _ | exact lo_none | (dsimp only))
def c_local_Level (a : Ask) (n : Node) : Option Int :=
  (
    (
      bif ! n.Up then
        some true
      else
        some (n.Label != a.Label)).bind fun q =>
    bif q then
      some (.inr (.inl 4))
    else
      bif a.Rack == (-1) then
        some (.inl ())
      else
        (
          bif a.Node == n.Id then
            some (a.Node == n.Id)
          else
            bif a.Node == (-1) then
              some (a.Rack == n.Rack)
            else
              some false).bind fun q1 =>
        bif q1 then
          some (.inl ())
        else
          bif a.Rack == n.Rack then
            some (.inr (.inr (.inr ())))
          else
            some (.inr (.inr (.inl ()))) : Option (Unit ⊕ Int ⊕ Unit ⊕ Unit)).bind fun q0 =>
  match q0 with
  | .inl _ =>
    some 1
  | .inr (.inl q2) =>
    some q2
  | .inr (.inr (.inl _)) =>
    some 3
  | .inr (.inr (.inr _)) =>
    some 2
theorem le_local_Level (a : Ask) (n : Node) : Lo (c_local_Level a n) (local_Level a n) := by
  unfold c_local_Level local_Level
  repeat' (first | with_reducible refine lo_bind4 ?_ ?_ ?_ ?_ ?_ | with_reducible refine lo_bind3 ?_ ?_ ?_ ?_ | with_reducible refine lo_bind2 ?_ ?_ ?_ | with_reducible refine lo_bind ?_ ?_ | with_reducible refine lo_cond ?_ ?_ | with_reducible refine lo_iter ?_ _ | (intro _) | with_reducible exact lo_refl _ | exact lo_none | (dsimp only))
def c_local_May (a : Ask) (n : Node) : Option Bool :=
  (c_local_Level a n).bind fun x =>
  bif x == 1 then
    some true
  else
    bif x == 2 then
      some (decide (a.Missed ≥ 2))
    else
      bif x == 3 then
        some (decide (a.Missed ≥ 4))
      else
        some false
theorem le_local_May (a : Ask) (n : Node) : Lo (c_local_May a n) (local_May a n) := by
  unfold c_local_May local_May
  repeat' (first | with_reducible exact le_local_Level _ _ | with_reducible refine lo_bind4 ?_ ?_ ?_ ?_ ?_ | with_reducible refine lo_bind3 ?_ ?_ ?_ ?_ | with_reducible refine lo_bind2 ?_ ?_ ?_ | with_reducible refine lo_bind ?_ ?_ | with_reducible refine lo_cond ?_ ?_ | with_reducible refine lo_iter ?_ _ | (intro _) | with_reducible exact lo_refl _ | exact lo_none | (dsimp only))
def c_rvec_Fits (a : Vec) (b : Vec) : Option Bool :=
  bif decide (a.Mem ≤ b.Mem) then
    some (decide (a.Cores ≤ b.Cores))
  else
    some false
theorem le_rvec_Fits (a : Vec) (b : Vec) : Lo (c_rvec_Fits a b) (rvec_Fits a b) := by
  unfold c_rvec_Fits rvec_Fits
  repeat' (first | with_reducible refine lo_bind4 ?_ ?_ ?_ ?_ ?_ | with_reducible refine lo_bind3 ?_ ?_ ?_ ?_ | with_reducible refine lo_bind2 ?_ ?_ ?_ | with_reducible refine lo_bind ?_ ?_ | with_reducible refine lo_cond ?_ ?_ | with_reducible refine lo_iter ?_ _ | (intro _) | with_reducible exact lo_refl _ | exact lo_none | (dsimp only))
def c_assign_attempt_could (t : Attempt) (x : Ask) : Option Bool :=
  (c_local_Level x t.n).bind fun x1 =>
  bif x1 != 4 then
    (c_rvec_Fits x.Size t.n.Cap).bind fun x2 =>
    some x2
  else
    some false
theorem le_assign_attempt_could (t : Attempt) (x : Ask) : Lo (c_assign_attempt_could t x) (assign_attempt_could t x) := by
  unfold c_assign_attempt_could assign_attempt_could
  repeat' (first | with_reducible exact le_local_Level _ _ | with_reducible exact le_rvec_Fits _ _ | with_reducible refine lo_bind4 ?_ ?_ ?_ ?_ ?_ | with_reducible refine lo_bind3 ?_ ?_ ?_ ?_ | with_reducible refine lo_bind2 ?_ ?_ ?_ | with_reducible refine lo_bind ?_ ?_ | with_reducible refine lo_cond ?_ ?_ | with_reducible refine lo_iter ?_ _ | (intro _) | with_reducible exact lo_refl _ | exact lo_none | (dsimp only))
def c_qtree_view_owner_l1 (v : View) (c : Cont) (t : App × Int) : Option ((App × Int) ⊕ ((App × Bool) ⊕ App)) :=
  bif decide (t.2 < (v.s.Apps.length : Int)) then
    (idx v.s.Apps t.2).bind fun x =>
    bif x.Id == c.App then
      some (.inr (.inl (x, true)))
    else
      some (.inl (t.1, w64 (t.2 + 1)))
  else
    some (.inr (.inr (t.1)))
theorem le_qtree_view_owner_l1 (v : View) (c : Cont) (t : App × Int) : Lo (c_qtree_view_owner_l1 v c t) (qtree_view_owner_l1 v c t) := by
  unfold c_qtree_view_owner_l1 qtree_view_owner_l1
  repeat' (first | with_reducible refine lo_bind4 ?_ ?_ ?_ ?_ ?_ | with_reducible refine lo_bind3 ?_ ?_ ?_ ?_ | with_reducible refine lo_bind2 ?_ ?_ ?_ | with_reducible refine lo_bind ?_ ?_ | with_reducible refine lo_cond ?_ ?_ | with_reducible refine lo_iter ?_ _ | (intro _) | with_reducible exact lo_refl _ | exact lo_none | (dsimp only))
def c_qtree_view_owner (v : View) (c : Cont) : Option (App × Bool) :=
  (itr 4096 (c_qtree_view_owner_l1 v c) ((⟨0, 0, [], 0, 0, ⟨0, 0⟩, [], 0, 0, [], [], [], []⟩ : App), 0)).bind fun q0 =>
  match q0 with
  | .inl q =>
    some (q.1, q.2)
  | .inr q1 =>
    some ((⟨0, 0, [], 0, 0, ⟨0, 0⟩, [], 0, 0, [], [], [], []⟩ : App), false)
theorem le_qtree_view_owner (v : View) (c : Cont) : Lo (c_qtree_view_owner v c) (qtree_view_owner v c) := by
  unfold c_qtree_view_owner qtree_view_owner
  repeat' (first | with_reducible exact le_qtree_view_owner_l1 _ _ _ | with_reducible refine lo_bind4 ?_ ?_ ?_ ?_ ?_ | with_reducible refine lo_bind3 ?_ ?_ ?_ ?_ | with_reducible refine lo_bind2 ?_ ?_ ?_ | with_reducible refine lo_bind ?_ ?_ | with_reducible refine lo_cond ?_ ?_ | with_reducible refine lo_iter ?_ _ | (intro _) | with_reducible exact lo_refl _ | exact lo_none | (dsimp only))
def c_stringslite_HasPrefix (s : List UInt8) (prefix_ : List UInt8) : Option Bool :=
  bif decide ((s.length : Int) ≥ (prefix_.length : Int)) then
    (slc s 0 (prefix_.length : Int)).bind fun s1 =>
    some (s1 == prefix_)
  else
    some false
theorem le_stringslite_HasPrefix (s : List UInt8) (prefix_ : List UInt8) : Lo (c_stringslite_HasPrefix s prefix_) (stringslite_HasPrefix s prefix_) := by
  unfold c_stringslite_HasPrefix stringslite_HasPrefix
  repeat' (first | with_reducible refine lo_bind4 ?_ ?_ ?_ ?_ ?_ | with_reducible refine lo_bind3 ?_ ?_ ?_ ?_ | with_reducible refine lo_bind2 ?_ ?_ ?_ | with_reducible refine lo_bind ?_ ?_ | with_reducible refine lo_cond ?_ ?_ | with_reducible refine lo_iter ?_ _ | (intro _) | with_reducible exact lo_refl _ | exact lo_none | (dsimp only))
def c_strings_HasPrefix (s : List UInt8) (prefix_ : List UInt8) : Option Bool :=
  (c_stringslite_HasPrefix s prefix_).bind fun x =>
  some x
theorem le_strings_HasPrefix (s : List UInt8) (prefix_ : List UInt8) : Lo (c_strings_HasPrefix s prefix_) (strings_HasPrefix s prefix_) := by
  unfold c_strings_HasPrefix strings_HasPrefix
  repeat' (first | with_reducible exact le_stringslite_HasPrefix _ _ | with_reducible refine lo_bind4 ?_ ?_ ?_ ?_ ?_ | with_reducible refine lo_bind3 ?_ ?_ ?_ ?_ | with_reducible refine lo_bind2 ?_ ?_ ?_ | with_reducible refine lo_bind ?_ ?_ | with_reducible refine lo_cond ?_ ?_ | with_reducible refine lo_iter ?_ _ | (intro _) | with_reducible exact lo_refl _ | exact lo_none | (dsimp only))
def c_qtree_view_has (v : View) (a : App) : Option Bool :=
  (
    bif a.Queue == v.path then
      some true
    else
      (cat v.path ([46] : List UInt8)).bind fun s =>
      (c_strings_HasPrefix a.Queue s).bind fun x =>
      some x).bind fun below =>
  bif below then
    bif v.user == (-1) then
      some true
    else
      some (a.User == v.user)
  else
    some false
theorem le_qtree_view_has (v : View) (a : App) : Lo (c_qtree_view_has v a) (qtree_view_has v a) := by
  unfold c_qtree_view_has qtree_view_has
  repeat' (first | with_reducible exact le_strings_HasPrefix _ _ | with_reducible refine lo_bind4 ?_ ?_ ?_ ?_ ?_ | with_reducible refine lo_bind3 ?_ ?_ ?_ ?_ | with_reducible refine lo_bind2 ?_ ?_ ?_ | with_reducible refine lo_bind ?_ ?_ | with_reducible refine lo_cond ?_ ?_ | with_reducible refine lo_iter ?_ _ | (intro _) | with_reducible exact lo_refl _ | exact lo_none | (dsimp only))
def c_qtree_view_used_l1 (v : View) (t : Vec × Int) : Option ((Vec × Int) ⊕ Vec) :=
  bif decide (t.2 < (v.s.Conts.length : Int)) then
    (
      (idx v.s.Conts t.2).bind fun x =>
      (c_qtree_view_owner v x).bind fun x1 =>
      (
        bif x1.2 then
          bif x.Label == v.label then
            (c_qtree_view_has v x1.1).bind fun x2 =>
            some x2
          else
            some false
        else
          some false).bind fun q =>
      bif q then
        (c_rvec_Add t.1 x.Size).bind fun x3 =>
        some x3.1
      else
        some t.1).bind fun out =>
    some (.inl (out, w64 (t.2 + 1)))
  else
    some (.inr t.1)
theorem le_qtree_view_used_l1 (v : View) (t : Vec × Int) : Lo (c_qtree_view_used_l1 v t) (qtree_view_used_l1 v t) := by
  unfold c_qtree_view_used_l1 qtree_view_used_l1
  repeat' (first | with_reducible exact le_qtree_view_owner _ _ | with_reducible exact le_qtree_view_has _ _ | with_reducible exact le_rvec_Add _ _ | with_reducible refine lo_bind4 ?_ ?_ ?_ ?_ ?_ | with_reducible refine lo_bind3 ?_ ?_ ?_ ?_ | with_reducible refine lo_bind2 ?_ ?_ ?_ | with_reducible refine lo_bind ?_ ?_ | with_reducible refine lo_cond ?_ ?_ | with_reducible refine lo_iter ?_ _ | (intro _) | with_reducible exact lo_refl _ | exact lo_none | (dsimp only))
def c_qtree_view_used (v : View) : Option Vec :=
  (itr 4096 (c_qtree_view_used_l1 v) ((⟨0, 0⟩ : Vec), 0)).bind fun out1 =>
  some out1
theorem le_qtree_view_used (v : View) : Lo (c_qtree_view_used v) (qtree_view_used v) := by
  unfold c_qtree_view_used qtree_view_used
  repeat' (first | with_reducible exact le_qtree_view_used_l1 _ _ | with_reducible refine lo_bind4 ?_ ?_ ?_ ?_ ?_ | with_reducible refine lo_bind3 ?_ ?_ ?_ ?_ | with_reducible refine lo_bind2 ?_ ?_ ?_ | with_reducible refine lo_bind ?_ ?_ | with_reducible refine lo_cond ?_ ?_ | with_reducible refine lo_iter ?_ _ | (intro _) | with_reducible exact lo_refl _ | exact lo_none | (dsimp only))
def c_qtree_Used (s : State) (path : List UInt8) (label : Int) : Option Vec :=
  (c_qtree_view_used (⟨⟨⟨s.Conf.Labels, s.Conf.Queues⟩, s.Nodes, s.Apps, s.Conts, s.Slots, s.Plans, s.Now, s.Epoch, s.Seq⟩, path, label, (-1)⟩ : View)).bind fun x =>
  some x
theorem le_qtree_Used (s : State) (path : List UInt8) (label : Int) : Lo (c_qtree_Used s path label) (qtree_Used s path label) := by
  unfold c_qtree_Used qtree_Used
  repeat' (first | with_reducible exact le_qtree_view_used _ | with_reducible refine lo_bind4 ?_ ?_ ?_ ?_ ?_ | with_reducible refine lo_bind3 ?_ ?_ ?_ ?_ | with_reducible refine lo_bind2 ?_ ?_ ?_ | with_reducible refine lo_bind ?_ ?_ | with_reducible refine lo_cond ?_ ?_ | with_reducible refine lo_iter ?_ _ | (intro _) | with_reducible exact lo_refl _ | exact lo_none | (dsimp only))
def c_api_Queue__139_l1 (s : List Queue) (f : (TupT fam [.st 1] → Option Bool)) (t : Int) : Option (Int ⊕ (Int ⊕ Unit)) :=
  bif decide (t < (s.length : Int)) then
    (idx s t).bind fun x =>
    (f (x, ())).bind fun r =>
    bif r then
      some (.inr (.inl t))
    else
      some (.inl (w64 (t + 1)))
  else
    some (.inr (.inr ()))
theorem le_api_Queue__139_l1 (s : List Queue) (f f_' : (TupT fam [.st 1] → Option Bool)) (h_f : ∀ a, Lo (f a) (f_' a)) (t : Int) : Lo (c_api_Queue__139_l1 s f t) (api_Queue__139_l1 s f_' t) := by
  unfold c_api_Queue__139_l1 api_Queue__139_l1
  repeat' (first | exact h_f _ | with_reducible refine lo_bind4 ?_ ?_ ?_ ?_ ?_ | with_reducible refine lo_bind3 ?_ ?_ ?_ ?_ | with_reducible refine lo_bind2 ?_ ?_ ?_ | with_reducible refine lo_bind ?_ ?_ | with_reducible refine lo_cond ?_ ?_ | with_reducible refine lo_iter ?_ _ | (intro _) | with_reducible exact lo_refl _ | exact lo_none | (dsimp only))
def c_api_Queue__139 (s : List Queue) (f : (TupT fam [.st 1] → Option Bool)) : Option Int :=
  (itr 4096 (c_api_Queue__139_l1 s f) 0).bind fun q0 =>
  match q0 with
  | .inl q =>
    some q
  | .inr _ =>
    some (-1)
theorem le_api_Queue__139 (s : List Queue) (f f_' : (TupT fam [.st 1] → Option Bool)) (h_f : ∀ a, Lo (f a) (f_' a)) : Lo (c_api_Queue__139 s f) (api_Queue__139 s f_') := by
  unfold c_api_Queue__139 api_Queue__139
  repeat' (first | with_reducible refine le_api_Queue__139_l1 _ _ _ ?_ _ | exact h_f _ | with_reducible refine lo_bind4 ?_ ?_ ?_ ?_ ?_ | with_reducible refine lo_bind3 ?_ ?_ ?_ ?_ | with_reducible refine lo_bind2 ?_ ?_ ?_ | with_reducible refine lo_bind ?_ ?_ | with_reducible refine lo_cond ?_ ?_ | with_reducible refine lo_iter ?_ _ | (intro _) | with_reducible exact lo_refl _ | exact lo_none | (dsimp only))
def c_rule_Find_1 (q : Queue) (p : List UInt8) : Option Bool :=
  some (q.Path == p)
theorem le_rule_Find_1 (q : Queue) (p : List UInt8) : Lo (c_rule_Find_1 q p) (rule_Find_1 q p) := by
  unfold c_rule_Find_1 rule_Find_1
  repeat' (first | with_reducible refine lo_bind4 ?_ ?_ ?_ ?_ ?_ | with_reducible refine lo_bind3 ?_ ?_ ?_ ?_ | with_reducible refine lo_bind2 ?_ ?_ ?_ | with_reducible refine lo_bind ?_ ?_ | with_reducible refine lo_cond ?_ ?_ | with_reducible refine lo_iter ?_ _ | (intro _) | with_reducible exact lo_refl _ | exact lo_none | (dsimp only))
def c_rule_Find (c : Conf) (path : List UInt8) : Option (Queue × Bool) :=
  (c_api_Queue__139 c.Queues (fun a' => c_rule_Find_1 a'.1 path)).bind fun i =>
  bif decide (i < 0) then
    some ((⟨[], [], 0⟩ : Queue), false)
  else
    (idx c.Queues i).bind fun x =>
    (c_api_Cap_ x.Caps).bind fun x1 =>
    some ((⟨x.Path, x1, x.User⟩ : Queue), true)
theorem le_rule_Find (c : Conf) (path : List UInt8) : Lo (c_rule_Find c path) (rule_Find c path) := by
  unfold c_rule_Find rule_Find
  repeat' (first | with_reducible refine le_api_Queue__139 _ _ _ ?_ | with_reducible exact le_rule_Find_1 _ _ | with_reducible exact le_api_Cap_ _ | with_reducible refine lo_bind4 ?_ ?_ ?_ ?_ ?_ | with_reducible refine lo_bind3 ?_ ?_ ?_ ?_ | with_reducible refine lo_bind2 ?_ ?_ ?_ | with_reducible refine lo_bind ?_ ?_ | with_reducible refine lo_cond ?_ ?_ | with_reducible refine lo_iter ?_ _ | (intro _) | with_reducible exact lo_refl _ | exact lo_none | (dsimp only))
def c_bits_Mul64 (x : Int) (y : Int) : Option (Int × Int) :=
  let w0 := IntKind.u64.wrap ((andK .u64 x 4294967295) * (andK .u64 y 4294967295))
  let t := IntKind.u64.wrap ((IntKind.u64.wrap ((shrK .u64 x 32) * (andK .u64 y 4294967295))) + (shrK .u64 w0 32))
  let w1 := IntKind.u64.wrap ((andK .u64 t 4294967295) + (IntKind.u64.wrap ((andK .u64 x 4294967295) * (shrK .u64 y 32))))
  let hi := IntKind.u64.wrap ((IntKind.u64.wrap ((IntKind.u64.wrap ((shrK .u64 x 32) * (shrK .u64 y 32))) + (shrK .u64 t 32))) + (shrK .u64 w1 32))
  some (hi, IntKind.u64.wrap (x * y))
theorem le_bits_Mul64 (x : Int) (y : Int) : Lo (c_bits_Mul64 x y) (bits_Mul64 x y) := by
  unfold c_bits_Mul64 bits_Mul64
  repeat' (first | with_reducible refine lo_bind4 ?_ ?_ ?_ ?_ ?_ | with_reducible refine lo_bind3 ?_ ?_ ?_ ?_ | with_reducible refine lo_bind2 ?_ ?_ ?_ | with_reducible refine lo_bind ?_ ?_ | with_reducible refine lo_cond ?_ ?_ | with_reducible refine lo_iter ?_ _ | (intro _) | with_reducible exact lo_refl _ | exact lo_none | (dsimp only))
def c_bits_Len64 (x : Int) : Option Int :=
  (
    bif decide (x ≥ 4294967296) then
      some (shrK .u64 x 32, 32)
    else
      some (x, 0)).bind fun q =>
  (
    bif decide (q.1 ≥ 65536) then
      some (shrK .u64 q.1 16, w64 (q.2 + 16))
    else
      some (q.1, q.2)).bind fun q1 =>
  (
    bif decide (q1.1 ≥ 256) then
      some (shrK .u64 q1.1 8, w64 (q1.2 + 8))
    else
      some (q1.1, q1.2)).bind fun q2 =>
  (idx ([0, 1, 2, 2, 3, 3, 3, 3, 4, 4, 4, 4, 4, 4, 4, 4, 5, 5, 5, 5, 5, 5, 5, 5, 5, 5, 5, 5, 5, 5, 5, 5, 6, 6, 6, 6, 6, 6, 6, 6, 6, 6, 6, 6, 6, 6, 6, 6, 6, 6, 6, 6, 6, 6, 6, 6, 6, 6, 6, 6, 6, 6, 6, 6, 7, 7, 7, 7, 7, 7, 7, 7, 7, 7, 7, 7, 7, 7, 7, 7, 7, 7, 7, 7, 7, 7, 7, 7, 7, 7, 7, 7, 7, 7, 7, 7, 7, 7, 7, 7, 7, 7, 7, 7, 7, 7, 7, 7, 7, 7, 7, 7, 7, 7, 7, 7, 7, 7, 7, 7, 7, 7, 7, 7, 7, 7, 7, 7, 8, 8, 8, 8, 8, 8, 8, 8, 8, 8, 8, 8, 8, 8, 8, 8, 8, 8, 8, 8, 8, 8, 8, 8, 8, 8, 8, 8, 8, 8, 8, 8, 8, 8, 8, 8, 8, 8, 8, 8, 8, 8, 8, 8, 8, 8, 8, 8, 8, 8, 8, 8, 8, 8, 8, 8, 8, 8, 8, 8, 8, 8, 8, 8, 8, 8, 8, 8, 8, 8, 8, 8, 8, 8, 8, 8, 8, 8, 8, 8, 8, 8, 8, 8, 8, 8, 8, 8, 8, 8, 8, 8, 8, 8, 8, 8, 8, 8, 8, 8, 8, 8, 8, 8, 8, 8, 8, 8, 8, 8, 8, 8, 8, 8, 8, 8, 8, 8, 8, 8, 8, 8, 8, 8, 8, 8, 8, 8] : List UInt8) (IntKind.u8.wrap q2.1)).bind fun ch =>
  let n := w64 (q2.2 + (w64 (ch.toNat : Int)))
  some n
theorem le_bits_Len64 (x : Int) : Lo (c_bits_Len64 x) (bits_Len64 x) := by
  unfold c_bits_Len64 bits_Len64
  repeat' (first | with_reducible refine lo_bind4 ?_ ?_ ?_ ?_ ?_ | with_reducible refine lo_bind3 ?_ ?_ ?_ ?_ | with_reducible refine lo_bind2 ?_ ?_ ?_ | with_reducible refine lo_bind ?_ ?_ | with_reducible refine lo_cond ?_ ?_ | with_reducible refine lo_iter ?_ _ | (intro _) | with_reducible exact lo_refl _ | exact lo_none | (dsimp only))
def c_bits_LeadingZeros64 (x : Int) : Option Int :=
  (c_bits_Len64 x).bind fun x1 =>
  some (w64 (64 - x1))
theorem le_bits_LeadingZeros64 (x : Int) : Lo (c_bits_LeadingZeros64 x) (bits_LeadingZeros64 x) := by
  unfold c_bits_LeadingZeros64 bits_LeadingZeros64
  repeat' (first | with_reducible exact le_bits_Len64 _ | with_reducible refine lo_bind4 ?_ ?_ ?_ ?_ ?_ | with_reducible refine lo_bind3 ?_ ?_ ?_ ?_ | with_reducible refine lo_bind2 ?_ ?_ ?_ | with_reducible refine lo_bind ?_ ?_ | with_reducible refine lo_cond ?_ ?_ | with_reducible refine lo_iter ?_ _ | (intro _) | with_reducible exact lo_refl _ | exact lo_none | (dsimp only))
def c_bits_Div64_l2 (yn1 : Int) (yn0 : Int) (un0 : Int) (t1 : Int × Int) : Option ((Int × Int) ⊕ Int) :=
  (
    bif decide (t1.2 ≥ 4294967296) then
      some true
    else
      some (decide ((IntKind.u64.wrap (t1.2 * yn0)) > (IntKind.u64.wrap ((IntKind.u64.wrap (4294967296 * t1.1)) + un0))))).bind fun q2 =>
  bif q2 then
    bif decide ((IntKind.u64.wrap (t1.1 + yn1)) ≥ 4294967296) then
      some (.inr (IntKind.u64.wrap (t1.2 - 1)))
    else
      some (.inl (IntKind.u64.wrap (t1.1 + yn1), IntKind.u64.wrap (t1.2 - 1)))
  else
    some (.inr t1.2)
theorem le_bits_Div64_l2 (yn1 : Int) (yn0 : Int) (un0 : Int) (t1 : Int × Int) : Lo (c_bits_Div64_l2 yn1 yn0 un0 t1) (bits_Div64_l2 yn1 yn0 un0 t1) := by
  unfold c_bits_Div64_l2 bits_Div64_l2
  repeat' (first | with_reducible refine lo_bind4 ?_ ?_ ?_ ?_ ?_ | with_reducible refine lo_bind3 ?_ ?_ ?_ ?_ | with_reducible refine lo_bind2 ?_ ?_ ?_ | with_reducible refine lo_bind ?_ ?_ | with_reducible refine lo_cond ?_ ?_ | with_reducible refine lo_iter ?_ _ | (intro _) | with_reducible exact lo_refl _ | exact lo_none | (dsimp only))
def c_bits_Div64_l1 (yn1 : Int) (yn0 : Int) (un1 : Int) (t : Int × Int) : Option ((Int × Int) ⊕ Int) :=
  (
    bif decide (t.1 ≥ 4294967296) then
      some true
    else
      some (decide ((IntKind.u64.wrap (t.1 * yn0)) > (IntKind.u64.wrap ((IntKind.u64.wrap (4294967296 * t.2)) + un1))))).bind fun q =>
  bif q then
    bif decide ((IntKind.u64.wrap (t.2 + yn1)) ≥ 4294967296) then
      some (.inr (IntKind.u64.wrap (t.1 - 1)))
    else
      some (.inl (IntKind.u64.wrap (t.1 - 1), IntKind.u64.wrap (t.2 + yn1)))
  else
    some (.inr t.1)
theorem le_bits_Div64_l1 (yn1 : Int) (yn0 : Int) (un1 : Int) (t : Int × Int) : Lo (c_bits_Div64_l1 yn1 yn0 un1 t) (bits_Div64_l1 yn1 yn0 un1 t) := by
  unfold c_bits_Div64_l1 bits_Div64_l1
  repeat' (first | with_reducible refine lo_bind4 ?_ ?_ ?_ ?_ ?_ | with_reducible refine lo_bind3 ?_ ?_ ?_ ?_ | with_reducible refine lo_bind2 ?_ ?_ ?_ | with_reducible refine lo_bind ?_ ?_ | with_reducible refine lo_cond ?_ ?_ | with_reducible refine lo_iter ?_ _ | (intro _) | with_reducible exact lo_refl _ | exact lo_none | (dsimp only))
def c_bits_Div64 (hi : Int) (lo : Int) (y : Int) : Option (Int × Int) :=
  bif y == 0 then
    none
  else
    bif decide (y ≤ hi) then
      none
    else
      bif hi == 0 then
        (nz y).bind fun _ =>
        (nz y).bind fun _ =>
        some (IntKind.u64.wrap (Int.tdiv lo y), Int.tmod lo y)
      else
        (c_bits_LeadingZeros64 y).bind fun x =>
        (nn (IntKind.u64.wrap x)).bind fun _ =>
        let yn1 := shrK .u64 (shlK .u64 y (IntKind.u64.wrap x)) 32
        let yn0 := andK .u64 (shlK .u64 y (IntKind.u64.wrap x)) 4294967295
        (nn (IntKind.u64.wrap x)).bind fun _ =>
        (nn (IntKind.u64.wrap (64 - (IntKind.u64.wrap x)))).bind fun _ =>
        let un32 := orK .u64 (shlK .u64 hi (IntKind.u64.wrap x)) (shrK .u64 lo (IntKind.u64.wrap (64 - (IntKind.u64.wrap x))))
        (nn (IntKind.u64.wrap x)).bind fun _ =>
        let un1 := shrK .u64 (shlK .u64 lo (IntKind.u64.wrap x)) 32
        let un0 := andK .u64 (shlK .u64 lo (IntKind.u64.wrap x)) 4294967295
        (nz yn1).bind fun _ =>
        let rhat := IntKind.u64.wrap (un32 - (IntKind.u64.wrap ((IntKind.u64.wrap (Int.tdiv un32 yn1)) * yn1)))
        (itr 4096 (c_bits_Div64_l1 yn1 yn0 un1) (IntKind.u64.wrap (Int.tdiv un32 yn1), rhat)).bind fun q1 =>
        let un21 := IntKind.u64.wrap ((IntKind.u64.wrap ((IntKind.u64.wrap (un32 * 4294967296)) + un1)) - (IntKind.u64.wrap (q1 * (shlK .u64 y (IntKind.u64.wrap x)))))
        (nz yn1).bind fun _ =>
        let rhat1 := IntKind.u64.wrap (un21 - (IntKind.u64.wrap ((IntKind.u64.wrap (Int.tdiv un21 yn1)) * yn1)))
        (itr 4096 (c_bits_Div64_l2 yn1 yn0 un0) (rhat1, IntKind.u64.wrap (Int.tdiv un21 yn1))).bind fun q0 =>
        (nn (IntKind.u64.wrap x)).bind fun _ =>
        let quo := IntKind.u64.wrap ((IntKind.u64.wrap (q1 * 4294967296)) + q0)
        let rem := shrK .u64 (IntKind.u64.wrap ((IntKind.u64.wrap ((IntKind.u64.wrap (un21 * 4294967296)) + un0)) - (IntKind.u64.wrap (q0 * (shlK .u64 y (IntKind.u64.wrap x)))))) (IntKind.u64.wrap x)
        some (quo, rem)
theorem le_bits_Div64 (hi : Int) (lo : Int) (y : Int) : Lo (c_bits_Div64 hi lo y) (bits_Div64 hi lo y) := by
  unfold c_bits_Div64 bits_Div64
  repeat' (first | with_reducible exact le_bits_LeadingZeros64 _ | with_reducible exact le_bits_Div64_l1 _ _ _ _ | with_reducible exact le_bits_Div64_l2 _ _ _ _ | with_reducible refine lo_bind4 ?_ ?_ ?_ ?_ ?_ | with_reducible refine lo_bind3 ?_ ?_ ?_ ?_ | with_reducible refine lo_bind2 ?_ ?_ ?_ | with_reducible refine lo_bind ?_ ?_ | with_reducible refine lo_cond ?_ ?_ | with_reducible refine lo_iter ?_ _ | (intro _) | with_reducible exact lo_refl _ | exact lo_none | (dsimp only))
def c_rvec_part (n : Int) (bp : Int) : Option Int :=
  (c_bits_Mul64 (IntKind.u64.wrap n) (IntKind.u64.wrap bp)).bind fun x =>
  (c_bits_Div64 x.1 x.2 10000).bind fun x1 =>
  some (w64 x1.1)
theorem le_rvec_part (n : Int) (bp : Int) : Lo (c_rvec_part n bp) (rvec_part n bp) := by
  unfold c_rvec_part rvec_part
  repeat' (first | with_reducible exact le_bits_Mul64 _ _ | with_reducible exact le_bits_Div64 _ _ _ | with_reducible refine lo_bind4 ?_ ?_ ?_ ?_ ?_ | with_reducible refine lo_bind3 ?_ ?_ ?_ ?_ | with_reducible refine lo_bind2 ?_ ?_ ?_ | with_reducible refine lo_bind ?_ ?_ | with_reducible refine lo_cond ?_ ?_ | with_reducible refine lo_iter ?_ _ | (intro _) | with_reducible exact lo_refl _ | exact lo_none | (dsimp only))
def c_rvec_Scale (a : Vec) (bp : Int) : Option (Vec × Int) :=
  (
    (c_rvec_vec_good a).bind fun x =>
    bif ! x then
      some true
    else
      bif decide (bp < 0) then
        some true
      else
        some (decide (bp > 1000000))).bind fun q =>
  bif q then
    some ((⟨0, 0⟩ : Vec), 1)
  else
    (c_rvec_part a.Mem bp).bind fun x1 =>
    (c_rvec_part a.Cores bp).bind fun x2 =>
    (c_rvec_over (⟨x1, x2⟩ : Vec)).bind fun x3 =>
    some (x3.1, x3.2)
theorem le_rvec_Scale (a : Vec) (bp : Int) : Lo (c_rvec_Scale a bp) (rvec_Scale a bp) := by
  unfold c_rvec_Scale rvec_Scale
  repeat' (first | with_reducible exact le_rvec_vec_good _ | with_reducible exact le_rvec_part _ _ | with_reducible exact le_rvec_over _ | with_reducible refine lo_bind4 ?_ ?_ ?_ ?_ ?_ | with_reducible refine lo_bind3 ?_ ?_ ?_ ?_ | with_reducible refine lo_bind2 ?_ ?_ ?_ | with_reducible refine lo_bind ?_ ?_ | with_reducible refine lo_cond ?_ ?_ | with_reducible refine lo_iter ?_ _ | (intro _) | with_reducible exact lo_refl _ | exact lo_none | (dsimp only))
def c_bytealg_LastIndexByteString_l1 (s : List UInt8) (c : Int) (i1 : Int) : Option (Int ⊕ (Int ⊕ Unit)) :=
  bif decide (i1 ≥ 0) then
    (idx s i1).bind fun ch =>
    bif (ch.toNat : Int) == c then
      some (.inr (.inl i1))
    else
      some (.inl (w64 (i1 - 1)))
  else
    some (.inr (.inr ()))
theorem le_bytealg_LastIndexByteString_l1 (s : List UInt8) (c : Int) (i1 : Int) : Lo (c_bytealg_LastIndexByteString_l1 s c i1) (bytealg_LastIndexByteString_l1 s c i1) := by
  unfold c_bytealg_LastIndexByteString_l1 bytealg_LastIndexByteString_l1
  repeat' (first | with_reducible refine lo_bind4 ?_ ?_ ?_ ?_ ?_ | with_reducible refine lo_bind3 ?_ ?_ ?_ ?_ | with_reducible refine lo_bind2 ?_ ?_ ?_ | with_reducible refine lo_bind ?_ ?_ | with_reducible refine lo_cond ?_ ?_ | with_reducible refine lo_iter ?_ _ | (intro _) | with_reducible exact lo_refl _ | exact lo_none | (dsimp only))
def c_bytealg_LastIndexByteString (s : List UInt8) (c : Int) : Option Int :=
  let i := w64 ((s.length : Int) - 1)
  (itr 4096 (c_bytealg_LastIndexByteString_l1 s c) i).bind fun q0 =>
  match q0 with
  | .inl q =>
    some q
  | .inr _ =>
    some (-1)
theorem le_bytealg_LastIndexByteString (s : List UInt8) (c : Int) : Lo (c_bytealg_LastIndexByteString s c) (bytealg_LastIndexByteString s c) := by
  unfold c_bytealg_LastIndexByteString bytealg_LastIndexByteString
  repeat' (first | with_reducible exact le_bytealg_LastIndexByteString_l1 _ _ _ | with_reducible refine lo_bind4 ?_ ?_ ?_ ?_ ?_ | with_reducible refine lo_bind3 ?_ ?_ ?_ ?_ | with_reducible refine lo_bind2 ?_ ?_ ?_ | with_reducible refine lo_bind ?_ ?_ | with_reducible refine lo_cond ?_ ?_ | with_reducible refine lo_iter ?_ _ | (intro _) | with_reducible exact lo_refl _ | exact lo_none | (dsimp only))
def c_bytealg_hashStrRev_string__l2 (t1 : Int × Int × Int) : Option ((Int × Int × Int) ⊕ Int) :=
  bif decide (t1.2.2 > 0) then
    (
      bif (andK .i64 t1.2.2 1) != 0 then
        let pow := IntKind.u32.wrap (t1.1 * t1.2.1)
        some pow
      else
        some t1.1).bind fun pow1 =>
    let sq := IntKind.u32.wrap (t1.2.1 * t1.2.1)
    some (.inl (pow1, sq, shrK .i64 t1.2.2 1))
  else
    some (.inr t1.1)
theorem le_bytealg_hashStrRev_string__l2 (t1 : Int × Int × Int) : Lo (c_bytealg_hashStrRev_string__l2 t1) (bytealg_hashStrRev_string__l2 t1) := by
  unfold c_bytealg_hashStrRev_string__l2 bytealg_hashStrRev_string__l2
  repeat' (first | with_reducible refine lo_bind4 ?_ ?_ ?_ ?_ ?_ | with_reducible refine lo_bind3 ?_ ?_ ?_ ?_ | with_reducible refine lo_bind2 ?_ ?_ ?_ | with_reducible refine lo_bind ?_ ?_ | with_reducible refine lo_cond ?_ ?_ | with_reducible refine lo_iter ?_ _ | (intro _) | with_reducible exact lo_refl _ | exact lo_none | (dsimp only))
def c_bytealg_hashStrRev_string__l1 (sep : List UInt8) (t : Int × Int) : Option ((Int × Int) ⊕ Int) :=
  bif decide (t.2 ≥ 0) then
    (idx sep t.2).bind fun ch =>
    let hash := IntKind.u32.wrap ((IntKind.u32.wrap (t.1 * 16777619)) + (IntKind.u32.wrap (ch.toNat : Int)))
    some (.inl (hash, w64 (t.2 - 1)))
  else
    some (.inr t.1)
theorem le_bytealg_hashStrRev_string__l1 (sep : List UInt8) (t : Int × Int) : Lo (c_bytealg_hashStrRev_string__l1 sep t) (bytealg_hashStrRev_string__l1 sep t) := by
  unfold c_bytealg_hashStrRev_string__l1 bytealg_hashStrRev_string__l1
  repeat' (first | with_reducible refine lo_bind4 ?_ ?_ ?_ ?_ ?_ | with_reducible refine lo_bind3 ?_ ?_ ?_ ?_ | with_reducible refine lo_bind2 ?_ ?_ ?_ | with_reducible refine lo_bind ?_ ?_ | with_reducible refine lo_cond ?_ ?_ | with_reducible refine lo_iter ?_ _ | (intro _) | with_reducible exact lo_refl _ | exact lo_none | (dsimp only))
def c_bytealg_hashStrRev_string_ (sep : List UInt8) : Option (Int × Int) :=
  let i := w64 ((sep.length : Int) - 1)
  (itr 4096 (c_bytealg_hashStrRev_string__l1 sep) (0, i)).bind fun hash1 =>
  (itr 4096 c_bytealg_hashStrRev_string__l2 (1, 16777619, (sep.length : Int))).bind fun pow2 =>
  some (hash1, pow2)
theorem le_bytealg_hashStrRev_string_ (sep : List UInt8) : Lo (c_bytealg_hashStrRev_string_ sep) (bytealg_hashStrRev_string_ sep) := by
  unfold c_bytealg_hashStrRev_string_ bytealg_hashStrRev_string_
  repeat' (first | with_reducible exact le_bytealg_hashStrRev_string__l1 _ _ | with_reducible exact le_bytealg_hashStrRev_string__l2 _ | with_reducible refine lo_bind4 ?_ ?_ ?_ ?_ ?_ | with_reducible refine lo_bind3 ?_ ?_ ?_ ?_ | with_reducible refine lo_bind2 ?_ ?_ ?_ | with_reducible refine lo_bind ?_ ?_ | with_reducible refine lo_cond ?_ ?_ | with_reducible refine lo_iter ?_ _ | (intro _) | with_reducible exact lo_refl _ | exact lo_none | (dsimp only))
def c_bytealg_LastIndexRabinKarp_string__l2 (s : List UInt8) (sep : List UInt8) (x : Int × Int) (t1 : Int × Int) : Option ((Int × Int) ⊕ (Int ⊕ Unit)) :=
  bif decide (t1.2 ≥ 0) then
    (idx s t1.2).bind fun ch1 =>
    let h2 := IntKind.u32.wrap ((IntKind.u32.wrap (t1.1 * 16777619)) + (IntKind.u32.wrap (ch1.toNat : Int)))
    (idx s (w64 (t1.2 + (sep.length : Int)))).bind fun ch2 =>
    let h3 := IntKind.u32.wrap (h2 - (IntKind.u32.wrap (x.2 * (IntKind.u32.wrap (ch2.toNat : Int)))))
    (
      bif h3 == x.1 then
        (slc s t1.2 (w64 (t1.2 + (sep.length : Int)))).bind fun s2 =>
        some (s2 == sep)
      else
        some false).bind fun q1 =>
    bif q1 then
      some (.inr (.inl (t1.2)))
    else
      some (.inl (h3, w64 (t1.2 - 1)))
  else
    some (.inr (.inr ()))
theorem le_bytealg_LastIndexRabinKarp_string__l2 (s : List UInt8) (sep : List UInt8) (x : Int × Int) (t1 : Int × Int) : Lo (c_bytealg_LastIndexRabinKarp_string__l2 s sep x t1) (bytealg_LastIndexRabinKarp_string__l2 s sep x t1) := by
  unfold c_bytealg_LastIndexRabinKarp_string__l2 bytealg_LastIndexRabinKarp_string__l2
  repeat' (first | with_reducible refine lo_bind4 ?_ ?_ ?_ ?_ ?_ | with_reducible refine lo_bind3 ?_ ?_ ?_ ?_ | with_reducible refine lo_bind2 ?_ ?_ ?_ | with_reducible refine lo_bind ?_ ?_ | with_reducible refine lo_cond ?_ ?_ | with_reducible refine lo_iter ?_ _ | (intro _) | with_reducible exact lo_refl _ | exact lo_none | (dsimp only))
def c_bytealg_LastIndexRabinKarp_string__l1 (s : List UInt8) (last : Int) (t : Int × Int) : Option ((Int × Int) ⊕ Int) :=
  bif decide (t.2 ≥ last) then
    (idx s t.2).bind fun ch =>
    let h := IntKind.u32.wrap ((IntKind.u32.wrap (t.1 * 16777619)) + (IntKind.u32.wrap (ch.toNat : Int)))
    some (.inl (h, w64 (t.2 - 1)))
  else
    some (.inr t.1)
theorem le_bytealg_LastIndexRabinKarp_string__l1 (s : List UInt8) (last : Int) (t : Int × Int) : Lo (c_bytealg_LastIndexRabinKarp_string__l1 s last t) (bytealg_LastIndexRabinKarp_string__l1 s last t) := by
  unfold c_bytealg_LastIndexRabinKarp_string__l1 bytealg_LastIndexRabinKarp_string__l1
  repeat' (first | with_reducible refine lo_bind4 ?_ ?_ ?_ ?_ ?_ | with_reducible refine lo_bind3 ?_ ?_ ?_ ?_ | with_reducible refine lo_bind2 ?_ ?_ ?_ | with_reducible refine lo_bind ?_ ?_ | with_reducible refine lo_cond ?_ ?_ | with_reducible refine lo_iter ?_ _ | (intro _) | with_reducible exact lo_refl _ | exact lo_none | (dsimp only))
def c_bytealg_LastIndexRabinKarp_string_ (s : List UInt8) (sep : List UInt8) : Option Int :=
  (c_bytealg_hashStrRev_string_ sep).bind fun x =>
  let last := w64 ((s.length : Int) - (sep.length : Int))
  let i := w64 ((s.length : Int) - 1)
  (itr 4096 (c_bytealg_LastIndexRabinKarp_string__l1 s last) (0, i)).bind fun h1 =>
  (
    bif h1 == x.1 then
      (slc s last (s.length : Int)).bind fun s1 =>
      some (s1 == sep)
    else
      some false).bind fun q =>
  bif q then
    some last
  else
    (itr 4096 (c_bytealg_LastIndexRabinKarp_string__l2 s sep x) (h1, w64 (last - 1))).bind fun q0 =>
    match q0 with
    | .inl q2 =>
      some q2
    | .inr _ =>
      some (-1)
theorem le_bytealg_LastIndexRabinKarp_string_ (s : List UInt8) (sep : List UInt8) : Lo (c_bytealg_LastIndexRabinKarp_string_ s sep) (bytealg_LastIndexRabinKarp_string_ s sep) := by
  unfold c_bytealg_LastIndexRabinKarp_string_ bytealg_LastIndexRabinKarp_string_
  repeat' (first | with_reducible exact le_bytealg_hashStrRev_string_ _ | with_reducible exact le_bytealg_LastIndexRabinKarp_string__l1 _ _ _ | with_reducible exact le_bytealg_LastIndexRabinKarp_string__l2 _ _ _ _ | with_reducible refine lo_bind4 ?_ ?_ ?_ ?_ ?_ | with_reducible refine lo_bind3 ?_ ?_ ?_ ?_ | with_reducible refine lo_bind2 ?_ ?_ ?_ | with_reducible refine lo_bind ?_ ?_ | with_reducible refine lo_cond ?_ ?_ | with_reducible refine lo_iter ?_ _ | (intro _) | with_reducible exact lo_refl _ | exact lo_none | (dsimp only))
def c_strings_LastIndex (s : List UInt8) (substr : List UInt8) : Option Int :=
  bif (substr.length : Int) == 0 then
    some (s.length : Int)
  else
    bif (substr.length : Int) == 1 then
      (idx substr 0).bind fun ch =>
      (c_bytealg_LastIndexByteString s (ch.toNat : Int)).bind fun x =>
      some x
    else
      bif (substr.length : Int) == (s.length : Int) then
        bif substr == s then
          some 0
        else
          some (-1)
      else
        bif decide ((substr.length : Int) > (s.length : Int)) then
          some (-1)
        else
          (c_bytealg_LastIndexRabinKarp_string_ s substr).bind fun x1 =>
          some x1
theorem le_strings_LastIndex (s : List UInt8) (substr : List UInt8) : Lo (c_strings_LastIndex s substr) (strings_LastIndex s substr) := by
  unfold c_strings_LastIndex strings_LastIndex
  repeat' (first | with_reducible exact le_bytealg_LastIndexByteString _ _ | with_reducible exact le_bytealg_LastIndexRabinKarp_string_ _ _ | with_reducible refine lo_bind4 ?_ ?_ ?_ ?_ ?_ | with_reducible refine lo_bind3 ?_ ?_ ?_ ?_ | with_reducible refine lo_bind2 ?_ ?_ ?_ | with_reducible refine lo_bind ?_ ?_ | with_reducible refine lo_cond ?_ ?_ | with_reducible refine lo_iter ?_ _ | (intro _) | with_reducible exact lo_refl _ | exact lo_none | (dsimp only))
def c_rule_above (path : List UInt8) : Option (List UInt8 × Bool) :=
  (c_strings_LastIndex path ([46] : List UInt8)).bind fun i =>
  bif decide (i < 0) then
    some (([] : List UInt8), false)
  else
    (slc path 0 i).bind fun s =>
    some (s, true)
theorem le_rule_above (path : List UInt8) : Lo (c_rule_above path) (rule_above path) := by
  unfold c_rule_above rule_above
  repeat' (first | with_reducible exact le_strings_LastIndex _ _ | with_reducible refine lo_bind4 ?_ ?_ ?_ ?_ ?_ | with_reducible refine lo_bind3 ?_ ?_ ?_ ?_ | with_reducible refine lo_bind2 ?_ ?_ ?_ | with_reducible refine lo_bind ?_ ?_ | with_reducible refine lo_cond ?_ ?_ | with_reducible refine lo_iter ?_ _ | (intro _) | with_reducible exact lo_refl _ | exact lo_none | (dsimp only))
def c_rule_Up_l1 (t : List UInt8 × List (List UInt8)) : Option ((List UInt8 × List (List UInt8)) ⊕ List (List UInt8)) :=
  bif ! (t.1 == ([] : List UInt8)) then
    (app 16 t.2 [t.1]).bind fun l =>
    (c_rule_above t.1).bind fun x =>
    some (.inl (x.1, l))
  else
    some (.inr t.2)
theorem le_rule_Up_l1 (t : List UInt8 × List (List UInt8)) : Lo (c_rule_Up_l1 t) (rule_Up_l1 t) := by
  unfold c_rule_Up_l1 rule_Up_l1
  repeat' (first | with_reducible exact le_rule_above _ | with_reducible refine lo_bind4 ?_ ?_ ?_ ?_ ?_ | with_reducible refine lo_bind3 ?_ ?_ ?_ ?_ | with_reducible refine lo_bind2 ?_ ?_ ?_ | with_reducible refine lo_bind ?_ ?_ | with_reducible refine lo_cond ?_ ?_ | with_reducible refine lo_iter ?_ _ | (intro _) | with_reducible exact lo_refl _ | exact lo_none | (dsimp only))
def c_rule_Up (path : List UInt8) : Option (List (List UInt8)) :=
  (itr 4096 c_rule_Up_l1 (path, [])).bind fun out =>
  some out
theorem le_rule_Up (path : List UInt8) : Lo (c_rule_Up path) (rule_Up path) := by
  unfold c_rule_Up rule_Up
  repeat' (first | with_reducible exact le_rule_Up_l1 _ | with_reducible refine lo_bind4 ?_ ?_ ?_ ?_ ?_ | with_reducible refine lo_bind3 ?_ ?_ ?_ ?_ | with_reducible refine lo_bind2 ?_ ?_ ?_ | with_reducible refine lo_bind ?_ ?_ | with_reducible refine lo_cond ?_ ?_ | with_reducible refine lo_iter ?_ _ | (intro _) | with_reducible exact lo_refl _ | exact lo_none | (dsimp only))
def c_share_sum_l1 (l : List Vec) (t : Vec × Int) : Option ((Vec × Int) ⊕ Vec) :=
  bif decide (t.2 < (l.length : Int)) then
    (idx l t.2).bind fun x =>
    (c_rvec_Add t.1 x).bind fun x1 =>
    some (.inl (x1.1, w64 (t.2 + 1)))
  else
    some (.inr t.1)
theorem le_share_sum_l1 (l : List Vec) (t : Vec × Int) : Lo (c_share_sum_l1 l t) (share_sum_l1 l t) := by
  unfold c_share_sum_l1 share_sum_l1
  repeat' (first | with_reducible exact le_rvec_Add _ _ | with_reducible refine lo_bind4 ?_ ?_ ?_ ?_ ?_ | with_reducible refine lo_bind3 ?_ ?_ ?_ ?_ | with_reducible refine lo_bind2 ?_ ?_ ?_ | with_reducible refine lo_bind ?_ ?_ | with_reducible refine lo_cond ?_ ?_ | with_reducible refine lo_iter ?_ _ | (intro _) | with_reducible exact lo_refl _ | exact lo_none | (dsimp only))
def c_share_sum (l : List Vec) : Option Vec :=
  (itr 4096 (c_share_sum_l1 l) ((⟨0, 0⟩ : Vec), 0)).bind fun out =>
  some out
theorem le_share_sum (l : List Vec) : Lo (c_share_sum l) (share_sum l) := by
  unfold c_share_sum share_sum
  repeat' (first | with_reducible exact le_share_sum_l1 _ _ | with_reducible refine lo_bind4 ?_ ?_ ?_ ?_ ?_ | with_reducible refine lo_bind3 ?_ ?_ ?_ ?_ | with_reducible refine lo_bind2 ?_ ?_ ?_ | with_reducible refine lo_bind ?_ ?_ | with_reducible refine lo_cond ?_ ?_ | with_reducible refine lo_iter ?_ _ | (intro _) | with_reducible exact lo_refl _ | exact lo_none | (dsimp only))
def c_share_Total_l1 (s : State) (label : Int) (t : List Vec × Int) : Option ((List Vec × Int) ⊕ List Vec) :=
  bif decide (t.2 < (s.Nodes.length : Int)) then
    (
      (idx s.Nodes t.2).bind fun x =>
      (
        bif x.Up then
          some (x.Label == label)
        else
          some false).bind fun q =>
      bif q then
        (app 16 t.1 [x.Cap]).bind fun l =>
        some l
      else
        some t.1).bind fun l1 =>
    some (.inl (l1, w64 (t.2 + 1)))
  else
    some (.inr t.1)
theorem le_share_Total_l1 (s : State) (label : Int) (t : List Vec × Int) : Lo (c_share_Total_l1 s label t) (share_Total_l1 s label t) := by
  unfold c_share_Total_l1 share_Total_l1
  repeat' (first | with_reducible refine lo_bind4 ?_ ?_ ?_ ?_ ?_ | with_reducible refine lo_bind3 ?_ ?_ ?_ ?_ | with_reducible refine lo_bind2 ?_ ?_ ?_ | with_reducible refine lo_bind ?_ ?_ | with_reducible refine lo_cond ?_ ?_ | with_reducible refine lo_iter ?_ _ | (intro _) | with_reducible exact lo_refl _ | exact lo_none | (dsimp only))
def c_share_Total (s : State) (label : Int) : Option Vec :=
  (itr 4096 (c_share_Total_l1 s label) ([], 0)).bind fun l2 =>
  (c_share_sum l2).bind fun x1 =>
  some x1
theorem le_share_Total (s : State) (label : Int) : Lo (c_share_Total s label) (share_Total s label) := by
  unfold c_share_Total share_Total
  repeat' (first | with_reducible exact le_share_Total_l1 _ _ _ | with_reducible exact le_share_sum _ | with_reducible refine lo_bind4 ?_ ?_ ?_ ?_ ?_ | with_reducible refine lo_bind3 ?_ ?_ ?_ ?_ | with_reducible refine lo_bind2 ?_ ?_ ?_ | with_reducible refine lo_bind ?_ ?_ | with_reducible refine lo_cond ?_ ?_ | with_reducible refine lo_iter ?_ _ | (intro _) | with_reducible exact lo_refl _ | exact lo_none | (dsimp only))
def c_share_down_l1 (s : State) (label : Int) (part : (TupT fam [.st 0] → Option Int)) (up : List (List UInt8)) (t : Vec × Vec × Int) : Option ((Vec × Vec × Int) ⊕ (Vec ⊕ (Vec × Vec))) :=
  bif decide (t.2.2 ≥ 0) then
    (inb t.2.2 up.length).bind fun i1 =>
    (up[i1]?).bind fun x2 =>
    (c_rule_Find s.Conf x2).bind fun x3 =>
    (
      bif ! x3.2 then
        some true
      else
        bif decide (label < 0) then
          some true
        else
          some (decide (label ≥ (x3.1.Caps.length : Int)))).bind fun q =>
    bif q then
      some (.inr (.inl (⟨0, 0⟩ : Vec)))
    else
      (inb label x3.1.Caps.length).bind fun i2 =>
      (x3.1.Caps[i2]?).bind fun x4 =>
      (part (x4, ())).bind fun r =>
      (c_rvec_Scale t.2.1 r).bind fun x5 =>
      some (.inl (t.1, x5.1, w64 (t.2.2 - 1)))
  else
    some (.inr (.inr (t.1, t.2.1)))
theorem le_share_down_l1 (s : State) (label : Int) (part part_' : (TupT fam [.st 0] → Option Int)) (h_part : ∀ a, Lo (part a) (part_' a)) (up : List (List UInt8)) (t : Vec × Vec × Int) : Lo (c_share_down_l1 s label part up t) (share_down_l1 s label part_' up t) := by
  unfold c_share_down_l1 share_down_l1
  repeat' (first | with_reducible exact le_rule_Find _ _ | with_reducible exact le_rvec_Scale _ _ | exact h_part _ | with_reducible refine lo_bind4 ?_ ?_ ?_ ?_ ?_ | with_reducible refine lo_bind3 ?_ ?_ ?_ ?_ | with_reducible refine lo_bind2 ?_ ?_ ?_ | with_reducible refine lo_bind ?_ ?_ | with_reducible refine lo_cond ?_ ?_ | with_reducible refine lo_iter ?_ _ | (intro _) | with_reducible exact lo_refl _ | exact lo_none | (dsimp only))
def c_share_down (s : State) (path : List UInt8) (label : Int) (part : (TupT fam [.st 0] → Option Int)) : Option Vec :=
  (c_rule_Up path).bind fun up =>
  (c_rule_Find s.Conf path).bind fun x =>
  bif ! x.2 then
    some (⟨0, 0⟩ : Vec)
  else
    (c_share_Total s label).bind fun x1 =>
    let i := w64 ((up.length : Int) - 2)
    (itr 4096 (c_share_down_l1 s label part up) ((⟨0, 0⟩ : Vec), x1, i)).bind fun q0 =>
    match q0 with
    | .inl q1 =>
      some q1
    | .inr q2 =>
      some q2.2
theorem le_share_down (s : State) (path : List UInt8) (label : Int) (part part_' : (TupT fam [.st 0] → Option Int)) (h_part : ∀ a, Lo (part a) (part_' a)) : Lo (c_share_down s path label part) (share_down s path label part_') := by
  unfold c_share_down share_down
  repeat' (first | with_reducible exact le_rule_Up _ | with_reducible exact le_rule_Find _ _ | with_reducible exact le_share_Total _ _ | with_reducible refine le_share_down_l1 _ _ _ _ ?_ _ _ | exact h_part _ | with_reducible refine lo_bind4 ?_ ?_ ?_ ?_ ?_ | with_reducible refine lo_bind3 ?_ ?_ ?_ ?_ | with_reducible refine lo_bind2 ?_ ?_ ?_ | with_reducible refine lo_bind ?_ ?_ | with_reducible refine lo_cond ?_ ?_ | with_reducible refine lo_iter ?_ _ | (intro _) | with_reducible exact lo_refl _ | exact lo_none | (dsimp only))
def c_share_capacity_least (c : Cap) : Option Int :=
  some c.Least
theorem le_share_capacity_least (c : Cap) : Lo (c_share_capacity_least c) (share_capacity_least c) := by
  unfold c_share_capacity_least share_capacity_least
  repeat' (first | with_reducible refine lo_bind4 ?_ ?_ ?_ ?_ ?_ | with_reducible refine lo_bind3 ?_ ?_ ?_ ?_ | with_reducible refine lo_bind2 ?_ ?_ ?_ | with_reducible refine lo_bind ?_ ?_ | with_reducible refine lo_cond ?_ ?_ | with_reducible refine lo_iter ?_ _ | (intro _) | with_reducible exact lo_refl _ | exact lo_none | (dsimp only))
def c_share_Least (s : State) (path : List UInt8) (label : Int) : Option Vec :=
  (c_share_down s path label (fun a' => c_share_capacity_least a'.1)).bind fun x =>
  some x
theorem le_share_Least (s : State) (path : List UInt8) (label : Int) : Lo (c_share_Least s path label) (share_Least s path label) := by
  unfold c_share_Least share_Least
  repeat' (first | with_reducible refine le_share_down _ _ _ _ _ ?_ | with_reducible exact le_share_capacity_least _ | with_reducible refine lo_bind4 ?_ ?_ ?_ ?_ ?_ | with_reducible refine lo_bind3 ?_ ?_ ?_ ?_ | with_reducible refine lo_bind2 ?_ ?_ ?_ | with_reducible refine lo_bind ?_ ?_ | with_reducible refine lo_cond ?_ ?_ | with_reducible refine lo_iter ?_ _ | (intro _) | with_reducible exact lo_refl _ | exact lo_none | (dsimp only))
def c_assign_attempt_due (t : Attempt) (a : App) (x : Ask) : Option Bool :=
  (c_qtree_Used t.s a.Queue t.n.Label).bind fun x1 =>
  (c_rvec_Add x1 x.Size).bind fun x2 =>
  bif x2.2 == 0 then
    (c_share_Least t.s a.Queue t.n.Label).bind fun x3 =>
    (c_rvec_Fits x2.1 x3).bind fun x4 =>
    some x4
  else
    some false
theorem le_assign_attempt_due (t : Attempt) (a : App) (x : Ask) : Lo (c_assign_attempt_due t a x) (assign_attempt_due t a x) := by
  unfold c_assign_attempt_due assign_attempt_due
  repeat' (first | with_reducible exact le_qtree_Used _ _ _ | with_reducible exact le_rvec_Add _ _ | with_reducible exact le_share_Least _ _ _ | with_reducible exact le_rvec_Fits _ _ | with_reducible refine lo_bind4 ?_ ?_ ?_ ?_ ?_ | with_reducible refine lo_bind3 ?_ ?_ ?_ ?_ | with_reducible refine lo_bind2 ?_ ?_ ?_ | with_reducible refine lo_bind ?_ ?_ | with_reducible refine lo_cond ?_ ?_ | with_reducible refine lo_iter ?_ _ | (intro _) | with_reducible exact lo_refl _ | exact lo_none | (dsimp only))
def c_qtree_UserUsed (s : State) (path : List UInt8) (label : Int) (user : Int) : Option Vec :=
  bif user == (-1) then
    some (⟨0, 0⟩ : Vec)
  else
    (c_qtree_view_used (⟨⟨⟨s.Conf.Labels, s.Conf.Queues⟩, s.Nodes, s.Apps, s.Conts, s.Slots, s.Plans, s.Now, s.Epoch, s.Seq⟩, path, label, user⟩ : View)).bind fun x =>
    some x
theorem le_qtree_UserUsed (s : State) (path : List UInt8) (label : Int) (user : Int) : Lo (c_qtree_UserUsed s path label user) (qtree_UserUsed s path label user) := by
  unfold c_qtree_UserUsed qtree_UserUsed
  repeat' (first | with_reducible exact le_qtree_view_used _ | with_reducible refine lo_bind4 ?_ ?_ ?_ ?_ ?_ | with_reducible refine lo_bind3 ?_ ?_ ?_ ?_ | with_reducible refine lo_bind2 ?_ ?_ ?_ | with_reducible refine lo_bind ?_ ?_ | with_reducible refine lo_cond ?_ ?_ | with_reducible refine lo_iter ?_ _ | (intro _) | with_reducible exact lo_refl _ | exact lo_none | (dsimp only))
def c_share_User (s : State) (path : List UInt8) (label : Int) : Option Vec :=
  (c_rule_Find s.Conf path).bind fun x =>
  (c_share_Least s path label).bind fun x1 =>
  (c_rvec_Scale x1 x.1.User).bind fun x2 =>
  some x2.1
theorem le_share_User (s : State) (path : List UInt8) (label : Int) : Lo (c_share_User s path label) (share_User s path label) := by
  unfold c_share_User share_User
  repeat' (first | with_reducible exact le_rule_Find _ _ | with_reducible exact le_share_Least _ _ _ | with_reducible exact le_rvec_Scale _ _ | with_reducible refine lo_bind4 ?_ ?_ ?_ ?_ ?_ | with_reducible refine lo_bind3 ?_ ?_ ?_ ?_ | with_reducible refine lo_bind2 ?_ ?_ ?_ | with_reducible refine lo_bind ?_ ?_ | with_reducible refine lo_cond ?_ ?_ | with_reducible refine lo_iter ?_ _ | (intro _) | with_reducible exact lo_refl _ | exact lo_none | (dsimp only))
def c_assign_attempt_more (t : Attempt) (a : App) : Option Bool :=
  (c_qtree_UserUsed t.s a.Queue t.n.Label a.User).bind fun x =>
  (c_share_User t.s a.Queue t.n.Label).bind fun x1 =>
  (c_rvec_Fits x x1).bind fun x2 =>
  some x2
theorem le_assign_attempt_more (t : Attempt) (a : App) : Lo (c_assign_attempt_more t a) (assign_attempt_more t a) := by
  unfold c_assign_attempt_more assign_attempt_more
  repeat' (first | with_reducible exact le_qtree_UserUsed _ _ _ _ | with_reducible exact le_share_User _ _ _ | with_reducible exact le_rvec_Fits _ _ | with_reducible refine lo_bind4 ?_ ?_ ?_ ?_ ?_ | with_reducible refine lo_bind3 ?_ ?_ ?_ ?_ | with_reducible refine lo_bind2 ?_ ?_ ?_ | with_reducible refine lo_bind ?_ ?_ | with_reducible refine lo_cond ?_ ?_ | with_reducible refine lo_iter ?_ _ | (intro _) | with_reducible exact lo_refl _ | exact lo_none | (dsimp only))
def c_assign_attempt_fits (t : Attempt) (x : Ask) : Option Bool :=
  (c_rvec_Fits x.Size t.free).bind fun x1 =>
  some x1
theorem le_assign_attempt_fits (t : Attempt) (x : Ask) : Lo (c_assign_attempt_fits t x) (assign_attempt_fits t x) := by
  unfold c_assign_attempt_fits assign_attempt_fits
  repeat' (first | with_reducible exact le_rvec_Fits _ _ | with_reducible refine lo_bind4 ?_ ?_ ?_ ?_ ?_ | with_reducible refine lo_bind3 ?_ ?_ ?_ ?_ | with_reducible refine lo_bind2 ?_ ?_ ?_ | with_reducible refine lo_bind ?_ ?_ | with_reducible refine lo_cond ?_ ?_ | with_reducible refine lo_iter ?_ _ | (intro _) | with_reducible exact lo_refl _ | exact lo_none | (dsimp only))
def c_share_capacity_most (c : Cap) : Option Int :=
  some c.Most
theorem le_share_capacity_most (c : Cap) : Lo (c_share_capacity_most c) (share_capacity_most c) := by
  unfold c_share_capacity_most share_capacity_most
  repeat' (first | with_reducible refine lo_bind4 ?_ ?_ ?_ ?_ ?_ | with_reducible refine lo_bind3 ?_ ?_ ?_ ?_ | with_reducible refine lo_bind2 ?_ ?_ ?_ | with_reducible refine lo_bind ?_ ?_ | with_reducible refine lo_cond ?_ ?_ | with_reducible refine lo_iter ?_ _ | (intro _) | with_reducible exact lo_refl _ | exact lo_none | (dsimp only))
def c_share_Most (s : State) (path : List UInt8) (label : Int) : Option Vec :=
  (c_share_down s path label (fun a' => c_share_capacity_most a'.1)).bind fun x =>
  some x
theorem le_share_Most (s : State) (path : List UInt8) (label : Int) : Lo (c_share_Most s path label) (share_Most s path label) := by
  unfold c_share_Most share_Most
  repeat' (first | with_reducible refine le_share_down _ _ _ _ _ ?_ | with_reducible exact le_share_capacity_most _ | with_reducible refine lo_bind4 ?_ ?_ ?_ ?_ ?_ | with_reducible refine lo_bind3 ?_ ?_ ?_ ?_ | with_reducible refine lo_bind2 ?_ ?_ ?_ | with_reducible refine lo_bind ?_ ?_ | with_reducible refine lo_cond ?_ ?_ | with_reducible refine lo_iter ?_ _ | (intro _) | with_reducible exact lo_refl _ | exact lo_none | (dsimp only))
def c_share_Kept_l1 (s : State) (label : Int) (t : List Vec × Int) : Option ((List Vec × Int) ⊕ List Vec) :=
  bif decide (t.2 < (s.Plans.length : Int)) then
    (
      (idx s.Plans t.2).bind fun x =>
      (
        bif x.Label == label then
          bif decide (x.From ≤ s.Now) then
            some (decide (x.Until > s.Now))
          else
            some false
        else
          some false).bind fun q =>
      bif q then
        (app 16 t.1 [x.Need]).bind fun l =>
        some l
      else
        some t.1).bind fun l1 =>
    some (.inl (l1, w64 (t.2 + 1)))
  else
    some (.inr t.1)
theorem le_share_Kept_l1 (s : State) (label : Int) (t : List Vec × Int) : Lo (c_share_Kept_l1 s label t) (share_Kept_l1 s label t) := by
  unfold c_share_Kept_l1 share_Kept_l1
  repeat' (first | with_reducible refine lo_bind4 ?_ ?_ ?_ ?_ ?_ | with_reducible refine lo_bind3 ?_ ?_ ?_ ?_ | with_reducible refine lo_bind2 ?_ ?_ ?_ | with_reducible refine lo_bind ?_ ?_ | with_reducible refine lo_cond ?_ ?_ | with_reducible refine lo_iter ?_ _ | (intro _) | with_reducible exact lo_refl _ | exact lo_none | (dsimp only))
def c_share_Kept (s : State) (label : Int) : Option Vec :=
  (itr 4096 (c_share_Kept_l1 s label) ([], 0)).bind fun l2 =>
  (c_share_sum l2).bind fun x1 =>
  some x1
theorem le_share_Kept (s : State) (label : Int) : Lo (c_share_Kept s label) (share_Kept s label) := by
  unfold c_share_Kept share_Kept
  repeat' (first | with_reducible exact le_share_Kept_l1 _ _ _ | with_reducible exact le_share_sum _ | with_reducible refine lo_bind4 ?_ ?_ ?_ ?_ ?_ | with_reducible refine lo_bind3 ?_ ?_ ?_ ?_ | with_reducible refine lo_bind2 ?_ ?_ ?_ | with_reducible refine lo_bind ?_ ?_ | with_reducible refine lo_cond ?_ ?_ | with_reducible refine lo_iter ?_ _ | (intro _) | with_reducible exact lo_refl _ | exact lo_none | (dsimp only))
def c_qtree_Room_l1 (s : State) (label : Int) (size : Vec) (x : List (List UInt8)) (t : Int) : Option (Int ⊕ (Bool ⊕ Unit)) :=
  bif decide (t < (x.length : Int)) then
    (inb t x.length).bind fun i =>
    (x[i]?).bind fun x1 =>
    (c_qtree_Used s x1 label).bind fun x2 =>
    (c_rvec_Add x2 size).bind fun x3 =>
    (
      bif x3.2 != 0 then
        some true
      else
        (c_share_Most s x1 label).bind fun x4 =>
        (c_rvec_Fits x3.1 x4).bind fun x5 =>
        some (! x5)).bind fun q =>
    bif q then
      some (.inr (.inl false))
    else
      (c_share_Total s label).bind fun x6 =>
      (c_share_Kept s label).bind fun x7 =>
      (
        bif x1 == ([114, 111, 111, 116] : List UInt8) then
          bif ! (((imax (w64 (x6.Mem - x7.Mem)) 0) == x6.Mem) && ((imax (w64 (x6.Cores - x7.Cores)) 0) == x6.Cores)) then
            (c_rvec_Fits x3.1 (⟨imax (w64 (x6.Mem - x7.Mem)) 0, imax (w64 (x6.Cores - x7.Cores)) 0⟩ : Vec)).bind fun x8 =>
            some (! x8)
          else
            some false
        else
          some false).bind fun q1 =>
      bif q1 then
        some (.inr (.inl false))
      else
        some (.inl (w64 (t + 1)))
  else
    some (.inr (.inr ()))
theorem le_qtree_Room_l1 (s : State) (label : Int) (size : Vec) (x : List (List UInt8)) (t : Int) : Lo (c_qtree_Room_l1 s label size x t) (qtree_Room_l1 s label size x t) := by
  unfold c_qtree_Room_l1 qtree_Room_l1
  repeat' (first | with_reducible exact le_qtree_Used _ _ _ | with_reducible exact le_rvec_Add _ _ | with_reducible exact le_share_Most _ _ _ | with_reducible exact le_rvec_Fits _ _ | with_reducible exact le_share_Total _ _ | with_reducible exact le_share_Kept _ _ | with_reducible refine lo_bind4 ?_ ?_ ?_ ?_ ?_ | with_reducible refine lo_bind3 ?_ ?_ ?_ ?_ | with_reducible refine lo_bind2 ?_ ?_ ?_ | with_reducible refine lo_bind ?_ ?_ | with_reducible refine lo_cond ?_ ?_ | with_reducible refine lo_iter ?_ _ | (intro _) | with_reducible exact lo_refl _ | exact lo_none | (dsimp only))
def c_qtree_Room (s : State) (path : List UInt8) (label : Int) (size : Vec) : Option Bool :=
  (c_rule_Up path).bind fun x =>
  (itr 4096 (c_qtree_Room_l1 s label size x) 0).bind fun q0 =>
  match q0 with
  | .inl q2 =>
    some q2
  | .inr _ =>
    some true
theorem le_qtree_Room (s : State) (path : List UInt8) (label : Int) (size : Vec) : Lo (c_qtree_Room s path label size) (qtree_Room s path label size) := by
  unfold c_qtree_Room qtree_Room
  repeat' (first | with_reducible exact le_rule_Up _ | with_reducible exact le_qtree_Room_l1 _ _ _ _ _ | with_reducible refine lo_bind4 ?_ ?_ ?_ ?_ ?_ | with_reducible refine lo_bind3 ?_ ?_ ?_ ?_ | with_reducible refine lo_bind2 ?_ ?_ ?_ | with_reducible refine lo_bind ?_ ?_ | with_reducible refine lo_cond ?_ ?_ | with_reducible refine lo_iter ?_ _ | (intro _) | with_reducible exact lo_refl _ | exact lo_none | (dsimp only))
def c_assign_attempt_room (t : Attempt) (a : App) (x : Ask) : Option Bool :=
  (c_qtree_Room t.s a.Queue t.n.Label x.Size).bind fun x1 =>
  some x1
theorem le_assign_attempt_room (t : Attempt) (a : App) (x : Ask) : Lo (c_assign_attempt_room t a x) (assign_attempt_room t a x) := by
  unfold c_assign_attempt_room assign_attempt_room
  repeat' (first | with_reducible exact le_qtree_Room _ _ _ _ | with_reducible refine lo_bind4 ?_ ?_ ?_ ?_ ?_ | with_reducible refine lo_bind3 ?_ ?_ ?_ ?_ | with_reducible refine lo_bind2 ?_ ?_ ?_ | with_reducible refine lo_bind ?_ ?_ | with_reducible refine lo_cond ?_ ?_ | with_reducible refine lo_iter ?_ _ | (intro _) | with_reducible exact lo_refl _ | exact lo_none | (dsimp only))
def c_api_Slot__63 (s : List Slot) (i : Int) (j : Int) : Option (List Slot) := del s i j
theorem le_api_Slot__63 (s : List Slot) (i : Int) (j : Int) : Lo (c_api_Slot__63 s i j) (api_Slot__63 s i j) := by
  unfold c_api_Slot__63 api_Slot__63
  repeat' (first | with_reducible refine lo_bind4 ?_ ?_ ?_ ?_ ?_ | with_reducible refine lo_bind3 ?_ ?_ ?_ ?_ | with_reducible refine lo_bind2 ?_ ?_ ?_ | with_reducible refine lo_bind ?_ ?_ | with_reducible refine lo_cond ?_ ?_ | with_reducible refine lo_iter ?_ _ | (intro _) | with_reducible exact lo_refl _ | exact lo_none | (dsimp only))
def c_asks_at_1 (a : Ask) (p : Int) : Option Bool :=
  some (a.Prio == p)
theorem le_asks_at_1 (a : Ask) (p : Int) : Lo (c_asks_at_1 a p) (asks_at_1 a p) := by
  unfold c_asks_at_1 asks_at_1
  repeat' (first | with_reducible refine lo_bind4 ?_ ?_ ?_ ?_ ?_ | with_reducible refine lo_bind3 ?_ ?_ ?_ ?_ | with_reducible refine lo_bind2 ?_ ?_ ?_ | with_reducible refine lo_bind ?_ ?_ | with_reducible refine lo_cond ?_ ?_ | with_reducible refine lo_iter ?_ _ | (intro _) | with_reducible exact lo_refl _ | exact lo_none | (dsimp only))
def c_asks_at (l : List Ask) (prio : Int) : Option Int :=
  (c_api_Ask__145 l (fun a' => c_asks_at_1 a'.1 prio)).bind fun x =>
  some x
theorem le_asks_at (l : List Ask) (prio : Int) : Lo (c_asks_at l prio) (asks_at l prio) := by
  unfold c_asks_at asks_at
  repeat' (first | with_reducible refine le_api_Ask__145 _ _ _ ?_ | with_reducible exact le_asks_at_1 _ _ | with_reducible refine lo_bind4 ?_ ?_ ?_ ?_ ?_ | with_reducible refine lo_bind3 ?_ ?_ ?_ ?_ | with_reducible refine lo_bind2 ?_ ?_ ?_ | with_reducible refine lo_bind ?_ ?_ | with_reducible refine lo_cond ?_ ?_ | with_reducible refine lo_iter ?_ _ | (intro _) | with_reducible exact lo_refl _ | exact lo_none | (dsimp only))
def c_api_Ask__121 (s : List Ask) (i : Int) (j : Int) : Option (List Ask) := del s i j
theorem le_api_Ask__121 (s : List Ask) (i : Int) (j : Int) : Lo (c_api_Ask__121 s i j) (api_Ask__121 s i j) := by
  unfold c_api_Ask__121 api_Ask__121
  repeat' (first | with_reducible refine lo_bind4 ?_ ?_ ?_ ?_ ?_ | with_reducible refine lo_bind3 ?_ ?_ ?_ ?_ | with_reducible refine lo_bind2 ?_ ?_ ?_ | with_reducible refine lo_bind ?_ ?_ | with_reducible refine lo_cond ?_ ?_ | with_reducible refine lo_iter ?_ _ | (intro _) | with_reducible exact lo_refl _ | exact lo_none | (dsimp only))
def c_asks_Take (l : List Ask) (prio : Int) : Option (List Ask × Bool) :=
  (c_asks_own l).bind fun out =>
  (c_asks_at out prio).bind fun i =>
  bif decide (i < 0) then
    some (out, false)
  else
    (inb i out.length).bind fun i1 =>
    (out[i1]?).bind fun x =>
    (inb i (List.set out i1 (⟨x.Prio, x.Label, ⟨x.Size.Mem, x.Size.Cores⟩, x.Count, x.Node, x.Rack, 0⟩ : Ask)).length).bind fun i2 =>
    ((List.set out i1 (⟨x.Prio, x.Label, ⟨x.Size.Mem, x.Size.Cores⟩, x.Count, x.Node, x.Rack, 0⟩ : Ask))[i2]?).bind fun x1 =>
    (inb i (List.set out i1 (⟨x.Prio, x.Label, ⟨x.Size.Mem, x.Size.Cores⟩, x.Count, x.Node, x.Rack, 0⟩ : Ask)).length).bind fun i3 =>
    ((List.set out i1 (⟨x.Prio, x.Label, ⟨x.Size.Mem, x.Size.Cores⟩, x.Count, x.Node, x.Rack, 0⟩ : Ask))[i3]?).bind fun x2 =>
    (
      (inb i (List.set (List.set out i1 (⟨x.Prio, x.Label, ⟨x.Size.Mem, x.Size.Cores⟩, x.Count, x.Node, x.Rack, 0⟩ : Ask)) i3 (⟨x2.Prio, x2.Label, ⟨x2.Size.Mem, x2.Size.Cores⟩, w64 (x1.Count - 1), x2.Node, x2.Rack, x2.Missed⟩ : Ask)).length).bind fun i4 =>
      ((List.set (List.set out i1 (⟨x.Prio, x.Label, ⟨x.Size.Mem, x.Size.Cores⟩, x.Count, x.Node, x.Rack, 0⟩ : Ask)) i3 (⟨x2.Prio, x2.Label, ⟨x2.Size.Mem, x2.Size.Cores⟩, w64 (x1.Count - 1), x2.Node, x2.Rack, x2.Missed⟩ : Ask))[i4]?).bind fun x3 =>
      bif decide (x3.Count ≤ 0) then
        (c_api_Ask__121 (List.set (List.set out i1 (⟨x.Prio, x.Label, ⟨x.Size.Mem, x.Size.Cores⟩, x.Count, x.Node, x.Rack, 0⟩ : Ask)) i3 (⟨x2.Prio, x2.Label, ⟨x2.Size.Mem, x2.Size.Cores⟩, w64 (x1.Count - 1), x2.Node, x2.Rack, x2.Missed⟩ : Ask)) i (w64 (i + 1))).bind fun out1 =>
        some out1
      else
        some (List.set (List.set out i1 (⟨x.Prio, x.Label, ⟨x.Size.Mem, x.Size.Cores⟩, x.Count, x.Node, x.Rack, 0⟩ : Ask)) i3 (⟨x2.Prio, x2.Label, ⟨x2.Size.Mem, x2.Size.Cores⟩, w64 (x1.Count - 1), x2.Node, x2.Rack, x2.Missed⟩ : Ask))).bind fun out2 =>
    some (out2, true)
theorem le_asks_Take (l : List Ask) (prio : Int) : Lo (c_asks_Take l prio) (asks_Take l prio) := by
  unfold c_asks_Take asks_Take
  repeat' (first | with_reducible exact le_asks_own _ | with_reducible exact le_asks_at _ _ | with_reducible exact le_api_Ask__121 _ _ _ | with_reducible refine lo_bind4 ?_ ?_ ?_ ?_ ?_ | with_reducible refine lo_bind3 ?_ ?_ ?_ ?_ | with_reducible refine lo_bind2 ?_ ?_ ?_ | with_reducible refine lo_bind ?_ ?_ | with_reducible refine lo_cond ?_ ?_ | with_reducible refine lo_iter ?_ _ | (intro _) | with_reducible exact lo_refl _ | exact lo_none | (dsimp only))
def c_api_App__195_l1 (t : List App × Int × Int) : Option ((List App × Int × Int) ⊕ List App) :=
  bif decide (t.2.1 < t.2.2) then
    (inb t.2.2 t.1.length).bind fun i =>
    (t.1[i]?).bind fun x =>
    (inb t.2.1 t.1.length).bind fun i1 =>
    (t.1[i1]?).bind fun x1 =>
    (inb t.2.1 t.1.length).bind fun i2 =>
    (t.1[i2]?).bind fun x2 =>
    (inb t.2.2 (List.set t.1 i2 x).length).bind fun i3 =>
    ((List.set t.1 i2 x)[i3]?).bind fun x3 =>
    some (.inl (List.set (List.set t.1 i2 x) i3 x1, w64 (t.2.1 + 1), w64 (t.2.2 - 1)))
  else
    some (.inr t.1)
theorem le_api_App__195_l1 (t : List App × Int × Int) : Lo (c_api_App__195_l1 t) (api_App__195_l1 t) := by
  unfold c_api_App__195_l1 api_App__195_l1
  repeat' (first | with_reducible refine lo_bind4 ?_ ?_ ?_ ?_ ?_ | with_reducible refine lo_bind3 ?_ ?_ ?_ ?_ | with_reducible refine lo_bind2 ?_ ?_ ?_ | with_reducible refine lo_bind ?_ ?_ | with_reducible refine lo_cond ?_ ?_ | with_reducible refine lo_iter ?_ _ | (intro _) | with_reducible exact lo_refl _ | exact lo_none | (dsimp only))
def c_api_App__195 (s : List App) : Option (List App) :=
  let j := w64 ((s.length : Int) - 1)
  (itr 4096 c_api_App__195_l1 (s, 0, j)).bind fun s1 =>
  some s1
theorem le_api_App__195 (s : List App) : Lo (c_api_App__195 s) (api_App__195 s) := by
  unfold c_api_App__195 api_App__195
  repeat' (first | with_reducible exact le_api_App__195_l1 _ | with_reducible refine lo_bind4 ?_ ?_ ?_ ?_ ?_ | with_reducible refine lo_bind3 ?_ ?_ ?_ ?_ | with_reducible refine lo_bind2 ?_ ?_ ?_ | with_reducible refine lo_bind ?_ ?_ | with_reducible refine lo_cond ?_ ?_ | with_reducible refine lo_iter ?_ _ | (intro _) | with_reducible exact lo_refl _ | exact lo_none | (dsimp only))
def c_api_App__177 (s : List App) (r : Int) : Option Unit :=
  (slc s 0 r).bind fun l =>
  none
theorem le_api_App__177 (s : List App) (r : Int) : Lo (c_api_App__177 s r) (api_App__177 s r) := by
  unfold c_api_App__177 api_App__177
  repeat' (first | with_reducible refine lo_bind4 ?_ ?_ ?_ ?_ ?_ | with_reducible refine lo_bind3 ?_ ?_ ?_ ?_ | with_reducible refine lo_bind2 ?_ ?_ ?_ | with_reducible refine lo_bind ?_ ?_ | with_reducible refine lo_cond ?_ ?_ | with_reducible refine lo_iter ?_ _ | (intro _) | with_reducible exact lo_refl _ | exact lo_none | (dsimp only))
def c_api_App__163 (s : List App) (r : Int) : Option Unit :=
  (c_api_App__177 s (w64 ((s.length : Int) - r))).bind fun _ =>
  some ()
theorem le_api_App__163 (s : List App) (r : Int) : Lo (c_api_App__163 s r) (api_App__163 s r) := by
  unfold c_api_App__163 api_App__163
  repeat' (first | with_reducible exact le_api_App__177 _ _ | with_reducible refine lo_bind4 ?_ ?_ ?_ ?_ ?_ | with_reducible refine lo_bind3 ?_ ?_ ?_ ?_ | with_reducible refine lo_bind2 ?_ ?_ ?_ | with_reducible refine lo_bind ?_ ?_ | with_reducible refine lo_cond ?_ ?_ | with_reducible refine lo_iter ?_ _ | (intro _) | with_reducible exact lo_refl _ | exact lo_none | (dsimp only))
def c_api_App__147 (s : List App) (i : Int) (v : List App) : Option (List App) :=
  (inS i (s.length : Int) s.length).bind fun p =>
  bif (v.length : Int) == 0 then
    some s
  else
    bif i == (s.length : Int) then
      (app 200 s v).bind fun l =>
      some l
    else
      none
theorem le_api_App__147 (s : List App) (i : Int) (v : List App) : Lo (c_api_App__147 s i v) (api_App__147 s i v) := by
  unfold c_api_App__147 api_App__147
  repeat' (first | with_reducible refine lo_bind4 ?_ ?_ ?_ ?_ ?_ | with_reducible refine lo_bind3 ?_ ?_ ?_ ?_ | with_reducible refine lo_bind2 ?_ ?_ ?_ | with_reducible refine lo_bind ?_ ?_ | with_reducible refine lo_cond ?_ ?_ | with_reducible refine lo_iter ?_ _ | (intro _) | with_reducible exact lo_refl _ | exact lo_none | (dsimp only))
def c_apps_put_l1 (s : State) (a : App) (k : Int) : Option (Int ⊕ Int) :=
  (
    bif decide (k < (s.Apps.length : Int)) then
      (inb k s.Apps.length).bind fun i2 =>
      (s.Apps[i2]?).bind fun x1 =>
      some (decide (x1.Id < a.Id))
    else
      some false).bind fun q =>
  bif q then
    some (.inl (w64 (k + 1)))
  else
    some (.inr k)
theorem le_apps_put_l1 (s : State) (a : App) (k : Int) : Lo (c_apps_put_l1 s a k) (apps_put_l1 s a k) := by
  unfold c_apps_put_l1 apps_put_l1
  repeat' (first | with_reducible refine lo_bind4 ?_ ?_ ?_ ?_ ?_ | with_reducible refine lo_bind3 ?_ ?_ ?_ ?_ | with_reducible refine lo_bind2 ?_ ?_ ?_ | with_reducible refine lo_bind ?_ ?_ | with_reducible refine lo_cond ?_ ?_ | with_reducible refine lo_iter ?_ _ | (intro _) | with_reducible exact lo_refl _ | exact lo_none | (dsimp only))
def c_apps_put (s : State) (a : App) : Option State :=
  (c_apps_at s a.Id).bind fun i =>
  bif decide (i ≥ 0) then
    (inb i s.Apps.length).bind fun i1 =>
    (s.Apps[i1]?).bind fun x =>
    some (⟨⟨s.Conf.Labels, s.Conf.Queues⟩, s.Nodes, List.set s.Apps i1 a, s.Conts, s.Slots, s.Plans, s.Now, s.Epoch, s.Seq⟩ : State)
  else
    (itr 4096 (c_apps_put_l1 s a) 0).bind fun k1 =>
    (c_api_App__147 s.Apps k1 [a]).bind fun x2 =>
    some (⟨⟨s.Conf.Labels, s.Conf.Queues⟩, s.Nodes, x2, s.Conts, s.Slots, s.Plans, s.Now, s.Epoch, s.Seq⟩ : State)
theorem le_apps_put (s : State) (a : App) : Lo (c_apps_put s a) (apps_put s a) := by
  unfold c_apps_put apps_put
  repeat' (first | with_reducible exact le_apps_at _ _ | with_reducible exact le_apps_put_l1 _ _ _ | with_reducible exact le_api_App__147 _ _ _ | with_reducible refine lo_bind4 ?_ ?_ ?_ ?_ ?_ | with_reducible refine lo_bind3 ?_ ?_ ?_ ?_ | with_reducible refine lo_bind2 ?_ ?_ ?_ | with_reducible refine lo_bind ?_ ?_ | with_reducible refine lo_cond ?_ ?_ | with_reducible refine lo_iter ?_ _ | (intro _) | with_reducible exact lo_refl _ | exact lo_none | (dsimp only))
def c_apps_Put (s : State) (a : App) : Option State :=
  (c_apps_own s).bind fun x =>
  (c_apps_app a).bind fun x1 =>
  (c_apps_put x x1).bind fun x2 =>
  some x2
theorem le_apps_Put (s : State) (a : App) : Lo (c_apps_Put s a) (apps_Put s a) := by
  unfold c_apps_Put apps_Put
  repeat' (first | with_reducible exact le_apps_own _ | with_reducible exact le_apps_app _ | with_reducible exact le_apps_put _ _ | with_reducible refine lo_bind4 ?_ ?_ ?_ ?_ ?_ | with_reducible refine lo_bind3 ?_ ?_ ?_ ?_ | with_reducible refine lo_bind2 ?_ ?_ ?_ | with_reducible refine lo_bind ?_ ?_ | with_reducible refine lo_cond ?_ ?_ | with_reducible refine lo_iter ?_ _ | (intro _) | with_reducible exact lo_refl _ | exact lo_none | (dsimp only))
def c_api_Cont__164_l1 (t : List Cont × Int × Int) : Option ((List Cont × Int × Int) ⊕ List Cont) :=
  bif decide (t.2.1 < t.2.2) then
    (inb t.2.2 t.1.length).bind fun i =>
    (t.1[i]?).bind fun x =>
    (inb t.2.1 t.1.length).bind fun i1 =>
    (t.1[i1]?).bind fun x1 =>
    (inb t.2.1 t.1.length).bind fun i2 =>
    (t.1[i2]?).bind fun x2 =>
    (inb t.2.2 (List.set t.1 i2 x).length).bind fun i3 =>
    ((List.set t.1 i2 x)[i3]?).bind fun x3 =>
    some (.inl (List.set (List.set t.1 i2 x) i3 x1, w64 (t.2.1 + 1), w64 (t.2.2 - 1)))
  else
    some (.inr t.1)
theorem le_api_Cont__164_l1 (t : List Cont × Int × Int) : Lo (c_api_Cont__164_l1 t) (api_Cont__164_l1 t) := by
  unfold c_api_Cont__164_l1 api_Cont__164_l1
  repeat' (first | with_reducible refine lo_bind4 ?_ ?_ ?_ ?_ ?_ | with_reducible refine lo_bind3 ?_ ?_ ?_ ?_ | with_reducible refine lo_bind2 ?_ ?_ ?_ | with_reducible refine lo_bind ?_ ?_ | with_reducible refine lo_cond ?_ ?_ | with_reducible refine lo_iter ?_ _ | (intro _) | with_reducible exact lo_refl _ | exact lo_none | (dsimp only))
def c_api_Cont__164 (s : List Cont) : Option (List Cont) :=
  let j := w64 ((s.length : Int) - 1)
  (itr 4096 c_api_Cont__164_l1 (s, 0, j)).bind fun s1 =>
  some s1
theorem le_api_Cont__164 (s : List Cont) : Lo (c_api_Cont__164 s) (api_Cont__164 s) := by
  unfold c_api_Cont__164 api_Cont__164
  repeat' (first | with_reducible exact le_api_Cont__164_l1 _ | with_reducible refine lo_bind4 ?_ ?_ ?_ ?_ ?_ | with_reducible refine lo_bind3 ?_ ?_ ?_ ?_ | with_reducible refine lo_bind2 ?_ ?_ ?_ | with_reducible refine lo_bind ?_ ?_ | with_reducible refine lo_cond ?_ ?_ | with_reducible refine lo_iter ?_ _ | (intro _) | with_reducible exact lo_refl _ | exact lo_none | (dsimp only))
def c_api_Cont__148 (s : List Cont) (r : Int) : Option Unit :=
  (slc s 0 r).bind fun l =>
  none
theorem le_api_Cont__148 (s : List Cont) (r : Int) : Lo (c_api_Cont__148 s r) (api_Cont__148 s r) := by
  unfold c_api_Cont__148 api_Cont__148
  repeat' (first | with_reducible refine lo_bind4 ?_ ?_ ?_ ?_ ?_ | with_reducible refine lo_bind3 ?_ ?_ ?_ ?_ | with_reducible refine lo_bind2 ?_ ?_ ?_ | with_reducible refine lo_bind ?_ ?_ | with_reducible refine lo_cond ?_ ?_ | with_reducible refine lo_iter ?_ _ | (intro _) | with_reducible exact lo_refl _ | exact lo_none | (dsimp only))
def c_api_Cont__124 (s : List Cont) (r : Int) : Option Unit :=
  (c_api_Cont__148 s (w64 ((s.length : Int) - r))).bind fun _ =>
  some ()
theorem le_api_Cont__124 (s : List Cont) (r : Int) : Lo (c_api_Cont__124 s r) (api_Cont__124 s r) := by
  unfold c_api_Cont__124 api_Cont__124
  repeat' (first | with_reducible exact le_api_Cont__148 _ _ | with_reducible refine lo_bind4 ?_ ?_ ?_ ?_ ?_ | with_reducible refine lo_bind3 ?_ ?_ ?_ ?_ | with_reducible refine lo_bind2 ?_ ?_ ?_ | with_reducible refine lo_bind ?_ ?_ | with_reducible refine lo_cond ?_ ?_ | with_reducible refine lo_iter ?_ _ | (intro _) | with_reducible exact lo_refl _ | exact lo_none | (dsimp only))
def c_api_Cont__95 (s : List Cont) (i : Int) (v : List Cont) : Option (List Cont) :=
  (inS i (s.length : Int) s.length).bind fun p =>
  bif (v.length : Int) == 0 then
    some s
  else
    bif i == (s.length : Int) then
      (app 72 s v).bind fun l =>
      some l
    else
      none
theorem le_api_Cont__95 (s : List Cont) (i : Int) (v : List Cont) : Lo (c_api_Cont__95 s i v) (api_Cont__95 s i v) := by
  unfold c_api_Cont__95 api_Cont__95
  repeat' (first | with_reducible refine lo_bind4 ?_ ?_ ?_ ?_ ?_ | with_reducible refine lo_bind3 ?_ ?_ ?_ ?_ | with_reducible refine lo_bind2 ?_ ?_ ?_ | with_reducible refine lo_bind ?_ ?_ | with_reducible refine lo_cond ?_ ?_ | with_reducible refine lo_iter ?_ _ | (intro _) | with_reducible exact lo_refl _ | exact lo_none | (dsimp only))
def c_assign_attempt_grant_l1 (t : Attempt) (x2 : State) (k : Int) : Option (Int ⊕ Int) :=
  (
    bif decide (k < (x2.Conts.length : Int)) then
      (inb k x2.Conts.length).bind fun i =>
      (x2.Conts[i]?).bind fun x3 =>
      some (decide (x3.Id < (w64 ((shlK .i64 t.s.Epoch 20) + (w64 (t.s.Seq + 1))))))
    else
      some false).bind fun q =>
  bif q then
    some (.inl (w64 (k + 1)))
  else
    some (.inr k)
theorem le_assign_attempt_grant_l1 (t : Attempt) (x2 : State) (k : Int) : Lo (c_assign_attempt_grant_l1 t x2 k) (assign_attempt_grant_l1 t x2 k) := by
  unfold c_assign_attempt_grant_l1 assign_attempt_grant_l1
  repeat' (first | with_reducible refine lo_bind4 ?_ ?_ ?_ ?_ ?_ | with_reducible refine lo_bind3 ?_ ?_ ?_ ?_ | with_reducible refine lo_bind2 ?_ ?_ ?_ | with_reducible refine lo_bind ?_ ?_ | with_reducible refine lo_cond ?_ ?_ | with_reducible refine lo_iter ?_ _ | (intro _) | with_reducible exact lo_refl _ | exact lo_none | (dsimp only))
def c_assign_attempt_grant (t : Attempt) (a : App) (x : Ask) : Option (Cont × Attempt) :=
  (c_asks_Take a.Asks x.Prio).bind fun x1 =>
  (
    bif a.State == 1 then
      some (⟨a.Id, 2, a.Queue, a.User, a.Prio, ⟨a.Master.Mem, a.Master.Cores⟩, [], t.s.Now, 0, a.Grants, a.Kills, a.Told, a.Lost⟩ : App)
    else
      (app 8 a.Grants [w64 ((shlK .i64 t.s.Epoch 20) + (w64 (t.s.Seq + 1)))]).bind fun l =>
      some (⟨a.Id, a.State, a.Queue, a.User, a.Prio, ⟨a.Master.Mem, a.Master.Cores⟩, x1.1, a.Seen, a.Beat, l, a.Kills, a.Told, a.Lost⟩ : App)).bind fun a1 =>
  (c_apps_Put (⟨⟨t.s.Conf.Labels, t.s.Conf.Queues⟩, t.s.Nodes, t.s.Apps, t.s.Conts, t.s.Slots, t.s.Plans, t.s.Now, t.s.Epoch, w64 (t.s.Seq + 1)⟩ : State) a1).bind fun x2 =>
  (itr 4096 (c_assign_attempt_grant_l1 t x2) 0).bind fun k1 =>
  (c_api_Cont__95 x2.Conts k1 [(⟨w64 ((shlK .i64 t.s.Epoch 20) + (w64 (t.s.Seq + 1))), a.Id, t.n.Id, ⟨x.Size.Mem, x.Size.Cores⟩, x.Prio, x.Label, a.State == 1, 0⟩ : Cont)]).bind fun x4 =>
  some ((⟨w64 ((shlK .i64 t.s.Epoch 20) + (w64 (t.s.Seq + 1))), a.Id, t.n.Id, ⟨x.Size.Mem, x.Size.Cores⟩, x.Prio, x.Label, a.State == 1, 0⟩ : Cont), (⟨⟨⟨x2.Conf.Labels, x2.Conf.Queues⟩, x2.Nodes, x2.Apps, x4, x2.Slots, x2.Plans, x2.Now, x2.Epoch, x2.Seq⟩, ⟨t.n.Id, t.n.Label, t.n.Rack, ⟨t.n.Cap.Mem, t.n.Cap.Cores⟩, t.n.Seen, t.n.Beat, t.n.Up⟩, ⟨t.free.Mem, t.free.Cores⟩⟩ : Attempt))
theorem le_assign_attempt_grant (t : Attempt) (a : App) (x : Ask) : Lo (c_assign_attempt_grant t a x) (assign_attempt_grant t a x) := by
  unfold c_assign_attempt_grant assign_attempt_grant
  repeat' (first | with_reducible exact le_asks_Take _ _ | with_reducible exact le_apps_Put _ _ | with_reducible exact le_assign_attempt_grant_l1 _ _ _ | with_reducible exact le_api_Cont__95 _ _ _ | with_reducible refine lo_bind4 ?_ ?_ ?_ ?_ ?_ | with_reducible refine lo_bind3 ?_ ?_ ?_ ?_ | with_reducible refine lo_bind2 ?_ ?_ ?_ | with_reducible refine lo_bind ?_ ?_ | with_reducible refine lo_cond ?_ ?_ | with_reducible refine lo_iter ?_ _ | (intro _) | with_reducible exact lo_refl _ | exact lo_none | (dsimp only))
def c_assign_attempt_kept (t : Attempt) : Option (Int × Cont × Bool × Attempt) :=
  (c_api_Slot__52 t.s.Slots (fun a' => none)).bind fun i =>
  bif decide (i < 0) then
    some (0, (⟨0, 0, 0, ⟨0, 0⟩, 0, 0, false, 0⟩ : Cont), false, t)
  else
    (idx t.s.Slots i).bind fun x =>
    (c_apps_Find t.s x.App).bind fun x1 =>
    (c_assign_find x1.1 x.Prio).bind fun x2 =>
    (
      bif x1.2 then
        (c_apps_Live x1.1).bind fun x3 =>
        bif x3 then
          bif x2.2 then
            (c_local_May x2.1 t.n).bind fun x4 =>
            bif x4 then
              (c_assign_attempt_could t x2.1).bind fun x5 =>
              bif x5 then
                (c_assign_attempt_due t x1.1 x2.1).bind fun x6 =>
                bif x6 then
                  (c_assign_attempt_more t x1.1).bind fun x7 =>
                  some x7
                else
                  some false
              else
                some false
            else
              some false
          else
            some false
        else
          some false
      else
        some false).bind fun stays =>
    (
      bif stays then
        (c_assign_attempt_fits t x2.1).bind fun x8 =>
        bif x8 then
          (c_assign_attempt_room t x1.1 x2.1).bind fun x9 =>
          some (! x9)
        else
          some true
      else
        some false).bind fun q =>
    bif q then
      some (3, (⟨0, 0, 0, ⟨0, 0⟩, 0, 0, false, 0⟩ : Cont), true, t)
    else
      none
theorem le_assign_attempt_kept (t : Attempt) : Lo (c_assign_attempt_kept t) (assign_attempt_kept t) := by
  unfold c_assign_attempt_kept assign_attempt_kept
  repeat' (first | with_reducible refine le_api_Slot__52 _ _ _ ?_ | with_reducible exact le_apps_Find _ _ | with_reducible exact le_assign_find _ _ | with_reducible exact le_apps_Live _ | with_reducible exact le_local_May _ _ | with_reducible exact le_assign_attempt_could _ _ | with_reducible exact le_assign_attempt_due _ _ _ | with_reducible exact le_assign_attempt_more _ _ | with_reducible exact le_assign_attempt_fits _ _ | with_reducible exact le_assign_attempt_room _ _ _ | with_reducible refine lo_bind4 ?_ ?_ ?_ ?_ ?_ | with_reducible refine lo_bind3 ?_ ?_ ?_ ?_ | with_reducible refine lo_bind2 ?_ ?_ ?_ | with_reducible refine lo_bind ?_ ?_ | with_reducible refine lo_cond ?_ ?_ | with_reducible refine lo_iter ?_ _ | (intro _) | with_reducible exact lo_refl _ | exact lo_none | (dsimp only))
def c_rule_Kids_l1 (c : Conf) (path : List UInt8) (t : List (List UInt8) × Int) : Option ((List (List UInt8) × Int) ⊕ List (List UInt8)) :=
  bif decide (t.2 < (c.Queues.length : Int)) then
    (
      (idx c.Queues t.2).bind fun x =>
      (c_rule_above x.Path).bind fun x1 =>
      (
        bif x1.2 then
          some (x1.1 == path)
        else
          some false).bind fun q =>
      bif q then
        (app 16 t.1 [x.Path]).bind fun l =>
        some l
      else
        some t.1).bind fun out =>
    some (.inl (out, w64 (t.2 + 1)))
  else
    some (.inr t.1)
theorem le_rule_Kids_l1 (c : Conf) (path : List UInt8) (t : List (List UInt8) × Int) : Lo (c_rule_Kids_l1 c path t) (rule_Kids_l1 c path t) := by
  unfold c_rule_Kids_l1 rule_Kids_l1
  repeat' (first | with_reducible exact le_rule_above _ | with_reducible refine lo_bind4 ?_ ?_ ?_ ?_ ?_ | with_reducible refine lo_bind3 ?_ ?_ ?_ ?_ | with_reducible refine lo_bind2 ?_ ?_ ?_ | with_reducible refine lo_bind ?_ ?_ | with_reducible refine lo_cond ?_ ?_ | with_reducible refine lo_iter ?_ _ | (intro _) | with_reducible exact lo_refl _ | exact lo_none | (dsimp only))
def c_rule_Kids (c : Conf) (path : List UInt8) : Option (List (List UInt8)) :=
  (itr 4096 (c_rule_Kids_l1 c path) ([], 0)).bind fun out1 =>
  some out1
theorem le_rule_Kids (c : Conf) (path : List UInt8) : Lo (c_rule_Kids c path) (rule_Kids c path) := by
  unfold c_rule_Kids rule_Kids
  repeat' (first | with_reducible exact le_rule_Kids_l1 _ _ _ | with_reducible refine lo_bind4 ?_ ?_ ?_ ?_ ?_ | with_reducible refine lo_bind3 ?_ ?_ ?_ ?_ | with_reducible refine lo_bind2 ?_ ?_ ?_ | with_reducible refine lo_bind ?_ ?_ | with_reducible refine lo_cond ?_ ?_ | with_reducible refine lo_iter ?_ _ | (intro _) | with_reducible exact lo_refl _ | exact lo_none | (dsimp only))
def c_order_load_ (s : List Load) (f : (TupT fam [.st 13, .st 13] → Option Int)) : Option (List Load) := sortG (F := fam) (.st 13) f s
theorem le_order_load_ (s : List Load) (f f_' : (TupT fam [.st 13, .st 13] → Option Int)) (h_f : ∀ a, Lo (f a) (f_' a)) : Lo (c_order_load_ s f) (order_load_ s f_') := by
  unfold c_order_load_ order_load_
  repeat' (first | with_reducible refine lo_sortG ?_ _ | exact h_f _ | with_reducible refine lo_bind4 ?_ ?_ ?_ ?_ ?_ | with_reducible refine lo_bind3 ?_ ?_ ?_ ?_ | with_reducible refine lo_bind2 ?_ ?_ ?_ | with_reducible refine lo_bind ?_ ?_ | with_reducible refine lo_cond ?_ ?_ | with_reducible refine lo_iter ?_ _ | (intro _) | with_reducible exact lo_refl _ | exact lo_none | (dsimp only))
def c_cmp_Or_int__l1 (vals : List Int) (t : Int) : Option (Int ⊕ (Int ⊕ Unit)) :=
  bif decide (t < (vals.length : Int)) then
    (idx vals t).bind fun x =>
    bif x != 0 then
      some (.inr (.inl x))
    else
      some (.inl (w64 (t + 1)))
  else
    some (.inr (.inr ()))
theorem le_cmp_Or_int__l1 (vals : List Int) (t : Int) : Lo (c_cmp_Or_int__l1 vals t) (cmp_Or_int__l1 vals t) := by
  unfold c_cmp_Or_int__l1 cmp_Or_int__l1
  repeat' (first | with_reducible refine lo_bind4 ?_ ?_ ?_ ?_ ?_ | with_reducible refine lo_bind3 ?_ ?_ ?_ ?_ | with_reducible refine lo_bind2 ?_ ?_ ?_ | with_reducible refine lo_bind ?_ ?_ | with_reducible refine lo_cond ?_ ?_ | with_reducible refine lo_iter ?_ _ | (intro _) | with_reducible exact lo_refl _ | exact lo_none | (dsimp only))
def c_cmp_Or_int_ (vals : List Int) : Option Int :=
  (itr 4096 (c_cmp_Or_int__l1 vals) 0).bind fun q0 =>
  match q0 with
  | .inl q =>
    some q
  | .inr _ =>
    some 0
theorem le_cmp_Or_int_ (vals : List Int) : Lo (c_cmp_Or_int_ vals) (cmp_Or_int_ vals) := by
  unfold c_cmp_Or_int_ cmp_Or_int_
  repeat' (first | with_reducible exact le_cmp_Or_int__l1 _ _ | with_reducible refine lo_bind4 ?_ ?_ ?_ ?_ ?_ | with_reducible refine lo_bind3 ?_ ?_ ?_ ?_ | with_reducible refine lo_bind2 ?_ ?_ ?_ | with_reducible refine lo_bind ?_ ?_ | with_reducible refine lo_cond ?_ ?_ | with_reducible refine lo_iter ?_ _ | (intro _) | with_reducible exact lo_refl _ | exact lo_none | (dsimp only))
def c_rvec_ratio_compare (r : Ratio) (q : Ratio) : Option Int :=
  (
    bif r.of == 0 then
      some (q.of == 0)
    else
      some false).bind fun q1 =>
  bif q1 then
    some 0
  else
    bif r.of == 0 then
      some 1
    else
      bif q.of == 0 then
        some (-1)
      else
        (c_bits_Mul64 r.n q.of).bind fun x =>
        (c_bits_Mul64 q.n r.of).bind fun x1 =>
        (
          bif decide (x.1 < x1.1) then
            some true
          else
            bif x.1 == x1.1 then
              some (decide (x.2 < x1.2))
            else
              some false).bind fun q2 =>
        bif q2 then
          some (-1)
        else
          (
            bif x.1 == x1.1 then
              some (x.2 == x1.2)
            else
              some false).bind fun q3 =>
          bif q3 then
            some 0
          else
            some 1
theorem le_rvec_ratio_compare (r : Ratio) (q : Ratio) : Lo (c_rvec_ratio_compare r q) (rvec_ratio_compare r q) := by
  unfold c_rvec_ratio_compare rvec_ratio_compare
  repeat' (first | with_reducible exact le_bits_Mul64 _ _ | with_reducible refine lo_bind4 ?_ ?_ ?_ ?_ ?_ | with_reducible refine lo_bind3 ?_ ?_ ?_ ?_ | with_reducible refine lo_bind2 ?_ ?_ ?_ | with_reducible refine lo_bind ?_ ?_ | with_reducible refine lo_cond ?_ ?_ | with_reducible refine lo_iter ?_ _ | (intro _) | with_reducible exact lo_refl _ | exact lo_none | (dsimp only))
def c_rvec_of (a : Vec) (p : Vec) (get : (TupT fam [.st 2] → Option Int)) : Option Ratio :=
  (get (a, ())).bind fun r =>
  (get (p, ())).bind fun r1 =>
  bif r == 0 then
    some (⟨0, 1⟩ : Ratio)
  else
    some (⟨IntKind.u64.wrap r, IntKind.u64.wrap r1⟩ : Ratio)
theorem le_rvec_of (a : Vec) (p : Vec) (get get_' : (TupT fam [.st 2] → Option Int)) (h_get : ∀ a, Lo (get a) (get_' a)) : Lo (c_rvec_of a p get) (rvec_of a p get_') := by
  unfold c_rvec_of rvec_of
  repeat' (first | exact h_get _ | with_reducible refine lo_bind4 ?_ ?_ ?_ ?_ ?_ | with_reducible refine lo_bind3 ?_ ?_ ?_ ?_ | with_reducible refine lo_bind2 ?_ ?_ ?_ | with_reducible refine lo_bind ?_ ?_ | with_reducible refine lo_cond ?_ ?_ | with_reducible refine lo_iter ?_ _ | (intro _) | with_reducible exact lo_refl _ | exact lo_none | (dsimp only))
def c_rvec_vec_mem (v : Vec) : Option Int :=
  some v.Mem
theorem le_rvec_vec_mem (v : Vec) : Lo (c_rvec_vec_mem v) (rvec_vec_mem v) := by
  unfold c_rvec_vec_mem rvec_vec_mem
  repeat' (first | with_reducible refine lo_bind4 ?_ ?_ ?_ ?_ ?_ | with_reducible refine lo_bind3 ?_ ?_ ?_ ?_ | with_reducible refine lo_bind2 ?_ ?_ ?_ | with_reducible refine lo_bind ?_ ?_ | with_reducible refine lo_cond ?_ ?_ | with_reducible refine lo_iter ?_ _ | (intro _) | with_reducible exact lo_refl _ | exact lo_none | (dsimp only))
def c_rvec_vec_cores (v : Vec) : Option Int :=
  some v.Cores
theorem le_rvec_vec_cores (v : Vec) : Lo (c_rvec_vec_cores v) (rvec_vec_cores v) := by
  unfold c_rvec_vec_cores rvec_vec_cores
  repeat' (first | with_reducible refine lo_bind4 ?_ ?_ ?_ ?_ ?_ | with_reducible refine lo_bind3 ?_ ?_ ?_ ?_ | with_reducible refine lo_bind2 ?_ ?_ ?_ | with_reducible refine lo_bind ?_ ?_ | with_reducible refine lo_cond ?_ ?_ | with_reducible refine lo_iter ?_ _ | (intro _) | with_reducible exact lo_refl _ | exact lo_none | (dsimp only))
def c_rvec_load (a : Vec) (p : Vec) : Option Ratio :=
  (c_rvec_of a p (fun a' => c_rvec_vec_mem a'.1)).bind fun x =>
  (c_rvec_of a p (fun a' => c_rvec_vec_cores a'.1)).bind fun x1 =>
  (c_rvec_ratio_compare x x1).bind fun x2 =>
  bif decide (x2 < 0) then
    some x1
  else
    some x
theorem le_rvec_load (a : Vec) (p : Vec) : Lo (c_rvec_load a p) (rvec_load a p) := by
  unfold c_rvec_load rvec_load
  repeat' (first | with_reducible refine le_rvec_of _ _ _ _ ?_ | with_reducible exact le_rvec_vec_mem _ | with_reducible exact le_rvec_vec_cores _ | with_reducible exact le_rvec_ratio_compare _ _ | with_reducible refine lo_bind4 ?_ ?_ ?_ ?_ ?_ | with_reducible refine lo_bind3 ?_ ?_ ?_ ?_ | with_reducible refine lo_bind2 ?_ ?_ ?_ | with_reducible refine lo_bind ?_ ?_ | with_reducible refine lo_cond ?_ ?_ | with_reducible refine lo_iter ?_ _ | (intro _) | with_reducible exact lo_refl _ | exact lo_none | (dsimp only))
def c_rvec_Order (a : Vec) (p : Vec) (b : Vec) (q : Vec) : Option Int :=
  (
    (c_rvec_vec_good a).bind fun x =>
    bif ! x then
      some true
    else
      (c_rvec_vec_good p).bind fun x1 =>
      bif ! x1 then
        some true
      else
        (c_rvec_vec_good b).bind fun x2 =>
        bif ! x2 then
          some true
        else
          (c_rvec_vec_good q).bind fun x3 =>
          some (! x3)).bind fun q1 =>
  bif q1 then
    some 0
  else
    (c_rvec_load a p).bind fun x4 =>
    (c_rvec_load b q).bind fun x5 =>
    (c_rvec_ratio_compare x4 x5).bind fun x6 =>
    some x6
theorem le_rvec_Order (a : Vec) (p : Vec) (b : Vec) (q : Vec) : Lo (c_rvec_Order a p b q) (rvec_Order a p b q) := by
  unfold c_rvec_Order rvec_Order
  repeat' (first | with_reducible exact le_rvec_vec_good _ | with_reducible exact le_rvec_load _ _ | with_reducible exact le_rvec_ratio_compare _ _ | with_reducible refine lo_bind4 ?_ ?_ ?_ ?_ ?_ | with_reducible refine lo_bind3 ?_ ?_ ?_ ?_ | with_reducible refine lo_bind2 ?_ ?_ ?_ | with_reducible refine lo_bind ?_ ?_ | with_reducible refine lo_cond ?_ ?_ | with_reducible refine lo_iter ?_ _ | (intro _) | with_reducible exact lo_refl _ | exact lo_none | (dsimp only))
def c_cmp_isNaN_string_ (x : List UInt8) : Option Bool :=
  some (! (x == x))
theorem le_cmp_isNaN_string_ (x : List UInt8) : Lo (c_cmp_isNaN_string_ x) (cmp_isNaN_string_ x) := by
  unfold c_cmp_isNaN_string_ cmp_isNaN_string_
  repeat' (first | with_reducible refine lo_bind4 ?_ ?_ ?_ ?_ ?_ | with_reducible refine lo_bind3 ?_ ?_ ?_ ?_ | with_reducible refine lo_bind2 ?_ ?_ ?_ | with_reducible refine lo_bind ?_ ?_ | with_reducible refine lo_cond ?_ ?_ | with_reducible refine lo_iter ?_ _ | (intro _) | with_reducible exact lo_refl _ | exact lo_none | (dsimp only))
def c_cmp_Compare_string_ (x : List UInt8) (y : List UInt8) : Option Int :=
  (c_cmp_isNaN_string_ x).bind fun xNaN =>
  (c_cmp_isNaN_string_ y).bind fun yNaN =>
  bif xNaN then
    bif yNaN then
      some 0
    else
      some (-1)
  else
    bif yNaN then
      some 1
    else
      bif Op.bytesLess x y then
        some (-1)
      else
        bif ! (strLe x y) then
          some 1
        else
          some 0
theorem le_cmp_Compare_string_ (x : List UInt8) (y : List UInt8) : Lo (c_cmp_Compare_string_ x y) (cmp_Compare_string_ x y) := by
  unfold c_cmp_Compare_string_ cmp_Compare_string_
  repeat' (first | with_reducible exact le_cmp_isNaN_string_ _ | with_reducible refine lo_bind4 ?_ ?_ ?_ ?_ ?_ | with_reducible refine lo_bind3 ?_ ?_ ?_ ?_ | with_reducible refine lo_bind2 ?_ ?_ ?_ | with_reducible refine lo_bind ?_ ?_ | with_reducible refine lo_cond ?_ ?_ | with_reducible refine lo_iter ?_ _ | (intro _) | with_reducible exact lo_refl _ | exact lo_none | (dsimp only))
def c_order_load_compare (a : Load) (b : Load) : Option Int :=
  (c_rvec_Order a.used a.least b.used b.least).bind fun x =>
  (c_cmp_Compare_string_ a.path b.path).bind fun x1 =>
  (c_cmp_Or_int_ [x, x1]).bind fun x2 =>
  some x2
theorem le_order_load_compare (a : Load) (b : Load) : Lo (c_order_load_compare a b) (order_load_compare a b) := by
  unfold c_order_load_compare order_load_compare
  repeat' (first | with_reducible exact le_rvec_Order _ _ _ _ | with_reducible exact le_cmp_Compare_string_ _ _ | with_reducible exact le_cmp_Or_int_ _ | with_reducible refine lo_bind4 ?_ ?_ ?_ ?_ ?_ | with_reducible refine lo_bind3 ?_ ?_ ?_ ?_ | with_reducible refine lo_bind2 ?_ ?_ ?_ | with_reducible refine lo_bind ?_ ?_ | with_reducible refine lo_cond ?_ ?_ | with_reducible refine lo_iter ?_ _ | (intro _) | with_reducible exact lo_refl _ | exact lo_none | (dsimp only))
def c_order_Kids_l2 (x4 : List Load) (t1 : List (List UInt8) × Int) : Option ((List (List UInt8) × Int) ⊕ List (List UInt8)) :=
  bif decide (t1.2 < (x4.length : Int)) then
    (inb t1.2 x4.length).bind fun i1 =>
    (x4[i1]?).bind fun x5 =>
    (inS t1.2 (t1.1.length : Int) t1.1.length).bind fun p =>
    some (.inl (cpy t1.1 p.1 p.2 [x5.path], w64 (t1.2 + 1)))
  else
    some (.inr t1.1)
theorem le_order_Kids_l2 (x4 : List Load) (t1 : List (List UInt8) × Int) : Lo (c_order_Kids_l2 x4 t1) (order_Kids_l2 x4 t1) := by
  unfold c_order_Kids_l2 order_Kids_l2
  repeat' (first | with_reducible refine lo_bind4 ?_ ?_ ?_ ?_ ?_ | with_reducible refine lo_bind3 ?_ ?_ ?_ ?_ | with_reducible refine lo_bind2 ?_ ?_ ?_ | with_reducible refine lo_bind ?_ ?_ | with_reducible refine lo_cond ?_ ?_ | with_reducible refine lo_iter ?_ _ | (intro _) | with_reducible exact lo_refl _ | exact lo_none | (dsimp only))
def c_order_Kids_l1 (s : State) (label : Int) (x : List (List UInt8)) (t : List Load × Int) : Option ((List Load × Int) ⊕ List Load) :=
  bif decide (t.2 < (x.length : Int)) then
    (inb t.2 x.length).bind fun i =>
    (x[i]?).bind fun x1 =>
    (c_qtree_Used s x1 label).bind fun x2 =>
    (c_share_Least s x1 label).bind fun x3 =>
    (app 48 t.1 [(⟨x1, ⟨x2.Mem, x2.Cores⟩, ⟨x3.Mem, x3.Cores⟩⟩ : Load)]).bind fun l =>
    some (.inl (l, w64 (t.2 + 1)))
  else
    some (.inr t.1)
theorem le_order_Kids_l1 (s : State) (label : Int) (x : List (List UInt8)) (t : List Load × Int) : Lo (c_order_Kids_l1 s label x t) (order_Kids_l1 s label x t) := by
  unfold c_order_Kids_l1 order_Kids_l1
  repeat' (first | with_reducible exact le_qtree_Used _ _ _ | with_reducible exact le_share_Least _ _ _ | with_reducible refine lo_bind4 ?_ ?_ ?_ ?_ ?_ | with_reducible refine lo_bind3 ?_ ?_ ?_ ?_ | with_reducible refine lo_bind2 ?_ ?_ ?_ | with_reducible refine lo_bind ?_ ?_ | with_reducible refine lo_cond ?_ ?_ | with_reducible refine lo_iter ?_ _ | (intro _) | with_reducible exact lo_refl _ | exact lo_none | (dsimp only))
def c_order_Kids (s : State) (path : List UInt8) (label : Int) : Option (List (List UInt8)) :=
  (c_rule_Kids s.Conf path).bind fun x =>
  (itr 4096 (c_order_Kids_l1 s label x) ([], 0)).bind fun l1 =>
  (c_order_load_ l1 (fun a' => c_order_load_compare a'.1 a'.2.1)).bind fun x4 =>
  (mkl 16 (x4.length : Int) (x4.length : Int) []).bind fun l2 =>
  (itr 4096 (c_order_Kids_l2 x4) (l2, 0)).bind fun out =>
  some out
theorem le_order_Kids (s : State) (path : List UInt8) (label : Int) : Lo (c_order_Kids s path label) (order_Kids s path label) := by
  unfold c_order_Kids order_Kids
  repeat' (first | with_reducible exact le_rule_Kids _ _ | with_reducible exact le_order_Kids_l1 _ _ _ _ | with_reducible refine le_order_load_ _ _ _ ?_ | with_reducible exact le_order_load_compare _ _ | with_reducible exact le_order_Kids_l2 _ _ | with_reducible refine lo_bind4 ?_ ?_ ?_ ?_ ?_ | with_reducible refine lo_bind3 ?_ ?_ ?_ ?_ | with_reducible refine lo_bind2 ?_ ?_ ?_ | with_reducible refine lo_bind ?_ ?_ | with_reducible refine lo_cond ?_ ?_ | with_reducible refine lo_iter ?_ _ | (intro _) | with_reducible exact lo_refl _ | exact lo_none | (dsimp only))
def c_order_below_s_l1 (s : State) (label : Int) (deep : Int) (self : State → (List UInt8) → Int → Int → Option (List (List UInt8))) (kids : List (List UInt8)) (t : List (List UInt8) × Int) : Option ((List (List UInt8) × Int) ⊕ List (List UInt8)) :=
  bif decide (t.2 < (kids.length : Int)) then
    (inb t.2 kids.length).bind fun i =>
    (kids[i]?).bind fun x =>
    (self s x label (w64 (deep + 1))).bind fun x1 =>
    (app 16 t.1 x1).bind fun l =>
    some (.inl (l, w64 (t.2 + 1)))
  else
    some (.inr t.1)
theorem le_order_below_s_l1 (s : State) (label : Int) (deep : Int) (self self_' : State → (List UInt8) → Int → Int → Option (List (List UInt8))) (h_self : ∀ (a0 : State) (a1 : (List UInt8)) (a2 : Int) (a3 : Int), Lo (self a0 a1 a2 a3) (self_' a0 a1 a2 a3)) (kids : List (List UInt8)) (t : List (List UInt8) × Int) : Lo (c_order_below_s_l1 s label deep self kids t) (order_below_s_l1 s label deep self_' kids t) := by
  unfold c_order_below_s_l1 order_below_s_l1
  repeat' (first | with_reducible refine h_self _ _ _ _ | with_reducible refine lo_bind4 ?_ ?_ ?_ ?_ ?_ | with_reducible refine lo_bind3 ?_ ?_ ?_ ?_ | with_reducible refine lo_bind2 ?_ ?_ ?_ | with_reducible refine lo_bind ?_ ?_ | with_reducible refine lo_cond ?_ ?_ | with_reducible refine lo_iter ?_ _ | (intro _) | with_reducible exact lo_refl _ | exact lo_none | (dsimp only))
def c_order_below_s (self : State → (List UInt8) → Int → Int → Option (List (List UInt8))) (s : State) (path : List UInt8) (label : Int) (deep : Int) : Option (List (List UInt8)) :=
  (c_order_Kids s path label).bind fun kids =>
  (
    bif (kids.length : Int) == 0 then
      some true
    else
      some (decide (deep > 4))).bind fun q =>
  bif q then
    some [path]
  else
    (itr 4096 (c_order_below_s_l1 s label deep self kids) ([], 0)).bind fun out =>
    some out
theorem le_order_below_s (self self_' : State → (List UInt8) → Int → Int → Option (List (List UInt8))) (h_self : ∀ (a0 : State) (a1 : (List UInt8)) (a2 : Int) (a3 : Int), Lo (self a0 a1 a2 a3) (self_' a0 a1 a2 a3)) (s : State) (path : List UInt8) (label : Int) (deep : Int) : Lo (c_order_below_s self s path label deep) (order_below_s self_' s path label deep) := by
  unfold c_order_below_s order_below_s
  repeat' (first | with_reducible exact le_order_Kids _ _ _ | with_reducible refine le_order_below_s_l1 _ _ _ _ _ ?_ _ _ | with_reducible refine h_self _ _ _ _ | with_reducible refine lo_bind4 ?_ ?_ ?_ ?_ ?_ | with_reducible refine lo_bind3 ?_ ?_ ?_ ?_ | with_reducible refine lo_bind2 ?_ ?_ ?_ | with_reducible refine lo_bind ?_ ?_ | with_reducible refine lo_cond ?_ ?_ | with_reducible refine lo_iter ?_ _ | (intro _) | with_reducible exact lo_refl _ | exact lo_none | (dsimp only))
def c_order_below_r : Nat → State → (List UInt8) → Int → Int → Option (List (List UInt8))
  | 0 => fun _ _ _ _ => none
  | n + 1 => c_order_below_s (c_order_below_r n)
theorem le_order_below_r : ∀ (n : Nat), ∀ (a0 : State) (a1 : List UInt8) (a2 : Int) (a3 : Int), Lo (c_order_below_r n a0 a1 a2 a3) (order_below_r n a0 a1 a2 a3)
  | 0 => fun _ _ _ _ => lo_none
  | n + 1 => fun a0 a1 a2 a3 => le_order_below_s (c_order_below_r n) (order_below_r n) (le_order_below_r n) a0 a1 a2 a3
def c_order_below (a0 : State) (a1 : List UInt8) (a2 : Int) (a3 : Int) : Option (List (List UInt8)) := c_order_below_r 64 a0 a1 a2 a3
theorem le_order_below (a0 : State) (a1 : List UInt8) (a2 : Int) (a3 : Int) : Lo (c_order_below a0 a1 a2 a3) (order_below a0 a1 a2 a3) := by
  unfold c_order_below order_below
  repeat' (first | with_reducible refine le_order_below_r _ _ _ _ _ | with_reducible refine lo_bind4 ?_ ?_ ?_ ?_ ?_ | with_reducible refine lo_bind3 ?_ ?_ ?_ ?_ | with_reducible refine lo_bind2 ?_ ?_ ?_ | with_reducible refine lo_bind ?_ ?_ | with_reducible refine lo_cond ?_ ?_ | with_reducible refine lo_iter ?_ _ | (intro _) | with_reducible exact lo_refl _ | exact lo_none | (dsimp only))
def c_order_Leaves (s : State) (label : Int) : Option (List (List UInt8)) :=
  (c_order_below s ([114, 111, 111, 116] : List UInt8) label 1).bind fun x =>
  some x
theorem le_order_Leaves (s : State) (label : Int) : Lo (c_order_Leaves s label) (order_Leaves s label) := by
  unfold c_order_Leaves order_Leaves
  repeat' (first | with_reducible exact le_order_below _ _ _ _ | with_reducible refine lo_bind4 ?_ ?_ ?_ ?_ ?_ | with_reducible refine lo_bind3 ?_ ?_ ?_ ?_ | with_reducible refine lo_bind2 ?_ ?_ ?_ | with_reducible refine lo_bind ?_ ?_ | with_reducible refine lo_cond ?_ ?_ | with_reducible refine lo_iter ?_ _ | (intro _) | with_reducible exact lo_refl _ | exact lo_none | (dsimp only))
def c_api_App__169_l2 (a : Int) (cmp : (TupT fam [.st 8, .st 8] → Option Int)) (t1 : List App × Int) : Option ((List App × Int) ⊕ List App) :=
  (
    bif decide (t1.2 > a) then
      (inb t1.2 t1.1.length).bind fun i =>
      (t1.1[i]?).bind fun x =>
      (inb (w64 (t1.2 - 1)) t1.1.length).bind fun i1 =>
      (t1.1[i1]?).bind fun x1 =>
      (cmp (x, x1, ())).bind fun r =>
      some (decide (r < 0))
    else
      some false).bind fun q =>
  bif q then
    (inb (w64 (t1.2 - 1)) t1.1.length).bind fun i2 =>
    (t1.1[i2]?).bind fun x2 =>
    (inb t1.2 t1.1.length).bind fun i3 =>
    (t1.1[i3]?).bind fun x3 =>
    (inb t1.2 t1.1.length).bind fun i4 =>
    (t1.1[i4]?).bind fun x4 =>
    (inb (w64 (t1.2 - 1)) (List.set t1.1 i4 x2).length).bind fun i5 =>
    ((List.set t1.1 i4 x2)[i5]?).bind fun x5 =>
    some (.inl (List.set (List.set t1.1 i4 x2) i5 x3, w64 (t1.2 - 1)))
  else
    some (.inr t1.1)
theorem le_api_App__169_l2 (a : Int) (cmp cmp_' : (TupT fam [.st 8, .st 8] → Option Int)) (h_cmp : ∀ a, Lo (cmp a) (cmp_' a)) (t1 : List App × Int) : Lo (c_api_App__169_l2 a cmp t1) (api_App__169_l2 a cmp_' t1) := by
  unfold c_api_App__169_l2 api_App__169_l2
  repeat' (first | exact h_cmp _ | with_reducible refine lo_bind4 ?_ ?_ ?_ ?_ ?_ | with_reducible refine lo_bind3 ?_ ?_ ?_ ?_ | with_reducible refine lo_bind2 ?_ ?_ ?_ | with_reducible refine lo_bind ?_ ?_ | with_reducible refine lo_cond ?_ ?_ | with_reducible refine lo_iter ?_ _ | (intro _) | with_reducible exact lo_refl _ | exact lo_none | (dsimp only))
def c_api_App__169_l1 (a : Int) (b : Int) (cmp : (TupT fam [.st 8, .st 8] → Option Int)) (t : List App × Int) : Option ((List App × Int) ⊕ List App) :=
  bif decide (t.2 < b) then
    (itr 4096 (c_api_App__169_l2 a cmp) (t.1, t.2)).bind fun data1 =>
    some (.inl (data1, w64 (t.2 + 1)))
  else
    some (.inr t.1)
theorem le_api_App__169_l1 (a : Int) (b : Int) (cmp cmp_' : (TupT fam [.st 8, .st 8] → Option Int)) (h_cmp : ∀ a, Lo (cmp a) (cmp_' a)) (t : List App × Int) : Lo (c_api_App__169_l1 a b cmp t) (api_App__169_l1 a b cmp_' t) := by
  unfold c_api_App__169_l1 api_App__169_l1
  repeat' (first | with_reducible refine le_api_App__169_l2 _ _ _ ?_ _ | exact h_cmp _ | with_reducible refine lo_bind4 ?_ ?_ ?_ ?_ ?_ | with_reducible refine lo_bind3 ?_ ?_ ?_ ?_ | with_reducible refine lo_bind2 ?_ ?_ ?_ | with_reducible refine lo_bind ?_ ?_ | with_reducible refine lo_cond ?_ ?_ | with_reducible refine lo_iter ?_ _ | (intro _) | with_reducible exact lo_refl _ | exact lo_none | (dsimp only))
def c_api_App__169 (data : List App) (a : Int) (b : Int) (cmp : (TupT fam [.st 8, .st 8] → Option Int)) : Option (List App) :=
  (itr 4096 (c_api_App__169_l1 a b cmp) (data, w64 (a + 1))).bind fun data2 =>
  some data2
theorem le_api_App__169 (data : List App) (a : Int) (b : Int) (cmp cmp_' : (TupT fam [.st 8, .st 8] → Option Int)) (h_cmp : ∀ a, Lo (cmp a) (cmp_' a)) : Lo (c_api_App__169 data a b cmp) (api_App__169 data a b cmp_') := by
  unfold c_api_App__169 api_App__169
  repeat' (first | with_reducible refine le_api_App__169_l1 _ _ _ _ ?_ _ | exact h_cmp _ | with_reducible refine lo_bind4 ?_ ?_ ?_ ?_ ?_ | with_reducible refine lo_bind3 ?_ ?_ ?_ ?_ | with_reducible refine lo_bind2 ?_ ?_ ?_ | with_reducible refine lo_bind ?_ ?_ | with_reducible refine lo_cond ?_ ?_ | with_reducible refine lo_iter ?_ _ | (intro _) | with_reducible exact lo_refl _ | exact lo_none | (dsimp only))
def c_api_App__204_l1 (a : Int) (b : Int) (n : Int) (t : List App × Int) : Option ((List App × Int) ⊕ List App) :=
  bif decide (t.2 < n) then
    (inb (w64 (b + t.2)) t.1.length).bind fun i =>
    (t.1[i]?).bind fun x =>
    (inb (w64 (a + t.2)) t.1.length).bind fun i1 =>
    (t.1[i1]?).bind fun x1 =>
    (inb (w64 (a + t.2)) t.1.length).bind fun i2 =>
    (t.1[i2]?).bind fun x2 =>
    (inb (w64 (b + t.2)) (List.set t.1 i2 x).length).bind fun i3 =>
    ((List.set t.1 i2 x)[i3]?).bind fun x3 =>
    some (.inl (List.set (List.set t.1 i2 x) i3 x1, w64 (t.2 + 1)))
  else
    some (.inr t.1)
theorem le_api_App__204_l1 (a : Int) (b : Int) (n : Int) (t : List App × Int) : Lo (c_api_App__204_l1 a b n t) (api_App__204_l1 a b n t) := by
  unfold c_api_App__204_l1 api_App__204_l1
  repeat' (first | with_reducible refine lo_bind4 ?_ ?_ ?_ ?_ ?_ | with_reducible refine lo_bind3 ?_ ?_ ?_ ?_ | with_reducible refine lo_bind2 ?_ ?_ ?_ | with_reducible refine lo_bind ?_ ?_ | with_reducible refine lo_cond ?_ ?_ | with_reducible refine lo_iter ?_ _ | (intro _) | with_reducible exact lo_refl _ | exact lo_none | (dsimp only))
def c_api_App__204 (data : List App) (a : Int) (b : Int) (n : Int) (cmp : (TupT fam [.st 8, .st 8] → Option Int)) : Option (List App) :=
  (itr 4096 (c_api_App__204_l1 a b n) (data, 0)).bind fun data1 =>
  some data1
theorem le_api_App__204 (data : List App) (a : Int) (b : Int) (n : Int) (cmp cmp_' : (TupT fam [.st 8, .st 8] → Option Int)) (h_cmp : ∀ a, Lo (cmp a) (cmp_' a)) : Lo (c_api_App__204 data a b n cmp) (api_App__204 data a b n cmp_') := by
  unfold c_api_App__204 api_App__204
  repeat' (first | with_reducible exact le_api_App__204_l1 _ _ _ _ | exact h_cmp _ | with_reducible refine lo_bind4 ?_ ?_ ?_ ?_ ?_ | with_reducible refine lo_bind3 ?_ ?_ ?_ ?_ | with_reducible refine lo_bind2 ?_ ?_ ?_ | with_reducible refine lo_bind ?_ ?_ | with_reducible refine lo_cond ?_ ?_ | with_reducible refine lo_iter ?_ _ | (intro _) | with_reducible exact lo_refl _ | exact lo_none | (dsimp only))
def c_api_App__191_l1 (m : Int) (cmp : (TupT fam [.st 8, .st 8] → Option Int)) (t : List App × Int × Int) : Option ((List App × Int × Int) ⊕ ((List App × Int))) :=
  bif t.2.1 != t.2.2 then
    bif decide (t.2.1 > t.2.2) then
      (c_api_App__204 t.1 (w64 (m - t.2.1)) m t.2.2 cmp).bind fun x =>
      let i := w64 (t.2.1 - t.2.2)
      some (.inl (x, i, t.2.2))
    else
      (c_api_App__204 t.1 (w64 (m - t.2.1)) (w64 ((w64 (m + t.2.2)) - t.2.1)) t.2.1 cmp).bind fun x1 =>
      let j := w64 (t.2.2 - t.2.1)
      some (.inl (x1, t.2.1, j))
  else
    some (.inr (t.1, t.2.1))
theorem le_api_App__191_l1 (m : Int) (cmp cmp_' : (TupT fam [.st 8, .st 8] → Option Int)) (h_cmp : ∀ a, Lo (cmp a) (cmp_' a)) (t : List App × Int × Int) : Lo (c_api_App__191_l1 m cmp t) (api_App__191_l1 m cmp_' t) := by
  unfold c_api_App__191_l1 api_App__191_l1
  repeat' (first | with_reducible refine le_api_App__204 _ _ _ _ _ _ ?_ | exact h_cmp _ | with_reducible refine lo_bind4 ?_ ?_ ?_ ?_ ?_ | with_reducible refine lo_bind3 ?_ ?_ ?_ ?_ | with_reducible refine lo_bind2 ?_ ?_ ?_ | with_reducible refine lo_bind ?_ ?_ | with_reducible refine lo_cond ?_ ?_ | with_reducible refine lo_iter ?_ _ | (intro _) | with_reducible exact lo_refl _ | exact lo_none | (dsimp only))
def c_api_App__191 (data : List App) (a : Int) (m : Int) (b : Int) (cmp : (TupT fam [.st 8, .st 8] → Option Int)) : Option (List App) :=
  (itr 4096 (c_api_App__191_l1 m cmp) (data, w64 (m - a), w64 (b - m))).bind fun q =>
  (c_api_App__204 q.1 (w64 (m - q.2)) m q.2 cmp).bind fun x2 =>
  some x2
theorem le_api_App__191 (data : List App) (a : Int) (m : Int) (b : Int) (cmp cmp_' : (TupT fam [.st 8, .st 8] → Option Int)) (h_cmp : ∀ a, Lo (cmp a) (cmp_' a)) : Lo (c_api_App__191 data a m b cmp) (api_App__191 data a m b cmp_') := by
  unfold c_api_App__191 api_App__191
  repeat' (first | with_reducible refine le_api_App__191_l1 _ _ _ ?_ _ | with_reducible refine le_api_App__204 _ _ _ _ _ _ ?_ | exact h_cmp _ | with_reducible refine lo_bind4 ?_ ?_ ?_ ?_ ?_ | with_reducible refine lo_bind3 ?_ ?_ ?_ ?_ | with_reducible refine lo_bind2 ?_ ?_ ?_ | with_reducible refine lo_bind ?_ ?_ | with_reducible refine lo_cond ?_ ?_ | with_reducible refine lo_iter ?_ _ | (intro _) | with_reducible exact lo_refl _ | exact lo_none | (dsimp only))
def c_api_App__170_s_l5 (data : List App) (cmp : (TupT fam [.st 8, .st 8] → Option Int)) (p : Int) (t4 : Int × Int) : Option ((Int × Int) ⊕ Int) :=
  bif decide (t4.1 < t4.2) then
    let c := w64 (shrK .u64 (IntKind.u64.wrap (w64 (t4.1 + t4.2))) 1)
    (inb (w64 (p - c)) data.length).bind fun i14 =>
    (data[i14]?).bind fun x12 =>
    (inb c data.length).bind fun i15 =>
    (data[i15]?).bind fun x13 =>
    (cmp (x12, x13, ())).bind fun r2 =>
    bif ! (decide (r2 < 0)) then
      some (.inl (w64 (c + 1), t4.2))
    else
      some (.inl (t4.1, c))
  else
    some (.inr t4.1)
theorem le_api_App__170_s_l5 (data : List App) (cmp cmp_' : (TupT fam [.st 8, .st 8] → Option Int)) (h_cmp : ∀ a, Lo (cmp a) (cmp_' a)) (p : Int) (t4 : Int × Int) : Lo (c_api_App__170_s_l5 data cmp p t4) (api_App__170_s_l5 data cmp_' p t4) := by
  unfold c_api_App__170_s_l5 api_App__170_s_l5
  repeat' (first | exact h_cmp _ | with_reducible refine lo_bind4 ?_ ?_ ?_ ?_ ?_ | with_reducible refine lo_bind3 ?_ ?_ ?_ ?_ | with_reducible refine lo_bind2 ?_ ?_ ?_ | with_reducible refine lo_bind ?_ ?_ | with_reducible refine lo_cond ?_ ?_ | with_reducible refine lo_iter ?_ _ | (intro _) | with_reducible exact lo_refl _ | exact lo_none | (dsimp only))
def c_api_App__170_s_l4 (i9 : Int) (t3 : List App × Int) : Option ((List App × Int) ⊕ List App) :=
  bif decide (t3.2 > i9) then
    (inb (w64 (t3.2 - 1)) t3.1.length).bind fun i10 =>
    (t3.1[i10]?).bind fun x8 =>
    (inb t3.2 t3.1.length).bind fun i11 =>
    (t3.1[i11]?).bind fun x9 =>
    (inb t3.2 t3.1.length).bind fun i12 =>
    (t3.1[i12]?).bind fun x10 =>
    (inb (w64 (t3.2 - 1)) (List.set t3.1 i12 x8).length).bind fun i13 =>
    ((List.set t3.1 i12 x8)[i13]?).bind fun x11 =>
    some (.inl (List.set (List.set t3.1 i12 x8) i13 x9, w64 (t3.2 - 1)))
  else
    some (.inr t3.1)
theorem le_api_App__170_s_l4 (i9 : Int) (t3 : List App × Int) : Lo (c_api_App__170_s_l4 i9 t3) (api_App__170_s_l4 i9 t3) := by
  unfold c_api_App__170_s_l4 api_App__170_s_l4
  repeat' (first | with_reducible refine lo_bind4 ?_ ?_ ?_ ?_ ?_ | with_reducible refine lo_bind3 ?_ ?_ ?_ ?_ | with_reducible refine lo_bind2 ?_ ?_ ?_ | with_reducible refine lo_bind ?_ ?_ | with_reducible refine lo_cond ?_ ?_ | with_reducible refine lo_iter ?_ _ | (intro _) | with_reducible exact lo_refl _ | exact lo_none | (dsimp only))
def c_api_App__170_s_l3 (data : List App) (m : Int) (cmp : (TupT fam [.st 8, .st 8] → Option Int)) (t2 : Int × Int) : Option ((Int × Int) ⊕ Int) :=
  bif decide (t2.1 < t2.2) then
    let h1 := w64 (shrK .u64 (IntKind.u64.wrap (w64 (t2.1 + t2.2))) 1)
    (inb m data.length).bind fun i7 =>
    (data[i7]?).bind fun x6 =>
    (inb h1 data.length).bind fun i8 =>
    (data[i8]?).bind fun x7 =>
    (cmp (x6, x7, ())).bind fun r1 =>
    bif ! (decide (r1 < 0)) then
      some (.inl (w64 (h1 + 1), t2.2))
    else
      some (.inl (t2.1, h1))
  else
    some (.inr t2.1)
theorem le_api_App__170_s_l3 (data : List App) (m : Int) (cmp cmp_' : (TupT fam [.st 8, .st 8] → Option Int)) (h_cmp : ∀ a, Lo (cmp a) (cmp_' a)) (t2 : Int × Int) : Lo (c_api_App__170_s_l3 data m cmp t2) (api_App__170_s_l3 data m cmp_' t2) := by
  unfold c_api_App__170_s_l3 api_App__170_s_l3
  repeat' (first | exact h_cmp _ | with_reducible refine lo_bind4 ?_ ?_ ?_ ?_ ?_ | with_reducible refine lo_bind3 ?_ ?_ ?_ ?_ | with_reducible refine lo_bind2 ?_ ?_ ?_ | with_reducible refine lo_bind ?_ ?_ | with_reducible refine lo_cond ?_ ?_ | with_reducible refine lo_iter ?_ _ | (intro _) | with_reducible exact lo_refl _ | exact lo_none | (dsimp only))
def c_api_App__170_s_l2 (i2 : Int) (t1 : List App × Int) : Option ((List App × Int) ⊕ List App) :=
  bif decide (t1.2 < (w64 (i2 - 1))) then
    (inb (w64 (t1.2 + 1)) t1.1.length).bind fun i3 =>
    (t1.1[i3]?).bind fun x2 =>
    (inb t1.2 t1.1.length).bind fun i4 =>
    (t1.1[i4]?).bind fun x3 =>
    (inb t1.2 t1.1.length).bind fun i5 =>
    (t1.1[i5]?).bind fun x4 =>
    (inb (w64 (t1.2 + 1)) (List.set t1.1 i5 x2).length).bind fun i6 =>
    ((List.set t1.1 i5 x2)[i6]?).bind fun x5 =>
    some (.inl (List.set (List.set t1.1 i5 x2) i6 x3, w64 (t1.2 + 1)))
  else
    some (.inr t1.1)
theorem le_api_App__170_s_l2 (i2 : Int) (t1 : List App × Int) : Lo (c_api_App__170_s_l2 i2 t1) (api_App__170_s_l2 i2 t1) := by
  unfold c_api_App__170_s_l2 api_App__170_s_l2
  repeat' (first | with_reducible refine lo_bind4 ?_ ?_ ?_ ?_ ?_ | with_reducible refine lo_bind3 ?_ ?_ ?_ ?_ | with_reducible refine lo_bind2 ?_ ?_ ?_ | with_reducible refine lo_bind ?_ ?_ | with_reducible refine lo_cond ?_ ?_ | with_reducible refine lo_iter ?_ _ | (intro _) | with_reducible exact lo_refl _ | exact lo_none | (dsimp only))
def c_api_App__170_s_l1 (data : List App) (a : Int) (cmp : (TupT fam [.st 8, .st 8] → Option Int)) (t : Int × Int) : Option ((Int × Int) ⊕ Int) :=
  bif decide (t.1 < t.2) then
    let h := w64 (shrK .u64 (IntKind.u64.wrap (w64 (t.1 + t.2))) 1)
    (inb h data.length).bind fun i =>
    (data[i]?).bind fun x =>
    (inb a data.length).bind fun i1 =>
    (data[i1]?).bind fun x1 =>
    (cmp (x, x1, ())).bind fun r =>
    bif decide (r < 0) then
      some (.inl (w64 (h + 1), t.2))
    else
      some (.inl (t.1, h))
  else
    some (.inr t.1)
theorem le_api_App__170_s_l1 (data : List App) (a : Int) (cmp cmp_' : (TupT fam [.st 8, .st 8] → Option Int)) (h_cmp : ∀ a, Lo (cmp a) (cmp_' a)) (t : Int × Int) : Lo (c_api_App__170_s_l1 data a cmp t) (api_App__170_s_l1 data a cmp_' t) := by
  unfold c_api_App__170_s_l1 api_App__170_s_l1
  repeat' (first | exact h_cmp _ | with_reducible refine lo_bind4 ?_ ?_ ?_ ?_ ?_ | with_reducible refine lo_bind3 ?_ ?_ ?_ ?_ | with_reducible refine lo_bind2 ?_ ?_ ?_ | with_reducible refine lo_bind ?_ ?_ | with_reducible refine lo_cond ?_ ?_ | with_reducible refine lo_iter ?_ _ | (intro _) | with_reducible exact lo_refl _ | exact lo_none | (dsimp only))
def c_api_App__170_s (self : (List App) → Int → Int → Int → ((TupT fam [.st 8, .st 8] → Option Int)) → Option (List App)) (data : List App) (a : Int) (m : Int) (b : Int) (cmp : (TupT fam [.st 8, .st 8] → Option Int)) : Option (List App) :=
  bif (w64 (m - a)) == 1 then
    (itr 4096 (c_api_App__170_s_l1 data a cmp) (m, b)).bind fun i2 =>
    (itr 4096 (c_api_App__170_s_l2 i2) (data, a)).bind fun data1 =>
    some data1
  else
    bif (w64 (b - m)) == 1 then
      (itr 4096 (c_api_App__170_s_l3 data m cmp) (a, m)).bind fun i9 =>
      (itr 4096 (c_api_App__170_s_l4 i9) (data, m)).bind fun data2 =>
      some data2
    else
      let mid := w64 (shrK .u64 (IntKind.u64.wrap (w64 (a + b))) 1)
      (
        bif decide (m > mid) then
          let start := w64 ((w64 (mid + m)) - b)
          some (start, mid)
        else
          some (a, m)).bind fun q =>
      let p := w64 ((w64 (mid + m)) - 1)
      (itr 4096 (c_api_App__170_s_l5 data cmp p) (q.1, q.2)).bind fun start1 =>
      let end_ := w64 ((w64 (mid + m)) - start1)
      (
        (
          bif decide (start1 < m) then
            some (decide (m < end_))
          else
            some false).bind fun q1 =>
        bif q1 then
          (c_api_App__191 data start1 m end_ cmp).bind fun x14 =>
          some x14
        else
          some data).bind fun data3 =>
      (
        (
          bif decide (a < start1) then
            some (decide (start1 < mid))
          else
            some false).bind fun q2 =>
        bif q2 then
          (self data3 a start1 mid cmp).bind fun x15 =>
          some x15
        else
          some data3).bind fun data4 =>
      (
        bif decide (mid < end_) then
          some (decide (end_ < b))
        else
          some false).bind fun q3 =>
      bif q3 then
        (self data4 mid end_ b cmp).bind fun x16 =>
        some x16
      else
        some data4
theorem le_api_App__170_s (self self_' : (List App) → Int → Int → Int → ((TupT fam [.st 8, .st 8] → Option Int)) → Option (List App)) (h_self : ∀ (a0 : (List App)) (a1 : Int) (a2 : Int) (a3 : Int) (a4 a4_ : ((TupT fam [.st 8, .st 8] → Option Int))) (_ : ∀ y, Lo (a4 y) (a4_ y)), Lo (self a0 a1 a2 a3 a4) (self_' a0 a1 a2 a3 a4_)) (data : List App) (a : Int) (m : Int) (b : Int) (cmp cmp_' : (TupT fam [.st 8, .st 8] → Option Int)) (h_cmp : ∀ a, Lo (cmp a) (cmp_' a)) : Lo (c_api_App__170_s self data a m b cmp) (api_App__170_s self_' data a m b cmp_') := by
  unfold c_api_App__170_s api_App__170_s
  repeat' (first | with_reducible refine le_api_App__170_s_l1 _ _ _ _ ?_ _ | with_reducible exact le_api_App__170_s_l2 _ _ | with_reducible refine le_api_App__170_s_l3 _ _ _ _ ?_ _ | with_reducible exact le_api_App__170_s_l4 _ _ | with_reducible refine le_api_App__170_s_l5 _ _ _ ?_ _ _ | with_reducible refine le_api_App__191 _ _ _ _ _ _ ?_ | with_reducible refine h_self _ _ _ _ _ _ ?_ | exact h_cmp _ | with_reducible refine lo_bind4 ?_ ?_ ?_ ?_ ?_ | with_reducible refine lo_bind3 ?_ ?_ ?_ ?_ | with_reducible refine lo_bind2 ?_ ?_ ?_ | with_reducible refine lo_bind ?_ ?_ | with_reducible refine lo_cond ?_ ?_ | with_reducible refine lo_iter ?_ _ | (intro _) | with_reducible exact lo_refl _ | exact lo_none | (dsimp only))
def c_api_App__170_r : Nat → (List App) → Int → Int → Int → ((TupT fam [.st 8, .st 8] → Option Int)) → Option (List App)
  | 0 => fun _ _ _ _ _ => none
  | n + 1 => c_api_App__170_s (c_api_App__170_r n)
theorem le_api_App__170_r : ∀ (n : Nat), ∀ (a0 : List App) (a1 : Int) (a2 : Int) (a3 : Int) (a4 a4_ : (TupT fam [.st 8, .st 8] → Option Int)) (_ : ∀ y, Lo (a4 y) (a4_ y)), Lo (c_api_App__170_r n a0 a1 a2 a3 a4) (api_App__170_r n a0 a1 a2 a3 a4_)
  | 0 => fun _ _ _ _ _ _ _ => lo_none
  | n + 1 => fun a0 a1 a2 a3 a4 a4_ h4 => le_api_App__170_s (c_api_App__170_r n) (api_App__170_r n) (le_api_App__170_r n) a0 a1 a2 a3 a4 a4_ h4
def c_api_App__170 (a0 : List App) (a1 : Int) (a2 : Int) (a3 : Int) (a4 : (TupT fam [.st 8, .st 8] → Option Int)) : Option (List App) := c_api_App__170_r 64 a0 a1 a2 a3 a4
theorem le_api_App__170 (a0 : List App) (a1 : Int) (a2 : Int) (a3 : Int) (a4 a4_' : (TupT fam [.st 8, .st 8] → Option Int)) (h_a4 : ∀ a, Lo (a4 a) (a4_' a)) : Lo (c_api_App__170 a0 a1 a2 a3 a4) (api_App__170 a0 a1 a2 a3 a4_') := by
  unfold c_api_App__170 api_App__170
  repeat' (first | with_reducible refine le_api_App__170_r _ _ _ _ _ _ _ ?_ | exact h_a4 _ | with_reducible refine lo_bind4 ?_ ?_ ?_ ?_ ?_ | with_reducible refine lo_bind3 ?_ ?_ ?_ ?_ | with_reducible refine lo_bind2 ?_ ?_ ?_ | with_reducible refine lo_bind ?_ ?_ | with_reducible refine lo_cond ?_ ?_ | with_reducible refine lo_iter ?_ _ | (intro _) | with_reducible exact lo_refl _ | exact lo_none | (dsimp only))
def c_api_App__152_l3 (n : Int) (cmp : (TupT fam [.st 8, .st 8] → Option Int)) (t1 : List App × Int) (t2 : List App × Int × Int) : Option ((List App × Int × Int) ⊕ ((List App × Int))) :=
  bif decide (t2.2.2 ≤ n) then
    (c_api_App__170 t2.1 t2.2.1 (w64 (t2.2.1 + t1.2)) t2.2.2 cmp).bind fun x2 =>
    let b := w64 (t2.2.2 + (w64 (2 * t1.2)))
    some (.inl (x2, t2.2.2, b))
  else
    some (.inr (t2.1, t2.2.1))
theorem le_api_App__152_l3 (n : Int) (cmp cmp_' : (TupT fam [.st 8, .st 8] → Option Int)) (h_cmp : ∀ a, Lo (cmp a) (cmp_' a)) (t1 : List App × Int) (t2 : List App × Int × Int) : Lo (c_api_App__152_l3 n cmp t1 t2) (api_App__152_l3 n cmp_' t1 t2) := by
  unfold c_api_App__152_l3 api_App__152_l3
  repeat' (first | with_reducible refine le_api_App__170 _ _ _ _ _ _ ?_ | exact h_cmp _ | with_reducible refine lo_bind4 ?_ ?_ ?_ ?_ ?_ | with_reducible refine lo_bind3 ?_ ?_ ?_ ?_ | with_reducible refine lo_bind2 ?_ ?_ ?_ | with_reducible refine lo_bind ?_ ?_ | with_reducible refine lo_cond ?_ ?_ | with_reducible refine lo_iter ?_ _ | (intro _) | with_reducible exact lo_refl _ | exact lo_none | (dsimp only))
def c_api_App__152_l2 (n : Int) (cmp : (TupT fam [.st 8, .st 8] → Option Int)) (t1 : List App × Int) : Option ((List App × Int) ⊕ List App) :=
  bif decide (t1.2 < n) then
    (itr 4096 (c_api_App__152_l3 n cmp t1) (t1.1, 0, w64 (2 * t1.2))).bind fun q1 =>
    (
      let m := w64 (q1.2 + t1.2)
      bif decide (m < n) then
        (c_api_App__170 q1.1 q1.2 m n cmp).bind fun x3 =>
        some x3
      else
        some q1.1).bind fun data1 =>
    some (.inl (data1, w64 (t1.2 * 2)))
  else
    some (.inr t1.1)
theorem le_api_App__152_l2 (n : Int) (cmp cmp_' : (TupT fam [.st 8, .st 8] → Option Int)) (h_cmp : ∀ a, Lo (cmp a) (cmp_' a)) (t1 : List App × Int) : Lo (c_api_App__152_l2 n cmp t1) (api_App__152_l2 n cmp_' t1) := by
  unfold c_api_App__152_l2 api_App__152_l2
  repeat' (first | with_reducible refine le_api_App__152_l3 _ _ _ ?_ _ _ | with_reducible refine le_api_App__170 _ _ _ _ _ _ ?_ | exact h_cmp _ | with_reducible refine lo_bind4 ?_ ?_ ?_ ?_ ?_ | with_reducible refine lo_bind3 ?_ ?_ ?_ ?_ | with_reducible refine lo_bind2 ?_ ?_ ?_ | with_reducible refine lo_bind ?_ ?_ | with_reducible refine lo_cond ?_ ?_ | with_reducible refine lo_iter ?_ _ | (intro _) | with_reducible exact lo_refl _ | exact lo_none | (dsimp only))
def c_api_App__152_l1 (n : Int) (cmp : (TupT fam [.st 8, .st 8] → Option Int)) (t : List App × Int × Int) : Option ((List App × Int × Int) ⊕ ((List App × Int))) :=
  bif decide (t.2.2 ≤ n) then
    (c_api_App__169 t.1 t.2.1 t.2.2 cmp).bind fun x =>
    some (.inl (x, t.2.2, w64 (t.2.2 + 20)))
  else
    some (.inr (t.1, t.2.1))
theorem le_api_App__152_l1 (n : Int) (cmp cmp_' : (TupT fam [.st 8, .st 8] → Option Int)) (h_cmp : ∀ a, Lo (cmp a) (cmp_' a)) (t : List App × Int × Int) : Lo (c_api_App__152_l1 n cmp t) (api_App__152_l1 n cmp_' t) := by
  unfold c_api_App__152_l1 api_App__152_l1
  repeat' (first | with_reducible refine le_api_App__169 _ _ _ _ _ ?_ | exact h_cmp _ | with_reducible refine lo_bind4 ?_ ?_ ?_ ?_ ?_ | with_reducible refine lo_bind3 ?_ ?_ ?_ ?_ | with_reducible refine lo_bind2 ?_ ?_ ?_ | with_reducible refine lo_bind ?_ ?_ | with_reducible refine lo_cond ?_ ?_ | with_reducible refine lo_iter ?_ _ | (intro _) | with_reducible exact lo_refl _ | exact lo_none | (dsimp only))
def c_api_App__152 (data : List App) (n : Int) (cmp : (TupT fam [.st 8, .st 8] → Option Int)) : Option (List App) :=
  (itr 4096 (c_api_App__152_l1 n cmp) (data, 0, 20)).bind fun q =>
  (c_api_App__169 q.1 q.2 n cmp).bind fun x1 =>
  (itr 4096 (c_api_App__152_l2 n cmp) (x1, 20)).bind fun data2 =>
  some data2
theorem le_api_App__152 (data : List App) (n : Int) (cmp cmp_' : (TupT fam [.st 8, .st 8] → Option Int)) (h_cmp : ∀ a, Lo (cmp a) (cmp_' a)) : Lo (c_api_App__152 data n cmp) (api_App__152 data n cmp_') := by
  unfold c_api_App__152 api_App__152
  repeat' (first | with_reducible refine le_api_App__152_l1 _ _ _ ?_ _ | with_reducible refine le_api_App__169 _ _ _ _ _ ?_ | with_reducible refine le_api_App__152_l2 _ _ _ ?_ _ | exact h_cmp _ | with_reducible refine lo_bind4 ?_ ?_ ?_ ?_ ?_ | with_reducible refine lo_bind3 ?_ ?_ ?_ ?_ | with_reducible refine lo_bind2 ?_ ?_ ?_ | with_reducible refine lo_bind ?_ ?_ | with_reducible refine lo_cond ?_ ?_ | with_reducible refine lo_iter ?_ _ | (intro _) | with_reducible exact lo_refl _ | exact lo_none | (dsimp only))
def c_api_App__126 (x : List App) (cmp : (TupT fam [.st 8, .st 8] → Option Int)) : Option (List App) :=
  (c_api_App__152 x (x.length : Int) cmp).bind fun x1 =>
  some x1
theorem le_api_App__126 (x : List App) (cmp cmp_' : (TupT fam [.st 8, .st 8] → Option Int)) (h_cmp : ∀ a, Lo (cmp a) (cmp_' a)) : Lo (c_api_App__126 x cmp) (api_App__126 x cmp_') := by
  unfold c_api_App__126 api_App__126
  repeat' (first | with_reducible refine le_api_App__152 _ _ _ _ ?_ | exact h_cmp _ | with_reducible refine lo_bind4 ?_ ?_ ?_ ?_ ?_ | with_reducible refine lo_bind3 ?_ ?_ ?_ ?_ | with_reducible refine lo_bind2 ?_ ?_ ?_ | with_reducible refine lo_bind ?_ ?_ | with_reducible refine lo_cond ?_ ?_ | with_reducible refine lo_iter ?_ _ | (intro _) | with_reducible exact lo_refl _ | exact lo_none | (dsimp only))
def c_cmp_isNaN_int_ (x : Int) : Option Bool :=
  some (x != x)
theorem le_cmp_isNaN_int_ (x : Int) : Lo (c_cmp_isNaN_int_ x) (cmp_isNaN_int_ x) := by
  unfold c_cmp_isNaN_int_ cmp_isNaN_int_
  repeat' (first | with_reducible refine lo_bind4 ?_ ?_ ?_ ?_ ?_ | with_reducible refine lo_bind3 ?_ ?_ ?_ ?_ | with_reducible refine lo_bind2 ?_ ?_ ?_ | with_reducible refine lo_bind ?_ ?_ | with_reducible refine lo_cond ?_ ?_ | with_reducible refine lo_iter ?_ _ | (intro _) | with_reducible exact lo_refl _ | exact lo_none | (dsimp only))
def c_cmp_Compare_int_ (x : Int) (y : Int) : Option Int :=
  (c_cmp_isNaN_int_ x).bind fun xNaN =>
  (c_cmp_isNaN_int_ y).bind fun yNaN =>
  bif xNaN then
    bif yNaN then
      some 0
    else
      some (-1)
  else
    bif yNaN then
      some 1
    else
      bif decide (x < y) then
        some (-1)
      else
        bif decide (x > y) then
          some 1
        else
          some 0
theorem le_cmp_Compare_int_ (x : Int) (y : Int) : Lo (c_cmp_Compare_int_ x y) (cmp_Compare_int_ x y) := by
  unfold c_cmp_Compare_int_ cmp_Compare_int_
  repeat' (first | with_reducible exact le_cmp_isNaN_int_ _ | with_reducible refine lo_bind4 ?_ ?_ ?_ ?_ ?_ | with_reducible refine lo_bind3 ?_ ?_ ?_ ?_ | with_reducible refine lo_bind2 ?_ ?_ ?_ | with_reducible refine lo_bind ?_ ?_ | with_reducible refine lo_cond ?_ ?_ | with_reducible refine lo_iter ?_ _ | (intro _) | with_reducible exact lo_refl _ | exact lo_none | (dsimp only))
def c_order_Apps_1 (a : App) (b : App) : Option Int :=
  (c_cmp_Compare_int_ b.Prio a.Prio).bind fun x =>
  (c_cmp_Compare_int_ a.Id b.Id).bind fun x1 =>
  (c_cmp_Or_int_ [x, x1]).bind fun x2 =>
  some x2
theorem le_order_Apps_1 (a : App) (b : App) : Lo (c_order_Apps_1 a b) (order_Apps_1 a b) := by
  unfold c_order_Apps_1 order_Apps_1
  repeat' (first | with_reducible exact le_cmp_Compare_int_ _ _ | with_reducible exact le_cmp_Or_int_ _ | with_reducible refine lo_bind4 ?_ ?_ ?_ ?_ ?_ | with_reducible refine lo_bind3 ?_ ?_ ?_ ?_ | with_reducible refine lo_bind2 ?_ ?_ ?_ | with_reducible refine lo_bind ?_ ?_ | with_reducible refine lo_cond ?_ ?_ | with_reducible refine lo_iter ?_ _ | (intro _) | with_reducible exact lo_refl _ | exact lo_none | (dsimp only))
def c_order_Apps_l2 (x2 : List App) (t1 : List Int × Int) : Option ((List Int × Int) ⊕ List Int) :=
  bif decide (t1.2 < (x2.length : Int)) then
    (inb t1.2 x2.length).bind fun i =>
    (x2[i]?).bind fun x3 =>
    (inb t1.2 t1.1.length).bind fun i1 =>
    (t1.1[i1]?).bind fun x4 =>
    some (.inl (List.set t1.1 i1 x3.Id, w64 (t1.2 + 1)))
  else
    some (.inr t1.1)
theorem le_order_Apps_l2 (x2 : List App) (t1 : List Int × Int) : Lo (c_order_Apps_l2 x2 t1) (order_Apps_l2 x2 t1) := by
  unfold c_order_Apps_l2 order_Apps_l2
  repeat' (first | with_reducible refine lo_bind4 ?_ ?_ ?_ ?_ ?_ | with_reducible refine lo_bind3 ?_ ?_ ?_ ?_ | with_reducible refine lo_bind2 ?_ ?_ ?_ | with_reducible refine lo_bind ?_ ?_ | with_reducible refine lo_cond ?_ ?_ | with_reducible refine lo_iter ?_ _ | (intro _) | with_reducible exact lo_refl _ | exact lo_none | (dsimp only))
def c_order_Apps_l1 (s : State) (queue : List UInt8) (t : List App × Int) : Option ((List App × Int) ⊕ List App) :=
  bif decide (t.2 < (s.Apps.length : Int)) then
    (
      (idx s.Apps t.2).bind fun x =>
      (
        (c_apps_Live x).bind fun x1 =>
        bif x1 then
          some (x.Queue == queue)
        else
          some false).bind fun q =>
      bif q then
        (app 200 t.1 [x]).bind fun l =>
        some l
      else
        some t.1).bind fun l1 =>
    some (.inl (l1, w64 (t.2 + 1)))
  else
    some (.inr t.1)
theorem le_order_Apps_l1 (s : State) (queue : List UInt8) (t : List App × Int) : Lo (c_order_Apps_l1 s queue t) (order_Apps_l1 s queue t) := by
  unfold c_order_Apps_l1 order_Apps_l1
  repeat' (first | with_reducible exact le_apps_Live _ | with_reducible refine lo_bind4 ?_ ?_ ?_ ?_ ?_ | with_reducible refine lo_bind3 ?_ ?_ ?_ ?_ | with_reducible refine lo_bind2 ?_ ?_ ?_ | with_reducible refine lo_bind ?_ ?_ | with_reducible refine lo_cond ?_ ?_ | with_reducible refine lo_iter ?_ _ | (intro _) | with_reducible exact lo_refl _ | exact lo_none | (dsimp only))
def c_order_Apps (s : State) (queue : List UInt8) : Option (List Int) :=
  (itr 4096 (c_order_Apps_l1 s queue) ([], 0)).bind fun l2 =>
  (c_api_App__126 l2 (fun a' => c_order_Apps_1 a'.1 a'.2.1)).bind fun x2 =>
  (mkl 8 (x2.length : Int) (x2.length : Int) 0).bind fun l3 =>
  (itr 4096 (c_order_Apps_l2 x2) (l3, 0)).bind fun out =>
  some out
theorem le_order_Apps (s : State) (queue : List UInt8) : Lo (c_order_Apps s queue) (order_Apps s queue) := by
  unfold c_order_Apps order_Apps
  repeat' (first | with_reducible exact le_order_Apps_l1 _ _ _ | with_reducible refine le_api_App__126 _ _ _ ?_ | with_reducible exact le_order_Apps_1 _ _ | with_reducible exact le_order_Apps_l2 _ _ | with_reducible refine lo_bind4 ?_ ?_ ?_ ?_ ?_ | with_reducible refine lo_bind3 ?_ ?_ ?_ ?_ | with_reducible refine lo_bind2 ?_ ?_ ?_ | with_reducible refine lo_bind ?_ ?_ | with_reducible refine lo_cond ?_ ?_ | with_reducible refine lo_iter ?_ _ | (intro _) | with_reducible exact lo_refl _ | exact lo_none | (dsimp only))
def c_assign_attempt_miss (_a0 : Attempt) (_a1 : App) (_a2 : Int) : Option App := none
theorem le_assign_attempt_miss (_a0 : Attempt) (_a1 : App) (_a2 : Int) : Lo (c_assign_attempt_miss _a0 _a1 _a2) (assign_attempt_miss _a0 _a1 _a2) := by
  unfold c_assign_attempt_miss assign_attempt_miss
  repeat' (first | with_reducible refine lo_bind4 ?_ ?_ ?_ ?_ ?_ | with_reducible refine lo_bind3 ?_ ?_ ?_ ?_ | with_reducible refine lo_bind2 ?_ ?_ ?_ | with_reducible refine lo_bind ?_ ?_ | with_reducible refine lo_cond ?_ ?_ | with_reducible refine lo_iter ?_ _ | (intro _) | with_reducible exact lo_refl _ | exact lo_none | (dsimp only))
def c_assign_attempt_hold (_a0 : Attempt) (_a1 : Int) (_a2 : Int) : Option Bool := none
theorem le_assign_attempt_hold (_a0 : Attempt) (_a1 : Int) (_a2 : Int) : Lo (c_assign_attempt_hold _a0 _a1 _a2) (assign_attempt_hold _a0 _a1 _a2) := by
  unfold c_assign_attempt_hold assign_attempt_hold
  repeat' (first | with_reducible refine lo_bind4 ?_ ?_ ?_ ?_ ?_ | with_reducible refine lo_bind3 ?_ ?_ ?_ ?_ | with_reducible refine lo_bind2 ?_ ?_ ?_ | with_reducible refine lo_bind ?_ ?_ | with_reducible refine lo_cond ?_ ?_ | with_reducible refine lo_iter ?_ _ | (intro _) | with_reducible exact lo_refl _ | exact lo_none | (dsimp only))
def c_assign_attempt_round_l3 (first : Bool) (may : (TupT fam [.st 7, .st 3] → Option Bool)) (x5 : List Ask) (t3 : Attempt × Cont × App × Int) : Option ((Attempt × Cont × App × Int) ⊕ ((Attempt × Int × Cont) ⊕ (Attempt × Cont))) :=
  bif decide (t3.2.2.2 < (x5.length : Int)) then
    (
      (inb t3.2.2.2 x5.length).bind fun i1 =>
      (x5[i1]?).bind fun x6 =>
      (c_assign_attempt_due t3.1 t3.2.2.1 x6).bind fun due =>
      (
        (c_assign_attempt_could t3.1 x6).bind fun x7 =>
        bif ! x7 then
          some true
        else
          bif first then
            some (! due)
          else
            some false).bind fun q =>
      bif q then
        some (.inl (t3.1, t3.2.1, t3.2.2.1))
      else
        (may (x6, t3.1.n, ())).bind fun r =>
        bif ! r then
          bif first == due then
            none
          else
            some (.inl (t3.1, t3.2.1, t3.2.2.1))
        else
          (c_assign_attempt_room t3.1 t3.2.2.1 x6).bind fun x8 =>
          bif ! x8 then
            some (.inl (t3.1, t3.2.1, t3.2.2.1))
          else
            (c_assign_attempt_fits t3.1 x6).bind fun x9 =>
            bif x9 then
              (c_assign_attempt_grant t3.1 t3.2.2.1 x6).bind fun x10 =>
              some (.inr (x10.2, 1, x10.1))
            else
              bif first then
                none
              else
                some (.inl (t3.1, t3.2.1, t3.2.2.1)) : Option ((Attempt × Cont × App) ⊕ (Attempt × Int × Cont))).bind fun q0 =>
    match q0 with
    | .inl q1 =>
      some (.inl (q1.1, q1.2.1, q1.2.2, w64 (t3.2.2.2 + 1)))
    | .inr q2 =>
      some (.inr (.inl (q2.1, q2.2.1, q2.2.2)))
  else
    some (.inr (.inr (t3.1, t3.2.1)))
theorem le_assign_attempt_round_l3 (first : Bool) (may may_' : (TupT fam [.st 7, .st 3] → Option Bool)) (h_may : ∀ a, Lo (may a) (may_' a)) (x5 : List Ask) (t3 : Attempt × Cont × App × Int) : Lo (c_assign_attempt_round_l3 first may x5 t3) (assign_attempt_round_l3 first may_' x5 t3) := by
  unfold c_assign_attempt_round_l3 assign_attempt_round_l3
  repeat' (first | with_reducible exact le_assign_attempt_due _ _ _ | with_reducible exact le_assign_attempt_could _ _ | with_reducible exact le_assign_attempt_room _ _ _ | with_reducible exact le_assign_attempt_fits _ _ | with_reducible exact le_assign_attempt_grant _ _ _ | exact h_may _ | with_reducible refine lo_bind4 ?_ ?_ ?_ ?_ ?_ | with_reducible refine lo_bind3 ?_ ?_ ?_ ?_ | with_reducible refine lo_bind2 ?_ ?_ ?_ | with_reducible refine lo_bind ?_ ?_ | with_reducible refine lo_cond ?_ ?_ | with_reducible refine lo_iter ?_ _ | (intro _) | with_reducible exact lo_refl _ | exact lo_none | (dsimp only))
def c_assign_attempt_round_l2 (first : Bool) (may : (TupT fam [.st 7, .st 3] → Option Bool)) (x1 : List Int) (t2 : Attempt × Cont × Int) : Option ((Attempt × Cont × Int) ⊕ ((Attempt × Int × Cont) ⊕ (Attempt × Cont) ⊕ (Attempt × Cont))) :=
  bif decide (t2.2.2 < (x1.length : Int)) then
    (
      (inb t2.2.2 x1.length).bind fun i =>
      (x1[i]?).bind fun x2 =>
      (c_apps_Find t2.1.s x2).bind fun x3 =>
      bif ! x3.2 then
        some (.inr (.inr (t2.1, t2.2.1)))
      else
        (c_assign_attempt_more t2.1 x3.1).bind fun x4 =>
        bif ! x4 then
          some (.inl (t2.1, t2.2.1))
        else
          (c_api_Ask_ x3.1.Asks).bind fun x5 =>
          (itr 4096 (c_assign_attempt_round_l3 first may x5) (t2.1, t2.2.1, x3.1, 0)).bind fun q0 =>
          match q0 with
          | .inl q3 =>
            some (.inr (.inl (q3.1, q3.2.1, q3.2.2)))
          | .inr q4 =>
            some (.inl (q4.1, q4.2)) : Option ((Attempt × Cont) ⊕ (Attempt × Int × Cont) ⊕ (Attempt × Cont))).bind fun q0 =>
    match q0 with
    | .inl q5 =>
      some (.inl (q5.1, q5.2, w64 (t2.2.2 + 1)))
    | .inr (.inl q6) =>
      some (.inr (.inl (q6.1, q6.2.1, q6.2.2)))
    | .inr (.inr q7) =>
      some (.inr (.inr (.inl (q7.1, q7.2))))
  else
    some (.inr (.inr (.inr (t2.1, t2.2.1))))
theorem le_assign_attempt_round_l2 (first : Bool) (may may_' : (TupT fam [.st 7, .st 3] → Option Bool)) (h_may : ∀ a, Lo (may a) (may_' a)) (x1 : List Int) (t2 : Attempt × Cont × Int) : Lo (c_assign_attempt_round_l2 first may x1 t2) (assign_attempt_round_l2 first may_' x1 t2) := by
  unfold c_assign_attempt_round_l2 assign_attempt_round_l2
  repeat' (first | with_reducible exact le_apps_Find _ _ | with_reducible exact le_assign_attempt_more _ _ | with_reducible exact le_api_Ask_ _ | with_reducible refine le_assign_attempt_round_l3 _ _ _ ?_ _ _ | exact h_may _ | with_reducible refine lo_bind4 ?_ ?_ ?_ ?_ ?_ | with_reducible refine lo_bind3 ?_ ?_ ?_ ?_ | with_reducible refine lo_bind2 ?_ ?_ ?_ | with_reducible refine lo_bind ?_ ?_ | with_reducible refine lo_cond ?_ ?_ | with_reducible refine lo_iter ?_ _ | (intro _) | with_reducible exact lo_refl _ | exact lo_none | (dsimp only))
def c_assign_attempt_round_l1 (leaves : List (List UInt8)) (first : Bool) (may : (TupT fam [.st 7, .st 3] → Option Bool)) (t1 : Attempt × Cont × Int) : Option ((Attempt × Cont × Int) ⊕ ((Attempt × Int × Cont) ⊕ (Attempt × Cont))) :=
  bif decide (t1.2.2 < (leaves.length : Int)) then
    (
      (idx leaves t1.2.2).bind fun x =>
      (c_order_Apps t1.1.s x).bind fun x1 =>
      (itr 4096 (c_assign_attempt_round_l2 first may x1) (t1.1, t1.2.1, 0)).bind fun q0 =>
      match q0 with
      | .inl q8 =>
        some (.inr (q8.1, q8.2.1, q8.2.2))
      | .inr (.inl q9) =>
        some (.inl (q9.1, q9.2))
      | .inr (.inr q10) =>
        some (.inl (q10.1, q10.2)) : Option ((Attempt × Cont) ⊕ (Attempt × Int × Cont))).bind fun q0 =>
    match q0 with
    | .inl q11 =>
      some (.inl (q11.1, q11.2, w64 (t1.2.2 + 1)))
    | .inr q12 =>
      some (.inr (.inl (q12.1, q12.2.1, q12.2.2)))
  else
    some (.inr (.inr (t1.1, t1.2.1)))
theorem le_assign_attempt_round_l1 (leaves : List (List UInt8)) (first : Bool) (may may_' : (TupT fam [.st 7, .st 3] → Option Bool)) (h_may : ∀ a, Lo (may a) (may_' a)) (t1 : Attempt × Cont × Int) : Lo (c_assign_attempt_round_l1 leaves first may t1) (assign_attempt_round_l1 leaves first may_' t1) := by
  unfold c_assign_attempt_round_l1 assign_attempt_round_l1
  repeat' (first | with_reducible exact le_order_Apps _ _ | with_reducible refine le_assign_attempt_round_l2 _ _ _ ?_ _ _ | exact h_may _ | with_reducible refine lo_bind4 ?_ ?_ ?_ ?_ ?_ | with_reducible refine lo_bind3 ?_ ?_ ?_ ?_ | with_reducible refine lo_bind2 ?_ ?_ ?_ | with_reducible refine lo_bind ?_ ?_ | with_reducible refine lo_cond ?_ ?_ | with_reducible refine lo_iter ?_ _ | (intro _) | with_reducible exact lo_refl _ | exact lo_none | (dsimp only))
def c_assign_attempt_round (t : Attempt) (leaves : List (List UInt8)) (first : Bool) (may : (TupT fam [.st 7, .st 3] → Option Bool)) : Option (Int × Cont × Attempt) :=
  (itr 4096 (c_assign_attempt_round_l1 leaves first may) (t, (⟨0, 0, 0, ⟨0, 0⟩, 0, 0, false, 0⟩ : Cont), 0)).bind fun q0 =>
  match q0 with
  | .inl q13 =>
    some (q13.2.1, q13.2.2, q13.1)
  | .inr q14 =>
    some (0, (⟨0, 0, 0, ⟨0, 0⟩, 0, 0, false, 0⟩ : Cont), q14.1)
theorem le_assign_attempt_round (t : Attempt) (leaves : List (List UInt8)) (first : Bool) (may may_' : (TupT fam [.st 7, .st 3] → Option Bool)) (h_may : ∀ a, Lo (may a) (may_' a)) : Lo (c_assign_attempt_round t leaves first may) (assign_attempt_round t leaves first may_') := by
  unfold c_assign_attempt_round assign_attempt_round
  repeat' (first | with_reducible refine le_assign_attempt_round_l1 _ _ _ _ ?_ _ | exact h_may _ | with_reducible refine lo_bind4 ?_ ?_ ?_ ?_ ?_ | with_reducible refine lo_bind3 ?_ ?_ ?_ ?_ | with_reducible refine lo_bind2 ?_ ?_ ?_ | with_reducible refine lo_bind ?_ ?_ | with_reducible refine lo_cond ?_ ?_ | with_reducible refine lo_iter ?_ _ | (intro _) | with_reducible exact lo_refl _ | exact lo_none | (dsimp only))
def c_assign_attempt_rounds (t : Attempt) : Option (Int × Cont × Attempt) :=
  (c_order_Leaves t.s t.n.Label).bind fun leaves =>
  (c_assign_attempt_round t leaves true (fun a' => c_local_May a'.1 a'.2.1)).bind fun x =>
  bif x.1 != 0 then
    some (x.1, x.2.1, x.2.2)
  else
    (c_assign_attempt_round x.2.2 leaves false (fun a' => c_local_May a'.1 a'.2.1)).bind fun x1 =>
    some (x1.1, x1.2.1, x1.2.2)
theorem le_assign_attempt_rounds (t : Attempt) : Lo (c_assign_attempt_rounds t) (assign_attempt_rounds t) := by
  unfold c_assign_attempt_rounds assign_attempt_rounds
  repeat' (first | with_reducible exact le_order_Leaves _ _ | with_reducible refine le_assign_attempt_round _ _ _ _ _ ?_ | with_reducible exact le_local_May _ _ | with_reducible refine lo_bind4 ?_ ?_ ?_ ?_ ?_ | with_reducible refine lo_bind3 ?_ ?_ ?_ ?_ | with_reducible refine lo_bind2 ?_ ?_ ?_ | with_reducible refine lo_bind ?_ ?_ | with_reducible refine lo_cond ?_ ?_ | with_reducible refine lo_iter ?_ _ | (intro _) | with_reducible exact lo_refl _ | exact lo_none | (dsimp only))
def c_assign_One (s : State) (node : Int) : Option (State × Int × Cont) :=
  (c_apps_Lose s []).bind fun x =>
  (c_nodes_Find s node).bind fun x1 =>
  (
    bif ! x1.2 then
      some true
    else
      bif ! x1.1.Up then
        some true
      else
        bif decide ((s.Conts.length : Int) ≥ 200) then
          some true
        else
          some (decide (s.Seq ≥ 1048575))).bind fun q =>
  bif q then
    some (x, 0, (⟨0, 0, 0, ⟨0, 0⟩, 0, 0, false, 0⟩ : Cont))
  else
    (c_nodes_Free s node).bind fun x2 =>
    (c_assign_attempt_kept (⟨⟨⟨x.Conf.Labels, x.Conf.Queues⟩, x.Nodes, x.Apps, x.Conts, x.Slots, x.Plans, x.Now, x.Epoch, x.Seq⟩, ⟨x1.1.Id, x1.1.Label, x1.1.Rack, ⟨x1.1.Cap.Mem, x1.1.Cap.Cores⟩, x1.1.Seen, x1.1.Beat, x1.1.Up⟩, ⟨x2.Mem, x2.Cores⟩⟩ : Attempt)).bind fun x3 =>
    (
      bif ! x3.2.2.1 then
        (c_assign_attempt_rounds x3.2.2.2).bind fun x4 =>
        some (x4.1, x4.2.1, x4.2.2)
      else
        some (x3.1, x3.2.1, x3.2.2.2)).bind fun q1 =>
    (c_apps_Lose q1.2.2.s []).bind fun x5 =>
    some (x5, q1.1, q1.2.1)
theorem le_assign_One (s : State) (node : Int) : Lo (c_assign_One s node) (assign_One s node) := by
  unfold c_assign_One assign_One
  repeat' (first | with_reducible exact le_apps_Lose _ _ | with_reducible exact le_nodes_Find _ _ | with_reducible exact le_nodes_Free _ _ | with_reducible exact le_assign_attempt_kept _ | with_reducible exact le_assign_attempt_rounds _ | with_reducible refine lo_bind4 ?_ ?_ ?_ ?_ ?_ | with_reducible refine lo_bind3 ?_ ?_ ?_ ?_ | with_reducible refine lo_bind2 ?_ ?_ ?_ | with_reducible refine lo_bind ?_ ?_ | with_reducible refine lo_cond ?_ ?_ | with_reducible refine lo_iter ?_ _ | (intro _) | with_reducible exact lo_refl _ | exact lo_none | (dsimp only))
def c_dispatchref8_Find_l1 (s : State) (id_ : Int) (t : Node × Int) : Option ((Node × Int) ⊕ ((Node × Bool) ⊕ Node)) :=
  bif decide (t.2 < (s.Nodes.length : Int)) then
    (idx s.Nodes t.2).bind fun x =>
    bif x.Id == id_ then
      (idx s.Nodes t.2).bind fun x1 =>
      some (.inr (.inl (x1, true)))
    else
      some (.inl (t.1, w64 (t.2 + 1)))
  else
    some (.inr (.inr (t.1)))
theorem le_dispatchref8_Find_l1 (s : State) (id_ : Int) (t : Node × Int) : Lo (c_dispatchref8_Find_l1 s id_ t) (dispatchref8_Find_l1 s id_ t) := by
  unfold c_dispatchref8_Find_l1 dispatchref8_Find_l1
  repeat' (first | with_reducible refine lo_bind4 ?_ ?_ ?_ ?_ ?_ | with_reducible refine lo_bind3 ?_ ?_ ?_ ?_ | with_reducible refine lo_bind2 ?_ ?_ ?_ | with_reducible refine lo_bind ?_ ?_ | with_reducible refine lo_cond ?_ ?_ | with_reducible refine lo_iter ?_ _ | (intro _) | with_reducible exact lo_refl _ | exact lo_none | (dsimp only))
def c_dispatchref8_Find (s : State) (id_ : Int) : Option (Node × Bool) :=
  (itr 4096 (c_dispatchref8_Find_l1 s id_) ((⟨0, 0, 0, ⟨0, 0⟩, 0, 0, false⟩ : Node), 0)).bind fun q0 =>
  match q0 with
  | .inl q =>
    some (q.1, q.2)
  | .inr q1 =>
    some ((⟨0, 0, 0, ⟨0, 0⟩, 0, 0, false⟩ : Node), false)
theorem le_dispatchref8_Find (s : State) (id_ : Int) : Lo (c_dispatchref8_Find s id_) (dispatchref8_Find s id_) := by
  unfold c_dispatchref8_Find dispatchref8_Find
  repeat' (first | with_reducible exact le_dispatchref8_Find_l1 _ _ _ | with_reducible refine lo_bind4 ?_ ?_ ?_ ?_ ?_ | with_reducible refine lo_bind3 ?_ ?_ ?_ ?_ | with_reducible refine lo_bind2 ?_ ?_ ?_ | with_reducible refine lo_bind ?_ ?_ | with_reducible refine lo_cond ?_ ?_ | with_reducible refine lo_iter ?_ _ | (intro _) | with_reducible exact lo_refl _ | exact lo_none | (dsimp only))
def c_dispatchref8_part (n : Int) : Option Bool :=
  bif decide (n ≥ 0) then
    some (decide (n ≤ 1073741824))
  else
    some false
theorem le_dispatchref8_part (n : Int) : Lo (c_dispatchref8_part n) (dispatchref8_part n) := by
  unfold c_dispatchref8_part dispatchref8_part
  repeat' (first | with_reducible refine lo_bind4 ?_ ?_ ?_ ?_ ?_ | with_reducible refine lo_bind3 ?_ ?_ ?_ ?_ | with_reducible refine lo_bind2 ?_ ?_ ?_ | with_reducible refine lo_bind ?_ ?_ | with_reducible refine lo_cond ?_ ?_ | with_reducible refine lo_iter ?_ _ | (intro _) | with_reducible exact lo_refl _ | exact lo_none | (dsimp only))
def c_dispatchref8_put_l1 (s : State) (n : Node) (k : Int) : Option (Int ⊕ Int) :=
  (
    bif decide (k < (s.Nodes.length : Int)) then
      (inb k s.Nodes.length).bind fun i =>
      (s.Nodes[i]?).bind fun x =>
      some (decide (x.Id < n.Id))
    else
      some false).bind fun q =>
  bif q then
    some (.inl (w64 (k + 1)))
  else
    some (.inr k)
theorem le_dispatchref8_put_l1 (s : State) (n : Node) (k : Int) : Lo (c_dispatchref8_put_l1 s n k) (dispatchref8_put_l1 s n k) := by
  unfold c_dispatchref8_put_l1 dispatchref8_put_l1
  repeat' (first | with_reducible refine lo_bind4 ?_ ?_ ?_ ?_ ?_ | with_reducible refine lo_bind3 ?_ ?_ ?_ ?_ | with_reducible refine lo_bind2 ?_ ?_ ?_ | with_reducible refine lo_bind ?_ ?_ | with_reducible refine lo_cond ?_ ?_ | with_reducible refine lo_iter ?_ _ | (intro _) | with_reducible exact lo_refl _ | exact lo_none | (dsimp only))
def c_dispatchref8_put (s : State) (n : Node) : Option State :=
  (itr 4096 (c_dispatchref8_put_l1 s n) 0).bind fun k1 =>
  (inS 0 k1 s.Nodes.length).bind fun p =>
  (app 64 [] (sub s.Nodes p.1 p.2)).bind fun l =>
  (app 64 l [n]).bind fun l1 =>
  (
    (
      bif decide (k1 < (s.Nodes.length : Int)) then
        (inb k1 s.Nodes.length).bind fun i1 =>
        (s.Nodes[i1]?).bind fun x1 =>
        some (x1.Id == n.Id)
      else
        some false).bind fun q1 =>
    bif q1 then
      some (w64 (k1 + 1))
    else
      some k1).bind fun k2 =>
  (inS k2 (s.Nodes.length : Int) s.Nodes.length).bind fun p1 =>
  (app 64 l1 (sub s.Nodes p1.1 p1.2)).bind fun l2 =>
  some (⟨⟨s.Conf.Labels, s.Conf.Queues⟩, l2, s.Apps, s.Conts, s.Slots, s.Plans, s.Now, s.Epoch, s.Seq⟩ : State)
theorem le_dispatchref8_put (s : State) (n : Node) : Lo (c_dispatchref8_put s n) (dispatchref8_put s n) := by
  unfold c_dispatchref8_put dispatchref8_put
  repeat' (first | with_reducible exact le_dispatchref8_put_l1 _ _ _ | with_reducible refine lo_bind4 ?_ ?_ ?_ ?_ ?_ | with_reducible refine lo_bind3 ?_ ?_ ?_ ?_ | with_reducible refine lo_bind2 ?_ ?_ ?_ | with_reducible refine lo_bind ?_ ?_ | with_reducible refine lo_cond ?_ ?_ | with_reducible refine lo_iter ?_ _ | (intro _) | with_reducible exact lo_refl _ | exact lo_none | (dsimp only))
def c_dispatchref8_Register (s : State) (n : Node) : Option (State × Int) :=
  (
    bif decide (n.Id < 0) then
      some true
    else
      bif decide (n.Id > 999) then
        some true
      else
        bif decide (n.Label < 0) then
          some true
        else
          bif decide (n.Label ≥ (s.Conf.Labels.length : Int)) then
            some true
          else
            bif decide (n.Rack < 0) then
              some true
            else
              bif decide (n.Rack > 99) then
                some true
              else
                (c_dispatchref8_part n.Cap.Mem).bind fun x =>
                bif ! x then
                  some true
                else
                  (c_dispatchref8_part n.Cap.Cores).bind fun x1 =>
                  some (! x1)).bind fun q =>
  bif q then
    some (s, 1)
  else
    (c_dispatchref8_Find s n.Id).bind fun x2 =>
    (
      bif x2.2 then
        some x2.1.Up
      else
        some false).bind fun q1 =>
    bif q1 then
      some (s, 7)
    else
      (
        bif ! x2.2 then
          some (decide ((s.Nodes.length : Int) ≥ 12))
        else
          some false).bind fun q2 =>
      bif q2 then
        some (s, 4)
      else
        (c_dispatchref8_put s (⟨n.Id, n.Label, n.Rack, ⟨n.Cap.Mem, n.Cap.Cores⟩, s.Now, 0, true⟩ : Node)).bind fun x3 =>
        some (x3, 0)
theorem le_dispatchref8_Register (s : State) (n : Node) : Lo (c_dispatchref8_Register s n) (dispatchref8_Register s n) := by
  unfold c_dispatchref8_Register dispatchref8_Register
  repeat' (first | with_reducible exact le_dispatchref8_part _ | with_reducible exact le_dispatchref8_Find _ _ | with_reducible exact le_dispatchref8_put _ _ | with_reducible refine lo_bind4 ?_ ?_ ?_ ?_ ?_ | with_reducible refine lo_bind3 ?_ ?_ ?_ ?_ | with_reducible refine lo_bind2 ?_ ?_ ?_ | with_reducible refine lo_bind ?_ ?_ | with_reducible refine lo_cond ?_ ?_ | with_reducible refine lo_iter ?_ _ | (intro _) | with_reducible exact lo_refl _ | exact lo_none | (dsimp only))
def c_dispatchref19_New : Option State :=
  some (⟨⟨[([] : List UInt8)], [(⟨([114, 111, 111, 116] : List UInt8), [(⟨10000, 10000⟩ : Cap)], 10000⟩ : Queue)]⟩, [], [], [], [], [], 0, 0, 0⟩ : State)
theorem le_dispatchref19_New : Lo (c_dispatchref19_New) (dispatchref19_New) := by
  unfold c_dispatchref19_New dispatchref19_New
  repeat' (first | with_reducible refine lo_bind4 ?_ ?_ ?_ ?_ ?_ | with_reducible refine lo_bind3 ?_ ?_ ?_ ?_ | with_reducible refine lo_bind2 ?_ ?_ ?_ | with_reducible refine lo_bind ?_ ?_ | with_reducible refine lo_cond ?_ ?_ | with_reducible refine lo_iter ?_ _ | (intro _) | with_reducible exact lo_refl _ | exact lo_none | (dsimp only))
def c_dispatchref10_Find_l1 (s : State) (id_ : Int) (t : App × Int) : Option ((App × Int) ⊕ ((App × Bool) ⊕ App)) :=
  bif decide (t.2 < (s.Apps.length : Int)) then
    (idx s.Apps t.2).bind fun x =>
    bif x.Id == id_ then
      (idx s.Apps t.2).bind fun x1 =>
      some (.inr (.inl (x1, true)))
    else
      some (.inl (t.1, w64 (t.2 + 1)))
  else
    some (.inr (.inr (t.1)))
theorem le_dispatchref10_Find_l1 (s : State) (id_ : Int) (t : App × Int) : Lo (c_dispatchref10_Find_l1 s id_ t) (dispatchref10_Find_l1 s id_ t) := by
  unfold c_dispatchref10_Find_l1 dispatchref10_Find_l1
  repeat' (first | with_reducible refine lo_bind4 ?_ ?_ ?_ ?_ ?_ | with_reducible refine lo_bind3 ?_ ?_ ?_ ?_ | with_reducible refine lo_bind2 ?_ ?_ ?_ | with_reducible refine lo_bind ?_ ?_ | with_reducible refine lo_cond ?_ ?_ | with_reducible refine lo_iter ?_ _ | (intro _) | with_reducible exact lo_refl _ | exact lo_none | (dsimp only))
def c_dispatchref10_Find (s : State) (id_ : Int) : Option (App × Bool) :=
  (itr 4096 (c_dispatchref10_Find_l1 s id_) ((⟨0, 0, [], 0, 0, ⟨0, 0⟩, [], 0, 0, [], [], [], []⟩ : App), 0)).bind fun q0 =>
  match q0 with
  | .inl q =>
    some (q.1, q.2)
  | .inr q1 =>
    some ((⟨0, 0, [], 0, 0, ⟨0, 0⟩, [], 0, 0, [], [], [], []⟩ : App), false)
theorem le_dispatchref10_Find (s : State) (id_ : Int) : Lo (c_dispatchref10_Find s id_) (dispatchref10_Find s id_) := by
  unfold c_dispatchref10_Find dispatchref10_Find
  repeat' (first | with_reducible exact le_dispatchref10_Find_l1 _ _ _ | with_reducible refine lo_bind4 ?_ ?_ ?_ ?_ ?_ | with_reducible refine lo_bind3 ?_ ?_ ?_ ?_ | with_reducible refine lo_bind2 ?_ ?_ ?_ | with_reducible refine lo_bind ?_ ?_ | with_reducible refine lo_cond ?_ ?_ | with_reducible refine lo_iter ?_ _ | (intro _) | with_reducible exact lo_refl _ | exact lo_none | (dsimp only))
def c_dispatchref10_Live (a : App) : Option Bool :=
  bif a.State == 1 then
    some true
  else
    some (a.State == 2)
theorem le_dispatchref10_Live (a : App) : Lo (c_dispatchref10_Live a) (dispatchref10_Live a) := by
  unfold c_dispatchref10_Live dispatchref10_Live
  repeat' (first | with_reducible refine lo_bind4 ?_ ?_ ?_ ?_ ?_ | with_reducible refine lo_bind3 ?_ ?_ ?_ ?_ | with_reducible refine lo_bind2 ?_ ?_ ?_ | with_reducible refine lo_bind ?_ ?_ | with_reducible refine lo_cond ?_ ?_ | with_reducible refine lo_iter ?_ _ | (intro _) | with_reducible exact lo_refl _ | exact lo_none | (dsimp only))
def c_dispatchref10_part (n : Int) : Option Bool :=
  bif decide (n ≥ 1) then
    some (decide (n ≤ 1073741824))
  else
    some false
theorem le_dispatchref10_part (n : Int) : Lo (c_dispatchref10_part n) (dispatchref10_part n) := by
  unfold c_dispatchref10_part dispatchref10_part
  repeat' (first | with_reducible refine lo_bind4 ?_ ?_ ?_ ?_ ?_ | with_reducible refine lo_bind3 ?_ ?_ ?_ ?_ | with_reducible refine lo_bind2 ?_ ?_ ?_ | with_reducible refine lo_bind ?_ ?_ | with_reducible refine lo_cond ?_ ?_ | with_reducible refine lo_iter ?_ _ | (intro _) | with_reducible exact lo_refl _ | exact lo_none | (dsimp only))
def c_dispatchref6_Find_l1 (c : Conf) (path : List UInt8) (t : Queue × Int) : Option ((Queue × Int) ⊕ ((Queue × Bool) ⊕ Queue)) :=
  bif decide (t.2 < (c.Queues.length : Int)) then
    (idx c.Queues t.2).bind fun x =>
    bif x.Path == path then
      (idx c.Queues t.2).bind fun x1 =>
      (app 16 [] x1.Caps).bind fun l =>
      some (.inr (.inl ((⟨x1.Path, l, x1.User⟩ : Queue), true)))
    else
      some (.inl (t.1, w64 (t.2 + 1)))
  else
    some (.inr (.inr (t.1)))
theorem le_dispatchref6_Find_l1 (c : Conf) (path : List UInt8) (t : Queue × Int) : Lo (c_dispatchref6_Find_l1 c path t) (dispatchref6_Find_l1 c path t) := by
  unfold c_dispatchref6_Find_l1 dispatchref6_Find_l1
  repeat' (first | with_reducible refine lo_bind4 ?_ ?_ ?_ ?_ ?_ | with_reducible refine lo_bind3 ?_ ?_ ?_ ?_ | with_reducible refine lo_bind2 ?_ ?_ ?_ | with_reducible refine lo_bind ?_ ?_ | with_reducible refine lo_cond ?_ ?_ | with_reducible refine lo_iter ?_ _ | (intro _) | with_reducible exact lo_refl _ | exact lo_none | (dsimp only))
def c_dispatchref6_Find (c : Conf) (path : List UInt8) : Option (Queue × Bool) :=
  (itr 4096 (c_dispatchref6_Find_l1 c path) ((⟨[], [], 0⟩ : Queue), 0)).bind fun q0 =>
  match q0 with
  | .inl q =>
    some (q.1, q.2)
  | .inr q1 =>
    some ((⟨[], [], 0⟩ : Queue), false)
theorem le_dispatchref6_Find (c : Conf) (path : List UInt8) : Lo (c_dispatchref6_Find c path) (dispatchref6_Find c path) := by
  unfold c_dispatchref6_Find dispatchref6_Find
  repeat' (first | with_reducible exact le_dispatchref6_Find_l1 _ _ _ | with_reducible refine lo_bind4 ?_ ?_ ?_ ?_ ?_ | with_reducible refine lo_bind3 ?_ ?_ ?_ ?_ | with_reducible refine lo_bind2 ?_ ?_ ?_ | with_reducible refine lo_bind ?_ ?_ | with_reducible refine lo_cond ?_ ?_ | with_reducible refine lo_iter ?_ _ | (intro _) | with_reducible exact lo_refl _ | exact lo_none | (dsimp only))
def c_dispatchref6_above_l1 (path : List UInt8) (k1 : Int) : Option (Int ⊕ Int) :=
  (
    bif decide (k1 ≥ 0) then
      (idx path k1).bind fun ch =>
      some ((ch.toNat : Int) != 46)
    else
      some false).bind fun q =>
  bif q then
    some (.inl (w64 (k1 - 1)))
  else
    some (.inr k1)
theorem le_dispatchref6_above_l1 (path : List UInt8) (k1 : Int) : Lo (c_dispatchref6_above_l1 path k1) (dispatchref6_above_l1 path k1) := by
  unfold c_dispatchref6_above_l1 dispatchref6_above_l1
  repeat' (first | with_reducible refine lo_bind4 ?_ ?_ ?_ ?_ ?_ | with_reducible refine lo_bind3 ?_ ?_ ?_ ?_ | with_reducible refine lo_bind2 ?_ ?_ ?_ | with_reducible refine lo_bind ?_ ?_ | with_reducible refine lo_cond ?_ ?_ | with_reducible refine lo_iter ?_ _ | (intro _) | with_reducible exact lo_refl _ | exact lo_none | (dsimp only))
def c_dispatchref6_above (path : List UInt8) : Option (List UInt8) :=
  let k := w64 ((path.length : Int) - 1)
  (itr 4096 (c_dispatchref6_above_l1 path) k).bind fun k2 =>
  bif decide (k2 < 0) then
    some ([] : List UInt8)
  else
    (slc path 0 k2).bind fun s =>
    some s
theorem le_dispatchref6_above (path : List UInt8) : Lo (c_dispatchref6_above path) (dispatchref6_above path) := by
  unfold c_dispatchref6_above dispatchref6_above
  repeat' (first | with_reducible exact le_dispatchref6_above_l1 _ _ | with_reducible refine lo_bind4 ?_ ?_ ?_ ?_ ?_ | with_reducible refine lo_bind3 ?_ ?_ ?_ ?_ | with_reducible refine lo_bind2 ?_ ?_ ?_ | with_reducible refine lo_bind ?_ ?_ | with_reducible refine lo_cond ?_ ?_ | with_reducible refine lo_iter ?_ _ | (intro _) | with_reducible exact lo_refl _ | exact lo_none | (dsimp only))
def c_dispatchref6_Kids_l1 (c : Conf) (path : List UInt8) (t : List (List UInt8) × Int) : Option ((List (List UInt8) × Int) ⊕ List (List UInt8)) :=
  bif decide (t.2 < (c.Queues.length : Int)) then
    (
      (
        bif ! (path == ([] : List UInt8)) then
          (idx c.Queues t.2).bind fun x =>
          (c_dispatchref6_above x.Path).bind fun x1 =>
          some (x1 == path)
        else
          some false).bind fun q =>
      bif q then
        (idx c.Queues t.2).bind fun x2 =>
        (app 16 t.1 [x2.Path]).bind fun l =>
        some l
      else
        some t.1).bind fun l1 =>
    some (.inl (l1, w64 (t.2 + 1)))
  else
    some (.inr t.1)
theorem le_dispatchref6_Kids_l1 (c : Conf) (path : List UInt8) (t : List (List UInt8) × Int) : Lo (c_dispatchref6_Kids_l1 c path t) (dispatchref6_Kids_l1 c path t) := by
  unfold c_dispatchref6_Kids_l1 dispatchref6_Kids_l1
  repeat' (first | with_reducible exact le_dispatchref6_above _ | with_reducible refine lo_bind4 ?_ ?_ ?_ ?_ ?_ | with_reducible refine lo_bind3 ?_ ?_ ?_ ?_ | with_reducible refine lo_bind2 ?_ ?_ ?_ | with_reducible refine lo_bind ?_ ?_ | with_reducible refine lo_cond ?_ ?_ | with_reducible refine lo_iter ?_ _ | (intro _) | with_reducible exact lo_refl _ | exact lo_none | (dsimp only))
def c_dispatchref6_Kids (c : Conf) (path : List UInt8) : Option (List (List UInt8)) :=
  (itr 4096 (c_dispatchref6_Kids_l1 c path) ([], 0)).bind fun l2 =>
  some l2
theorem le_dispatchref6_Kids (c : Conf) (path : List UInt8) : Lo (c_dispatchref6_Kids c path) (dispatchref6_Kids c path) := by
  unfold c_dispatchref6_Kids dispatchref6_Kids
  repeat' (first | with_reducible exact le_dispatchref6_Kids_l1 _ _ _ | with_reducible refine lo_bind4 ?_ ?_ ?_ ?_ ?_ | with_reducible refine lo_bind3 ?_ ?_ ?_ ?_ | with_reducible refine lo_bind2 ?_ ?_ ?_ | with_reducible refine lo_bind ?_ ?_ | with_reducible refine lo_cond ?_ ?_ | with_reducible refine lo_iter ?_ _ | (intro _) | with_reducible exact lo_refl _ | exact lo_none | (dsimp only))
def c_dispatchref6_Leaf (c : Conf) (path : List UInt8) : Option Bool :=
  (c_dispatchref6_Find c path).bind fun x =>
  bif x.2 then
    (c_dispatchref6_Kids c path).bind fun x1 =>
    some ((x1.length : Int) == 0)
  else
    some false
theorem le_dispatchref6_Leaf (c : Conf) (path : List UInt8) : Lo (c_dispatchref6_Leaf c path) (dispatchref6_Leaf c path) := by
  unfold c_dispatchref6_Leaf dispatchref6_Leaf
  repeat' (first | with_reducible exact le_dispatchref6_Find _ _ | with_reducible exact le_dispatchref6_Kids _ _ | with_reducible refine lo_bind4 ?_ ?_ ?_ ?_ ?_ | with_reducible refine lo_bind3 ?_ ?_ ?_ ?_ | with_reducible refine lo_bind2 ?_ ?_ ?_ | with_reducible refine lo_bind ?_ ?_ | with_reducible refine lo_cond ?_ ?_ | with_reducible refine lo_iter ?_ _ | (intro _) | with_reducible exact lo_refl _ | exact lo_none | (dsimp only))
def c_dispatchref10_forget_l1 (s : State) (t : List App × Bool × Int) : Option ((List App × Bool × Int) ⊕ List App) :=
  bif decide (t.2.2 < (s.Apps.length : Int)) then
    (
      (
        bif ! t.2.1 then
          (idx s.Apps t.2.2).bind fun x =>
          (c_dispatchref10_Live x).bind fun x1 =>
          some (! x1)
        else
          some false).bind fun q =>
      bif q then
        some (t.1, true)
      else
        (idx s.Apps t.2.2).bind fun x2 =>
        (app 200 t.1 [x2]).bind fun l =>
        some (l, t.2.1)).bind fun q1 =>
    some (.inl (q1.1, q1.2, w64 (t.2.2 + 1)))
  else
    some (.inr t.1)
theorem le_dispatchref10_forget_l1 (s : State) (t : List App × Bool × Int) : Lo (c_dispatchref10_forget_l1 s t) (dispatchref10_forget_l1 s t) := by
  unfold c_dispatchref10_forget_l1 dispatchref10_forget_l1
  repeat' (first | with_reducible exact le_dispatchref10_Live _ | with_reducible refine lo_bind4 ?_ ?_ ?_ ?_ ?_ | with_reducible refine lo_bind3 ?_ ?_ ?_ ?_ | with_reducible refine lo_bind2 ?_ ?_ ?_ | with_reducible refine lo_bind ?_ ?_ | with_reducible refine lo_cond ?_ ?_ | with_reducible refine lo_iter ?_ _ | (intro _) | with_reducible exact lo_refl _ | exact lo_none | (dsimp only))
def c_dispatchref10_forget (s : State) : Option State :=
  (itr 4096 (c_dispatchref10_forget_l1 s) ([], false, 0)).bind fun l1 =>
  some (⟨⟨s.Conf.Labels, s.Conf.Queues⟩, s.Nodes, l1, s.Conts, s.Slots, s.Plans, s.Now, s.Epoch, s.Seq⟩ : State)
theorem le_dispatchref10_forget (s : State) : Lo (c_dispatchref10_forget s) (dispatchref10_forget s) := by
  unfold c_dispatchref10_forget dispatchref10_forget
  repeat' (first | with_reducible exact le_dispatchref10_forget_l1 _ _ | with_reducible refine lo_bind4 ?_ ?_ ?_ ?_ ?_ | with_reducible refine lo_bind3 ?_ ?_ ?_ ?_ | with_reducible refine lo_bind2 ?_ ?_ ?_ | with_reducible refine lo_bind ?_ ?_ | with_reducible refine lo_cond ?_ ?_ | with_reducible refine lo_iter ?_ _ | (intro _) | with_reducible exact lo_refl _ | exact lo_none | (dsimp only))
def c_dispatchref10_Put_l1 (s : State) (a : App) (k : Int) : Option (Int ⊕ Int) :=
  (
    bif decide (k < (s.Apps.length : Int)) then
      (idx s.Apps k).bind fun x =>
      some (decide (x.Id < a.Id))
    else
      some false).bind fun q =>
  bif q then
    some (.inl (w64 (k + 1)))
  else
    some (.inr k)
theorem le_dispatchref10_Put_l1 (s : State) (a : App) (k : Int) : Lo (c_dispatchref10_Put_l1 s a k) (dispatchref10_Put_l1 s a k) := by
  unfold c_dispatchref10_Put_l1 dispatchref10_Put_l1
  repeat' (first | with_reducible refine lo_bind4 ?_ ?_ ?_ ?_ ?_ | with_reducible refine lo_bind3 ?_ ?_ ?_ ?_ | with_reducible refine lo_bind2 ?_ ?_ ?_ | with_reducible refine lo_bind ?_ ?_ | with_reducible refine lo_cond ?_ ?_ | with_reducible refine lo_iter ?_ _ | (intro _) | with_reducible exact lo_refl _ | exact lo_none | (dsimp only))
def c_dispatchref10_Put (s : State) (a : App) : Option State :=
  (itr 4096 (c_dispatchref10_Put_l1 s a) 0).bind fun k1 =>
  (slc s.Apps 0 k1).bind fun l =>
  (app 200 [] l).bind fun l1 =>
  (app 200 l1 [a]).bind fun l2 =>
  (
    (
      bif decide (k1 < (s.Apps.length : Int)) then
        (idx s.Apps k1).bind fun x1 =>
        some (x1.Id == a.Id)
      else
        some false).bind fun q1 =>
    bif q1 then
      some (w64 (k1 + 1))
    else
      some k1).bind fun k2 =>
  (slc s.Apps k2 (s.Apps.length : Int)).bind fun l3 =>
  (app 200 l2 l3).bind fun l4 =>
  some (⟨⟨s.Conf.Labels, s.Conf.Queues⟩, s.Nodes, l4, s.Conts, s.Slots, s.Plans, s.Now, s.Epoch, s.Seq⟩ : State)
theorem le_dispatchref10_Put (s : State) (a : App) : Lo (c_dispatchref10_Put s a) (dispatchref10_Put s a) := by
  unfold c_dispatchref10_Put dispatchref10_Put
  repeat' (first | with_reducible exact le_dispatchref10_Put_l1 _ _ _ | with_reducible refine lo_bind4 ?_ ?_ ?_ ?_ ?_ | with_reducible refine lo_bind3 ?_ ?_ ?_ ?_ | with_reducible refine lo_bind2 ?_ ?_ ?_ | with_reducible refine lo_bind ?_ ?_ | with_reducible refine lo_cond ?_ ?_ | with_reducible refine lo_iter ?_ _ | (intro _) | with_reducible exact lo_refl _ | exact lo_none | (dsimp only))
def c_dispatchref10_first (a : App) : Option (List Ask) :=
  some [(⟨0, 0, ⟨a.Master.Mem, a.Master.Cores⟩, 1, (-1), (-1), 0⟩ : Ask)]
theorem le_dispatchref10_first (a : App) : Lo (c_dispatchref10_first a) (dispatchref10_first a) := by
  unfold c_dispatchref10_first dispatchref10_first
  repeat' (first | with_reducible refine lo_bind4 ?_ ?_ ?_ ?_ ?_ | with_reducible refine lo_bind3 ?_ ?_ ?_ ?_ | with_reducible refine lo_bind2 ?_ ?_ ?_ | with_reducible refine lo_bind ?_ ?_ | with_reducible refine lo_cond ?_ ?_ | with_reducible refine lo_iter ?_ _ | (intro _) | with_reducible exact lo_refl _ | exact lo_none | (dsimp only))
def c_dispatchref10_Submit_l1 (s : State) (t : Int × Int) : Option ((Int × Int) ⊕ Int) :=
  bif decide (t.2 < (s.Apps.length : Int)) then
    (
      (idx s.Apps t.2).bind fun x3 =>
      (c_dispatchref10_Live x3).bind fun x4 =>
      bif x4 then
        some (w64 (t.1 + 1))
      else
        some t.1).bind fun live =>
    some (.inl (live, w64 (t.2 + 1)))
  else
    some (.inr t.1)
theorem le_dispatchref10_Submit_l1 (s : State) (t : Int × Int) : Lo (c_dispatchref10_Submit_l1 s t) (dispatchref10_Submit_l1 s t) := by
  unfold c_dispatchref10_Submit_l1 dispatchref10_Submit_l1
  repeat' (first | with_reducible exact le_dispatchref10_Live _ | with_reducible refine lo_bind4 ?_ ?_ ?_ ?_ ?_ | with_reducible refine lo_bind3 ?_ ?_ ?_ ?_ | with_reducible refine lo_bind2 ?_ ?_ ?_ | with_reducible refine lo_bind ?_ ?_ | with_reducible refine lo_cond ?_ ?_ | with_reducible refine lo_iter ?_ _ | (intro _) | with_reducible exact lo_refl _ | exact lo_none | (dsimp only))
def c_dispatchref10_Submit (s : State) (a : App) : Option (State × Int) :=
  (
    bif decide (a.Id < 0) then
      some true
    else
      bif decide (a.Id > 9999) then
        some true
      else
        bif decide (a.User < 0) then
          some true
        else
          bif decide (a.User > 99) then
            some true
          else
            bif decide (a.Prio < 0) then
              some true
            else
              bif decide (a.Prio > 9) then
                some true
              else
                (c_dispatchref10_part a.Master.Mem).bind fun x =>
                bif ! x then
                  some true
                else
                  (c_dispatchref10_part a.Master.Cores).bind fun x1 =>
                  some (! x1)).bind fun q =>
  bif q then
    some (s, 1)
  else
    (c_dispatchref10_Find s a.Id).bind fun x2 =>
    bif x2.2 then
      some (s, 7)
    else
      (itr 4096 (c_dispatchref10_Submit_l1 s) (0, 0)).bind fun live1 =>
      bif decide (live1 ≥ 16) then
        some (s, 4)
      else
        (c_dispatchref6_Leaf s.Conf a.Queue).bind fun x5 =>
        bif ! x5 then
          some (s, 19)
        else
          (
            bif decide ((s.Apps.length : Int) ≥ 16) then
              (c_dispatchref10_forget s).bind fun x6 =>
              some x6
            else
              some s).bind fun s1 =>
          (c_dispatchref10_first a).bind fun x7 =>
          (c_dispatchref10_Put s1 (⟨a.Id, 1, a.Queue, a.User, a.Prio, ⟨a.Master.Mem, a.Master.Cores⟩, x7, s1.Now, 0, [], [], [], []⟩ : App)).bind fun x8 =>
          some (x8, 0)
theorem le_dispatchref10_Submit (s : State) (a : App) : Lo (c_dispatchref10_Submit s a) (dispatchref10_Submit s a) := by
  unfold c_dispatchref10_Submit dispatchref10_Submit
  repeat' (first | with_reducible exact le_dispatchref10_part _ | with_reducible exact le_dispatchref10_Find _ _ | with_reducible exact le_dispatchref10_Submit_l1 _ _ | with_reducible exact le_dispatchref6_Leaf _ _ | with_reducible exact le_dispatchref10_forget _ | with_reducible exact le_dispatchref10_first _ | with_reducible exact le_dispatchref10_Put _ _ | with_reducible refine lo_bind4 ?_ ?_ ?_ ?_ ?_ | with_reducible refine lo_bind3 ?_ ?_ ?_ ?_ | with_reducible refine lo_bind2 ?_ ?_ ?_ | with_reducible refine lo_bind ?_ ?_ | with_reducible refine lo_cond ?_ ?_ | with_reducible refine lo_iter ?_ _ | (intro _) | with_reducible exact lo_refl _ | exact lo_none | (dsimp only))
def c_dispatchlaw14_known : Option Bool :=
  (c_dispatchref19_New).bind fun x =>
  (c_dispatchref8_Register x (⟨1, 0, 0, ⟨4, 4⟩, 0, 0, false⟩ : Node)).bind fun x1 =>
  (c_dispatchref10_Submit x1.1 (⟨7, 0, ([114, 111, 111, 116] : List UInt8), 0, 0, ⟨2, 1⟩, [], 0, 0, [], [], [], []⟩ : App)).bind fun x2 =>
  (c_assign_One x2.1 1).bind fun x3 =>
  (c_dispatchref10_Find x3.1 7).bind fun x4 =>
  bif x3.2.1 == 1 then
    bif x3.2.2.Id == 1 then
      bif x3.2.2.Master then
        bif x3.2.2.App == 7 then
          bif x4.1.State == 2 then
            some ((x3.1.Conts.length : Int) == 1)
          else
            some false
        else
          some false
      else
        some false
    else
      some false
  else
    some false
theorem le_dispatchlaw14_known : Lo (c_dispatchlaw14_known) (dispatchlaw14_known) := by
  unfold c_dispatchlaw14_known dispatchlaw14_known
  repeat' (first | with_reducible exact le_dispatchref19_New  | with_reducible exact le_dispatchref8_Register _ _ | with_reducible exact le_dispatchref10_Submit _ _ | with_reducible exact le_assign_One _ _ | with_reducible exact le_dispatchref10_Find _ _ | with_reducible refine lo_bind4 ?_ ?_ ?_ ?_ ?_ | with_reducible refine lo_bind3 ?_ ?_ ?_ ?_ | with_reducible refine lo_bind2 ?_ ?_ ?_ | with_reducible refine lo_bind ?_ ?_ | with_reducible refine lo_cond ?_ ?_ | with_reducible refine lo_iter ?_ _ | (intro _) | with_reducible exact lo_refl _ | exact lo_none | (dsimp only))
def c_dispatchlaw14_within (at_ : Int) (n : Int) : Option Int :=
  (nz n).bind fun _ =>
  (
    bif decide ((Int.tmod at_ n) < 0) then
      let k := w64 ((Int.tmod at_ n) + n)
      some k
    else
      some (Int.tmod at_ n)).bind fun k1 =>
  some k1
theorem le_dispatchlaw14_within (at_ : Int) (n : Int) : Lo (c_dispatchlaw14_within at_ n) (dispatchlaw14_within at_ n) := by
  unfold c_dispatchlaw14_within dispatchlaw14_within
  repeat' (first | with_reducible refine lo_bind4 ?_ ?_ ?_ ?_ ?_ | with_reducible refine lo_bind3 ?_ ?_ ?_ ?_ | with_reducible refine lo_bind2 ?_ ?_ ?_ | with_reducible refine lo_bind ?_ ?_ | with_reducible refine lo_cond ?_ ?_ | with_reducible refine lo_iter ?_ _ | (intro _) | with_reducible exact lo_refl _ | exact lo_none | (dsimp only))
def c_dispatchlaw14_two_l3 (used : Arr2_Int) (t1 : State × Int) (t2 : State × Int) : Option ((State × Int) ⊕ State) :=
  (inb t1.2 2).bind fun i3 =>
  ([used.a0, used.a1][i3]?).bind fun x5 =>
  bif decide (t2.2 < x5) then
    (app 72 t2.1.Conts [(⟨w64 (t2.1.Seq + 1), t1.2, 1, ⟨1, 1⟩, 0, 0, t2.2 == 0, 0⟩ : Cont)]).bind fun l2 =>
    some (.inl ((⟨⟨t2.1.Conf.Labels, t2.1.Conf.Queues⟩, t2.1.Nodes, t2.1.Apps, l2, t2.1.Slots, t2.1.Plans, t2.1.Now, t2.1.Epoch, w64 (t2.1.Seq + 1)⟩ : State), w64 (t2.2 + 1)))
  else
    some (.inr t2.1)
theorem le_dispatchlaw14_two_l3 (used : Arr2_Int) (t1 : State × Int) (t2 : State × Int) : Lo (c_dispatchlaw14_two_l3 used t1 t2) (dispatchlaw14_two_l3 used t1 t2) := by
  unfold c_dispatchlaw14_two_l3 dispatchlaw14_two_l3
  repeat' (first | with_reducible refine lo_bind4 ?_ ?_ ?_ ?_ ?_ | with_reducible refine lo_bind3 ?_ ?_ ?_ ?_ | with_reducible refine lo_bind2 ?_ ?_ ?_ | with_reducible refine lo_bind ?_ ?_ | with_reducible refine lo_cond ?_ ?_ | with_reducible refine lo_iter ?_ _ | (intro _) | with_reducible exact lo_refl _ | exact lo_none | (dsimp only))
def c_dispatchlaw14_two_l2 (used : Arr2_Int) (t1 : State × Int) : Option ((State × Int) ⊕ State) :=
  bif decide (t1.2 < 2) then
    (itr 4096 (c_dispatchlaw14_two_l3 used t1) (t1.1, 0)).bind fun s1 =>
    some (.inl (s1, w64 (t1.2 + 1)))
  else
    some (.inr t1.1)
theorem le_dispatchlaw14_two_l2 (used : Arr2_Int) (t1 : State × Int) : Lo (c_dispatchlaw14_two_l2 used t1) (dispatchlaw14_two_l2 used t1) := by
  unfold c_dispatchlaw14_two_l2 dispatchlaw14_two_l2
  repeat' (first | with_reducible exact le_dispatchlaw14_two_l3 _ _ _ | with_reducible refine lo_bind4 ?_ ?_ ?_ ?_ ?_ | with_reducible refine lo_bind3 ?_ ?_ ?_ ?_ | with_reducible refine lo_bind2 ?_ ?_ ?_ | with_reducible refine lo_bind ?_ ?_ | with_reducible refine lo_cond ?_ ?_ | with_reducible refine lo_iter ?_ _ | (intro _) | with_reducible exact lo_refl _ | exact lo_none | (dsimp only))
def c_dispatchlaw14_two_l1 (want : Arr2_Int) (t : State × Int) : Option ((State × Int) ⊕ State) :=
  bif decide (t.2 < 2) then
    (inb t.2 [([114, 111, 111, 116, 46, 97] : List UInt8), ([114, 111, 111, 116, 46, 98] : List UInt8)].length).bind fun i =>
    ([([114, 111, 111, 116, 46, 97] : List UInt8), ([114, 111, 111, 116, 46, 98] : List UInt8)][i]?).bind fun x2 =>
    (
      (inb t.2 2).bind fun i1 =>
      ([want.a0, want.a1][i1]?).bind fun x3 =>
      bif decide (x3 > 0) then
        (inb t.2 2).bind fun i2 =>
        ([want.a0, want.a1][i2]?).bind fun x4 =>
        some (⟨t.2, 2, x2, 0, 0, ⟨1, 1⟩, [(⟨1, 0, ⟨1, 1⟩, x4, (-1), (-1), 0⟩ : Ask)], 0, 0, [], [], [], []⟩ : App)
      else
        some (⟨t.2, 2, x2, 0, 0, ⟨1, 1⟩, [], 0, 0, [], [], [], []⟩ : App)).bind fun a =>
    (app 200 t.1.Apps [a]).bind fun l1 =>
    some (.inl ((⟨⟨t.1.Conf.Labels, t.1.Conf.Queues⟩, t.1.Nodes, l1, t.1.Conts, t.1.Slots, t.1.Plans, t.1.Now, t.1.Epoch, t.1.Seq⟩ : State), w64 (t.2 + 1)))
  else
    some (.inr t.1)
theorem le_dispatchlaw14_two_l1 (want : Arr2_Int) (t : State × Int) : Lo (c_dispatchlaw14_two_l1 want t) (dispatchlaw14_two_l1 want t) := by
  unfold c_dispatchlaw14_two_l1 dispatchlaw14_two_l1
  repeat' (first | with_reducible refine lo_bind4 ?_ ?_ ?_ ?_ ?_ | with_reducible refine lo_bind3 ?_ ?_ ?_ ?_ | with_reducible refine lo_bind2 ?_ ?_ ?_ | with_reducible refine lo_bind ?_ ?_ | with_reducible refine lo_cond ?_ ?_ | with_reducible refine lo_iter ?_ _ | (intro _) | with_reducible exact lo_refl _ | exact lo_none | (dsimp only))
def c_dispatchlaw14_two (units : Int) (want : Arr2_Int) (used : Arr2_Int) : Option State :=
  (c_dispatchref19_New).bind fun x =>
  (app 48 x.Conf.Queues [(⟨([114, 111, 111, 116, 46, 97] : List UInt8), [(⟨5000, 10000⟩ : Cap)], 1000000⟩ : Queue), (⟨([114, 111, 111, 116, 46, 98] : List UInt8), [(⟨5000, 10000⟩ : Cap)], 1000000⟩ : Queue)]).bind fun l =>
  (c_dispatchref8_Register (⟨⟨x.Conf.Labels, l⟩, x.Nodes, x.Apps, x.Conts, x.Slots, x.Plans, x.Now, x.Epoch, x.Seq⟩ : State) (⟨1, 0, 0, ⟨units, units⟩, 0, 0, false⟩ : Node)).bind fun x1 =>
  (itr 4096 (c_dispatchlaw14_two_l1 want) (x1.1, 0)).bind fun s =>
  (itr 4096 (c_dispatchlaw14_two_l2 used) (s, 0)).bind fun s2 =>
  some s2
theorem le_dispatchlaw14_two (units : Int) (want : Arr2_Int) (used : Arr2_Int) : Lo (c_dispatchlaw14_two units want used) (dispatchlaw14_two units want used) := by
  unfold c_dispatchlaw14_two dispatchlaw14_two
  repeat' (first | with_reducible exact le_dispatchref19_New  | with_reducible exact le_dispatchref8_Register _ _ | with_reducible exact le_dispatchlaw14_two_l1 _ _ | with_reducible exact le_dispatchlaw14_two_l2 _ _ | with_reducible refine lo_bind4 ?_ ?_ ?_ ?_ ?_ | with_reducible refine lo_bind3 ?_ ?_ ?_ ?_ | with_reducible refine lo_bind2 ?_ ?_ ?_ | with_reducible refine lo_bind ?_ ?_ | with_reducible refine lo_cond ?_ ?_ | with_reducible refine lo_iter ?_ _ | (intro _) | with_reducible exact lo_refl _ | exact lo_none | (dsimp only))
def c_dispatchref1_Less (a : Vec) (b : Vec) : Option Vec :=
  some (⟨imax (w64 (a.Mem - b.Mem)) 0, imax (w64 (a.Cores - b.Cores)) 0⟩ : Vec)
theorem le_dispatchref1_Less (a : Vec) (b : Vec) : Lo (c_dispatchref1_Less a b) (dispatchref1_Less a b) := by
  unfold c_dispatchref1_Less dispatchref1_Less
  repeat' (first | with_reducible refine lo_bind4 ?_ ?_ ?_ ?_ ?_ | with_reducible refine lo_bind3 ?_ ?_ ?_ ?_ | with_reducible refine lo_bind2 ?_ ?_ ?_ | with_reducible refine lo_bind ?_ ?_ | with_reducible refine lo_cond ?_ ?_ | with_reducible refine lo_iter ?_ _ | (intro _) | with_reducible exact lo_refl _ | exact lo_none | (dsimp only))
def c_dispatchref1_Plus (a : Vec) (b : Vec) : Option Vec :=
  some (⟨w64 (a.Mem + b.Mem), w64 (a.Cores + b.Cores)⟩ : Vec)
theorem le_dispatchref1_Plus (a : Vec) (b : Vec) : Lo (c_dispatchref1_Plus a b) (dispatchref1_Plus a b) := by
  unfold c_dispatchref1_Plus dispatchref1_Plus
  repeat' (first | with_reducible refine lo_bind4 ?_ ?_ ?_ ?_ ?_ | with_reducible refine lo_bind3 ?_ ?_ ?_ ?_ | with_reducible refine lo_bind2 ?_ ?_ ?_ | with_reducible refine lo_bind ?_ ?_ | with_reducible refine lo_cond ?_ ?_ | with_reducible refine lo_iter ?_ _ | (intro _) | with_reducible exact lo_refl _ | exact lo_none | (dsimp only))
def c_dispatchref8_Used_l1 (s : State) (id_ : Int) (t : Vec × Int) : Option ((Vec × Int) ⊕ Vec) :=
  bif decide (t.2 < (s.Conts.length : Int)) then
    (
      (idx s.Conts t.2).bind fun x =>
      bif x.Node == id_ then
        (idx s.Conts t.2).bind fun x1 =>
        (c_dispatchref1_Plus t.1 x1.Size).bind fun x2 =>
        some x2
      else
        some t.1).bind fun v =>
    some (.inl (v, w64 (t.2 + 1)))
  else
    some (.inr t.1)
theorem le_dispatchref8_Used_l1 (s : State) (id_ : Int) (t : Vec × Int) : Lo (c_dispatchref8_Used_l1 s id_ t) (dispatchref8_Used_l1 s id_ t) := by
  unfold c_dispatchref8_Used_l1 dispatchref8_Used_l1
  repeat' (first | with_reducible exact le_dispatchref1_Plus _ _ | with_reducible refine lo_bind4 ?_ ?_ ?_ ?_ ?_ | with_reducible refine lo_bind3 ?_ ?_ ?_ ?_ | with_reducible refine lo_bind2 ?_ ?_ ?_ | with_reducible refine lo_bind ?_ ?_ | with_reducible refine lo_cond ?_ ?_ | with_reducible refine lo_iter ?_ _ | (intro _) | with_reducible exact lo_refl _ | exact lo_none | (dsimp only))
def c_dispatchref8_Used (s : State) (id_ : Int) : Option Vec :=
  (itr 4096 (c_dispatchref8_Used_l1 s id_) ((⟨0, 0⟩ : Vec), 0)).bind fun v1 =>
  some v1
theorem le_dispatchref8_Used (s : State) (id_ : Int) : Lo (c_dispatchref8_Used s id_) (dispatchref8_Used s id_) := by
  unfold c_dispatchref8_Used dispatchref8_Used
  repeat' (first | with_reducible exact le_dispatchref8_Used_l1 _ _ _ | with_reducible refine lo_bind4 ?_ ?_ ?_ ?_ ?_ | with_reducible refine lo_bind3 ?_ ?_ ?_ ?_ | with_reducible refine lo_bind2 ?_ ?_ ?_ | with_reducible refine lo_bind ?_ ?_ | with_reducible refine lo_cond ?_ ?_ | with_reducible refine lo_iter ?_ _ | (intro _) | with_reducible exact lo_refl _ | exact lo_none | (dsimp only))
def c_dispatchref8_Free (s : State) (id_ : Int) : Option Vec :=
  (c_dispatchref8_Find s id_).bind fun x =>
  (
    bif ! x.2 then
      some true
    else
      some (! x.1.Up)).bind fun q =>
  bif q then
    some (⟨0, 0⟩ : Vec)
  else
    (c_dispatchref8_Used s id_).bind fun x1 =>
    (c_dispatchref1_Less x.1.Cap x1).bind fun x2 =>
    some x2
theorem le_dispatchref8_Free (s : State) (id_ : Int) : Lo (c_dispatchref8_Free s id_) (dispatchref8_Free s id_) := by
  unfold c_dispatchref8_Free dispatchref8_Free
  repeat' (first | with_reducible exact le_dispatchref8_Find _ _ | with_reducible exact le_dispatchref8_Used _ _ | with_reducible exact le_dispatchref1_Less _ _ | with_reducible refine lo_bind4 ?_ ?_ ?_ ?_ ?_ | with_reducible refine lo_bind3 ?_ ?_ ?_ ?_ | with_reducible refine lo_bind2 ?_ ?_ ?_ | with_reducible refine lo_bind ?_ ?_ | with_reducible refine lo_cond ?_ ?_ | with_reducible refine lo_iter ?_ _ | (intro _) | with_reducible exact lo_refl _ | exact lo_none | (dsimp only))
def c_dispatchref6_Up_l1 (t : List UInt8 × List (List UInt8)) : Option ((List UInt8 × List (List UInt8)) ⊕ List (List UInt8)) :=
  bif ! (t.1 == ([] : List UInt8)) then
    (app 16 t.2 [t.1]).bind fun l =>
    (c_dispatchref6_above t.1).bind fun path1 =>
    some (.inl (path1, l))
  else
    some (.inr t.2)
theorem le_dispatchref6_Up_l1 (t : List UInt8 × List (List UInt8)) : Lo (c_dispatchref6_Up_l1 t) (dispatchref6_Up_l1 t) := by
  unfold c_dispatchref6_Up_l1 dispatchref6_Up_l1
  repeat' (first | with_reducible exact le_dispatchref6_above _ | with_reducible refine lo_bind4 ?_ ?_ ?_ ?_ ?_ | with_reducible refine lo_bind3 ?_ ?_ ?_ ?_ | with_reducible refine lo_bind2 ?_ ?_ ?_ | with_reducible refine lo_bind ?_ ?_ | with_reducible refine lo_cond ?_ ?_ | with_reducible refine lo_iter ?_ _ | (intro _) | with_reducible exact lo_refl _ | exact lo_none | (dsimp only))
def c_dispatchref6_Up (path : List UInt8) : Option (List (List UInt8)) :=
  (itr 4096 c_dispatchref6_Up_l1 (path, [])).bind fun l1 =>
  some l1
theorem le_dispatchref6_Up (path : List UInt8) : Lo (c_dispatchref6_Up path) (dispatchref6_Up path) := by
  unfold c_dispatchref6_Up dispatchref6_Up
  repeat' (first | with_reducible exact le_dispatchref6_Up_l1 _ | with_reducible refine lo_bind4 ?_ ?_ ?_ ?_ ?_ | with_reducible refine lo_bind3 ?_ ?_ ?_ ?_ | with_reducible refine lo_bind2 ?_ ?_ ?_ | with_reducible refine lo_bind ?_ ?_ | with_reducible refine lo_cond ?_ ?_ | with_reducible refine lo_iter ?_ _ | (intro _) | with_reducible exact lo_refl _ | exact lo_none | (dsimp only))
def c_dispatchref11_below_l1 (path : List UInt8) (up : List (List UInt8)) (i : Int) : Option (Int ⊕ (Bool ⊕ Unit)) :=
  bif decide (i < (up.length : Int)) then
    (inb i up.length).bind fun i1 =>
    (up[i1]?).bind fun x =>
    bif x == path then
      some (.inr (.inl true))
    else
      some (.inl (w64 (i + 1)))
  else
    some (.inr (.inr ()))
theorem le_dispatchref11_below_l1 (path : List UInt8) (up : List (List UInt8)) (i : Int) : Lo (c_dispatchref11_below_l1 path up i) (dispatchref11_below_l1 path up i) := by
  unfold c_dispatchref11_below_l1 dispatchref11_below_l1
  repeat' (first | with_reducible refine lo_bind4 ?_ ?_ ?_ ?_ ?_ | with_reducible refine lo_bind3 ?_ ?_ ?_ ?_ | with_reducible refine lo_bind2 ?_ ?_ ?_ | with_reducible refine lo_bind ?_ ?_ | with_reducible refine lo_cond ?_ ?_ | with_reducible refine lo_iter ?_ _ | (intro _) | with_reducible exact lo_refl _ | exact lo_none | (dsimp only))
def c_dispatchref11_below (leaf : List UInt8) (path : List UInt8) : Option Bool :=
  (c_dispatchref6_Up leaf).bind fun up =>
  (itr 4096 (c_dispatchref11_below_l1 path up) 0).bind fun q0 =>
  match q0 with
  | .inl q =>
    some q
  | .inr _ =>
    some false
theorem le_dispatchref11_below (leaf : List UInt8) (path : List UInt8) : Lo (c_dispatchref11_below leaf path) (dispatchref11_below leaf path) := by
  unfold c_dispatchref11_below dispatchref11_below
  repeat' (first | with_reducible exact le_dispatchref6_Up _ | with_reducible exact le_dispatchref11_below_l1 _ _ _ | with_reducible refine lo_bind4 ?_ ?_ ?_ ?_ ?_ | with_reducible refine lo_bind3 ?_ ?_ ?_ ?_ | with_reducible refine lo_bind2 ?_ ?_ ?_ | with_reducible refine lo_bind ?_ ?_ | with_reducible refine lo_cond ?_ ?_ | with_reducible refine lo_iter ?_ _ | (intro _) | with_reducible exact lo_refl _ | exact lo_none | (dsimp only))
def c_dispatchref9_Pending_l1 (l : List Ask) (label : Int) (t : Vec × Int) : Option ((Vec × Int) ⊕ Vec) :=
  bif decide (t.2 < (l.length : Int)) then
    (
      (idx l t.2).bind fun x =>
      bif x.Label == label then
        (idx l t.2).bind fun x1 =>
        (idx l t.2).bind fun x2 =>
        (idx l t.2).bind fun x3 =>
        (idx l t.2).bind fun x4 =>
        (c_dispatchref1_Plus t.1 (⟨w64 (x1.Size.Mem * x2.Count), w64 (x3.Size.Cores * x4.Count)⟩ : Vec)).bind fun x5 =>
        some x5
      else
        some t.1).bind fun v =>
    some (.inl (v, w64 (t.2 + 1)))
  else
    some (.inr t.1)
theorem le_dispatchref9_Pending_l1 (l : List Ask) (label : Int) (t : Vec × Int) : Lo (c_dispatchref9_Pending_l1 l label t) (dispatchref9_Pending_l1 l label t) := by
  unfold c_dispatchref9_Pending_l1 dispatchref9_Pending_l1
  repeat' (first | with_reducible exact le_dispatchref1_Plus _ _ | with_reducible refine lo_bind4 ?_ ?_ ?_ ?_ ?_ | with_reducible refine lo_bind3 ?_ ?_ ?_ ?_ | with_reducible refine lo_bind2 ?_ ?_ ?_ | with_reducible refine lo_bind ?_ ?_ | with_reducible refine lo_cond ?_ ?_ | with_reducible refine lo_iter ?_ _ | (intro _) | with_reducible exact lo_refl _ | exact lo_none | (dsimp only))
def c_dispatchref9_Pending (l : List Ask) (label : Int) : Option Vec :=
  (itr 4096 (c_dispatchref9_Pending_l1 l label) ((⟨0, 0⟩ : Vec), 0)).bind fun v1 =>
  some v1
theorem le_dispatchref9_Pending (l : List Ask) (label : Int) : Lo (c_dispatchref9_Pending l label) (dispatchref9_Pending l label) := by
  unfold c_dispatchref9_Pending dispatchref9_Pending
  repeat' (first | with_reducible exact le_dispatchref9_Pending_l1 _ _ _ | with_reducible refine lo_bind4 ?_ ?_ ?_ ?_ ?_ | with_reducible refine lo_bind3 ?_ ?_ ?_ ?_ | with_reducible refine lo_bind2 ?_ ?_ ?_ | with_reducible refine lo_bind ?_ ?_ | with_reducible refine lo_cond ?_ ?_ | with_reducible refine lo_iter ?_ _ | (intro _) | with_reducible exact lo_refl _ | exact lo_none | (dsimp only))
def c_dispatchref11_Pending_l1 (s : State) (path : List UInt8) (label : Int) (t : Vec × Int) : Option ((Vec × Int) ⊕ Vec) :=
  bif decide (t.2 < (s.Apps.length : Int)) then
    (
      (
        (idx s.Apps t.2).bind fun x =>
        (c_dispatchref10_Live x).bind fun x1 =>
        bif x1 then
          (idx s.Apps t.2).bind fun x2 =>
          (c_dispatchref11_below x2.Queue path).bind fun x3 =>
          some x3
        else
          some false).bind fun q =>
      bif q then
        (idx s.Apps t.2).bind fun x4 =>
        (c_dispatchref9_Pending x4.Asks label).bind fun x5 =>
        (c_dispatchref1_Plus t.1 x5).bind fun x6 =>
        some x6
      else
        some t.1).bind fun v =>
    some (.inl (v, w64 (t.2 + 1)))
  else
    some (.inr t.1)
theorem le_dispatchref11_Pending_l1 (s : State) (path : List UInt8) (label : Int) (t : Vec × Int) : Lo (c_dispatchref11_Pending_l1 s path label t) (dispatchref11_Pending_l1 s path label t) := by
  unfold c_dispatchref11_Pending_l1 dispatchref11_Pending_l1
  repeat' (first | with_reducible exact le_dispatchref10_Live _ | with_reducible exact le_dispatchref11_below _ _ | with_reducible exact le_dispatchref9_Pending _ _ | with_reducible exact le_dispatchref1_Plus _ _ | with_reducible refine lo_bind4 ?_ ?_ ?_ ?_ ?_ | with_reducible refine lo_bind3 ?_ ?_ ?_ ?_ | with_reducible refine lo_bind2 ?_ ?_ ?_ | with_reducible refine lo_bind ?_ ?_ | with_reducible refine lo_cond ?_ ?_ | with_reducible refine lo_iter ?_ _ | (intro _) | with_reducible exact lo_refl _ | exact lo_none | (dsimp only))
def c_dispatchref11_Pending (s : State) (path : List UInt8) (label : Int) : Option Vec :=
  (itr 4096 (c_dispatchref11_Pending_l1 s path label) ((⟨0, 0⟩ : Vec), 0)).bind fun v1 =>
  some v1
theorem le_dispatchref11_Pending (s : State) (path : List UInt8) (label : Int) : Lo (c_dispatchref11_Pending s path label) (dispatchref11_Pending s path label) := by
  unfold c_dispatchref11_Pending dispatchref11_Pending
  repeat' (first | with_reducible exact le_dispatchref11_Pending_l1 _ _ _ _ | with_reducible refine lo_bind4 ?_ ?_ ?_ ?_ ?_ | with_reducible refine lo_bind3 ?_ ?_ ?_ ?_ | with_reducible refine lo_bind2 ?_ ?_ ?_ | with_reducible refine lo_bind ?_ ?_ | with_reducible refine lo_cond ?_ ?_ | with_reducible refine lo_iter ?_ _ | (intro _) | with_reducible exact lo_refl _ | exact lo_none | (dsimp only))
def c_dispatchref11_used_l1 (s : State) (path : List UInt8) (label : Int) (all : Bool) (user : Int) (t : Vec × Int) : Option ((Vec × Int) ⊕ Vec) :=
  bif decide (t.2 < (s.Conts.length : Int)) then
    (
      (idx s.Conts t.2).bind fun x =>
      (c_dispatchref10_Find s x.App).bind fun x1 =>
      (
        bif x1.2 then
          (idx s.Conts t.2).bind fun x2 =>
          bif x2.Label == label then
            (c_dispatchref11_below x1.1.Queue path).bind fun x3 =>
            bif x3 then
              bif all then
                some true
              else
                some (x1.1.User == user)
            else
              some false
          else
            some false
        else
          some false).bind fun q =>
      bif q then
        (idx s.Conts t.2).bind fun x4 =>
        (c_dispatchref1_Plus t.1 x4.Size).bind fun x5 =>
        some x5
      else
        some t.1).bind fun v =>
    some (.inl (v, w64 (t.2 + 1)))
  else
    some (.inr t.1)
theorem le_dispatchref11_used_l1 (s : State) (path : List UInt8) (label : Int) (all : Bool) (user : Int) (t : Vec × Int) : Lo (c_dispatchref11_used_l1 s path label all user t) (dispatchref11_used_l1 s path label all user t) := by
  unfold c_dispatchref11_used_l1 dispatchref11_used_l1
  repeat' (first | with_reducible exact le_dispatchref10_Find _ _ | with_reducible exact le_dispatchref11_below _ _ | with_reducible exact le_dispatchref1_Plus _ _ | with_reducible refine lo_bind4 ?_ ?_ ?_ ?_ ?_ | with_reducible refine lo_bind3 ?_ ?_ ?_ ?_ | with_reducible refine lo_bind2 ?_ ?_ ?_ | with_reducible refine lo_bind ?_ ?_ | with_reducible refine lo_cond ?_ ?_ | with_reducible refine lo_iter ?_ _ | (intro _) | with_reducible exact lo_refl _ | exact lo_none | (dsimp only))
def c_dispatchref11_used (s : State) (path : List UInt8) (label : Int) (all : Bool) (user : Int) : Option Vec :=
  (itr 4096 (c_dispatchref11_used_l1 s path label all user) ((⟨0, 0⟩ : Vec), 0)).bind fun v1 =>
  some v1
theorem le_dispatchref11_used (s : State) (path : List UInt8) (label : Int) (all : Bool) (user : Int) : Lo (c_dispatchref11_used s path label all user) (dispatchref11_used s path label all user) := by
  unfold c_dispatchref11_used dispatchref11_used
  repeat' (first | with_reducible exact le_dispatchref11_used_l1 _ _ _ _ _ _ | with_reducible refine lo_bind4 ?_ ?_ ?_ ?_ ?_ | with_reducible refine lo_bind3 ?_ ?_ ?_ ?_ | with_reducible refine lo_bind2 ?_ ?_ ?_ | with_reducible refine lo_bind ?_ ?_ | with_reducible refine lo_cond ?_ ?_ | with_reducible refine lo_iter ?_ _ | (intro _) | with_reducible exact lo_refl _ | exact lo_none | (dsimp only))
def c_dispatchref11_Used (s : State) (path : List UInt8) (label : Int) : Option Vec :=
  (c_dispatchref11_used s path label true 0).bind fun x =>
  some x
theorem le_dispatchref11_Used (s : State) (path : List UInt8) (label : Int) : Lo (c_dispatchref11_Used s path label) (dispatchref11_Used s path label) := by
  unfold c_dispatchref11_Used dispatchref11_Used
  repeat' (first | with_reducible exact le_dispatchref11_used _ _ _ _ _ | with_reducible refine lo_bind4 ?_ ?_ ?_ ?_ ?_ | with_reducible refine lo_bind3 ?_ ?_ ?_ ?_ | with_reducible refine lo_bind2 ?_ ?_ ?_ | with_reducible refine lo_bind ?_ ?_ | with_reducible refine lo_cond ?_ ?_ | with_reducible refine lo_iter ?_ _ | (intro _) | with_reducible exact lo_refl _ | exact lo_none | (dsimp only))
def c_dispatchlaw14_AssignTurns_l1 (t : State × Int) : Option ((State × Int) ⊕ (Bool ⊕ Unit)) :=
  bif decide (t.2 < 30) then
    (c_assign_One t.1 1).bind fun x5 =>
    bif x5.2.1 != 1 then
      (c_dispatchref8_Free t.1 1).bind fun x6 =>
      bif x6.Mem == 0 then
        some (.inr (.inl true))
      else
        (c_dispatchref11_Pending t.1 ([114, 111, 111, 116] : List UInt8) 0).bind fun x7 =>
        some (.inr (.inl (x7.Mem == 0)))
    else
      (c_dispatchref11_Used x5.1 ([114, 111, 111, 116, 46, 97] : List UInt8) 0).bind fun x8 =>
      (c_dispatchref11_Used x5.1 ([114, 111, 111, 116, 46, 98] : List UInt8) 0).bind fun x9 =>
      (
        (c_dispatchref11_Pending x5.1 ([114, 111, 111, 116, 46, 97] : List UInt8) 0).bind fun x10 =>
        bif decide (x10.Mem > 0) then
          (c_dispatchref11_Pending x5.1 ([114, 111, 111, 116, 46, 98] : List UInt8) 0).bind fun x11 =>
          bif decide (x11.Mem > 0) then
            bif decide ((w64 (x8.Mem - x9.Mem)) > 1) then
              some true
            else
              some (decide ((w64 (x9.Mem - x8.Mem)) > 1))
          else
            some false
        else
          some false).bind fun q =>
      bif q then
        some (.inr (.inl false))
      else
        some (.inl (x5.1, w64 (t.2 + 1)))
  else
    some (.inr (.inr ()))
theorem le_dispatchlaw14_AssignTurns_l1 (t : State × Int) : Lo (c_dispatchlaw14_AssignTurns_l1 t) (dispatchlaw14_AssignTurns_l1 t) := by
  unfold c_dispatchlaw14_AssignTurns_l1 dispatchlaw14_AssignTurns_l1
  repeat' (first | with_reducible exact le_assign_One _ _ | with_reducible exact le_dispatchref8_Free _ _ | with_reducible exact le_dispatchref11_Pending _ _ _ | with_reducible exact le_dispatchref11_Used _ _ _ | with_reducible refine lo_bind4 ?_ ?_ ?_ ?_ ?_ | with_reducible refine lo_bind3 ?_ ?_ ?_ ?_ | with_reducible refine lo_bind2 ?_ ?_ ?_ | with_reducible refine lo_bind ?_ ?_ | with_reducible refine lo_cond ?_ ?_ | with_reducible refine lo_iter ?_ _ | (intro _) | with_reducible exact lo_refl _ | exact lo_none | (dsimp only))
def c_dispatchlaw14_AssignTurns (units : Int) (a : Int) (b : Int) : Option Bool :=
  (c_dispatchlaw14_known).bind fun x =>
  bif ! x then
    some false
  else
    (c_dispatchlaw14_within units 20).bind fun x1 =>
    (c_dispatchlaw14_within a 20).bind fun x2 =>
    (c_dispatchlaw14_within b 20).bind fun x3 =>
    (c_dispatchlaw14_two (w64 (4 + x1)) (⟨w64 (1 + x2), w64 (1 + x3)⟩ : Arr2_Int) (⟨1, 1⟩ : Arr2_Int)).bind fun x4 =>
    (itr 4096 c_dispatchlaw14_AssignTurns_l1 (x4, 0)).bind fun q0 =>
    match q0 with
    | .inl q1 =>
      some q1
    | .inr _ =>
      some true
theorem le_dispatchlaw14_AssignTurns (units : Int) (a : Int) (b : Int) : Lo (c_dispatchlaw14_AssignTurns units a b) (dispatchlaw14_AssignTurns units a b) := by
  unfold c_dispatchlaw14_AssignTurns dispatchlaw14_AssignTurns
  repeat' (first | with_reducible exact le_dispatchlaw14_known  | with_reducible exact le_dispatchlaw14_within _ _ | with_reducible exact le_dispatchlaw14_two _ _ _ | with_reducible exact le_dispatchlaw14_AssignTurns_l1 _ | with_reducible refine lo_bind4 ?_ ?_ ?_ ?_ ?_ | with_reducible refine lo_bind3 ?_ ?_ ?_ ?_ | with_reducible refine lo_bind2 ?_ ?_ ?_ | with_reducible refine lo_bind ?_ ?_ | with_reducible refine lo_cond ?_ ?_ | with_reducible refine lo_iter ?_ _ | (intro _) | with_reducible exact lo_refl _ | exact lo_none | (dsimp only))
def c_dispatchlaw14_AssignDue (units : Int) (a : Int) (b : Int) : Option Bool :=
  (c_dispatchlaw14_known).bind fun x =>
  bif ! x then
    some false
  else
    (c_dispatchlaw14_within units 10).bind fun x1 =>
    let units1 := w64 (2 * (w64 (2 + x1)))
    (c_dispatchlaw14_within a (w64 (Int.tdiv units1 2))).bind fun x2 =>
    let x3 := w64 ((w64 (Int.tdiv units1 2)) + x2)
    bif (w64 ((w64 (units1 - x3)) - 1)) == 0 then
      some true
    else
      (c_dispatchlaw14_within b 5).bind fun x4 =>
      (c_dispatchlaw14_two units1 (⟨5, w64 (1 + x4)⟩ : Arr2_Int) (⟨x3, w64 ((w64 (units1 - x3)) - 1)⟩ : Arr2_Int)).bind fun x5 =>
      (c_assign_One x5 1).bind fun x6 =>
      bif x6.2.1 == 1 then
        bif x6.2.2.App == 1 then
          (c_dispatchref8_Free x6.1 1).bind fun x7 =>
          some (x7.Mem == 0)
        else
          some false
      else
        some false
theorem le_dispatchlaw14_AssignDue (units : Int) (a : Int) (b : Int) : Lo (c_dispatchlaw14_AssignDue units a b) (dispatchlaw14_AssignDue units a b) := by
  unfold c_dispatchlaw14_AssignDue dispatchlaw14_AssignDue
  repeat' (first | with_reducible exact le_dispatchlaw14_known  | with_reducible exact le_dispatchlaw14_within _ _ | with_reducible exact le_dispatchlaw14_two _ _ _ | with_reducible exact le_assign_One _ _ | with_reducible exact le_dispatchref8_Free _ _ | with_reducible refine lo_bind4 ?_ ?_ ?_ ?_ ?_ | with_reducible refine lo_bind3 ?_ ?_ ?_ ?_ | with_reducible refine lo_bind2 ?_ ?_ ?_ | with_reducible refine lo_bind ?_ ?_ | with_reducible refine lo_cond ?_ ?_ | with_reducible refine lo_iter ?_ _ | (intro _) | with_reducible exact lo_refl _ | exact lo_none | (dsimp only))
def c_dispatchlaw14_AssignMost (most : Int) (used : Int) : Option Bool :=
  (c_dispatchlaw14_known).bind fun x =>
  bif ! x then
    some false
  else
    (c_dispatchlaw14_within most 11).bind fun most1 =>
    (c_dispatchlaw14_within used 9).bind fun x1 =>
    (c_dispatchlaw14_two 20 (⟨3, 0⟩ : Arr2_Int) (⟨w64 (1 + x1), 1⟩ : Arr2_Int)).bind fun x2 =>
    (app 48 [] x2.Conf.Queues).bind fun l =>
    (inb 1 l.length).bind fun i =>
    (l[i]?).bind fun x3 =>
    (inb 2 (List.set l i (⟨x3.Path, [(⟨imin 5000 (w64 (most1 * 1000)), w64 (most1 * 1000)⟩ : Cap)], x3.User⟩ : Queue)).length).bind fun i1 =>
    ((List.set l i (⟨x3.Path, [(⟨imin 5000 (w64 (most1 * 1000)), w64 (most1 * 1000)⟩ : Cap)], x3.User⟩ : Queue))[i1]?).bind fun x4 =>
    (c_assign_One (⟨⟨x2.Conf.Labels, List.set (List.set l i (⟨x3.Path, [(⟨imin 5000 (w64 (most1 * 1000)), w64 (most1 * 1000)⟩ : Cap)], x3.User⟩ : Queue)) i1 (⟨x4.Path, [(⟨w64 (10000 - (imin 5000 (w64 (most1 * 1000)))), 10000⟩ : Cap)], x4.User⟩ : Queue)⟩, x2.Nodes, x2.Apps, x2.Conts, x2.Slots, x2.Plans, x2.Now, x2.Epoch, x2.Seq⟩ : State) 1).bind fun x5 =>
    bif decide ((w64 ((w64 (1 + x1)) + 1)) ≤ (w64 (2 * most1))) then
      bif x5.2.1 == 1 then
        some (x5.2.2.App == 0)
      else
        some false
    else
      some (x5.2.1 == 0)
theorem le_dispatchlaw14_AssignMost (most : Int) (used : Int) : Lo (c_dispatchlaw14_AssignMost most used) (dispatchlaw14_AssignMost most used) := by
  unfold c_dispatchlaw14_AssignMost dispatchlaw14_AssignMost
  repeat' (first | with_reducible exact le_dispatchlaw14_known  | with_reducible exact le_dispatchlaw14_within _ _ | with_reducible exact le_dispatchlaw14_two _ _ _ | with_reducible exact le_assign_One _ _ | with_reducible refine lo_bind4 ?_ ?_ ?_ ?_ ?_ | with_reducible refine lo_bind3 ?_ ?_ ?_ ?_ | with_reducible refine lo_bind2 ?_ ?_ ?_ | with_reducible refine lo_bind ?_ ?_ | with_reducible refine lo_cond ?_ ?_ | with_reducible refine lo_iter ?_ _ | (intro _) | with_reducible exact lo_refl _ | exact lo_none | (dsimp only))
def c_dispatchlaw14_AssignUser (user : Int) (used : Int) : Option Bool :=
  (c_dispatchlaw14_known).bind fun x =>
  bif ! x then
    some false
  else
    (c_dispatchlaw14_within user 10).bind fun x1 =>
    (c_dispatchlaw14_within used 8).bind fun x2 =>
    (c_dispatchlaw14_two 20 (⟨3, 0⟩ : Arr2_Int) (⟨w64 (1 + x2), 1⟩ : Arr2_Int)).bind fun x3 =>
    (app 48 [] x3.Conf.Queues).bind fun l =>
    (inb 1 l.length).bind fun i =>
    (l[i]?).bind fun x4 =>
    (c_assign_One (⟨⟨x3.Conf.Labels, List.set l i (⟨x4.Path, x4.Caps, w64 ((w64 (1 + x1)) * 1000)⟩ : Queue)⟩, x3.Nodes, x3.Apps, x3.Conts, x3.Slots, x3.Plans, x3.Now, x3.Epoch, x3.Seq⟩ : State) 1).bind fun x5 =>
    bif decide ((w64 (1 + x2)) ≤ (w64 (1 + x1))) then
      bif x5.2.1 == 1 then
        some (x5.2.2.App == 0)
      else
        some false
    else
      some (x5.2.1 == 0)
theorem le_dispatchlaw14_AssignUser (user : Int) (used : Int) : Lo (c_dispatchlaw14_AssignUser user used) (dispatchlaw14_AssignUser user used) := by
  unfold c_dispatchlaw14_AssignUser dispatchlaw14_AssignUser
  repeat' (first | with_reducible exact le_dispatchlaw14_known  | with_reducible exact le_dispatchlaw14_within _ _ | with_reducible exact le_dispatchlaw14_two _ _ _ | with_reducible exact le_assign_One _ _ | with_reducible refine lo_bind4 ?_ ?_ ?_ ?_ ?_ | with_reducible refine lo_bind3 ?_ ?_ ?_ ?_ | with_reducible refine lo_bind2 ?_ ?_ ?_ | with_reducible refine lo_bind ?_ ?_ | with_reducible refine lo_cond ?_ ?_ | with_reducible refine lo_iter ?_ _ | (intro _) | with_reducible exact lo_refl _ | exact lo_none | (dsimp only))
def c_dispatchlaw14_one_l1 (racks : List Int) (units : Int) (t : State × Int) : Option ((State × Int) ⊕ State) :=
  bif decide (t.2 < (racks.length : Int)) then
    (idx racks t.2).bind fun x2 =>
    (c_dispatchref8_Register t.1 (⟨t.2, 0, x2, ⟨units, units⟩, 0, 0, false⟩ : Node)).bind fun x3 =>
    some (.inl (x3.1, w64 (t.2 + 1)))
  else
    some (.inr t.1)
theorem le_dispatchlaw14_one_l1 (racks : List Int) (units : Int) (t : State × Int) : Lo (c_dispatchlaw14_one_l1 racks units t) (dispatchlaw14_one_l1 racks units t) := by
  unfold c_dispatchlaw14_one_l1 dispatchlaw14_one_l1
  repeat' (first | with_reducible exact le_dispatchref8_Register _ _ | with_reducible refine lo_bind4 ?_ ?_ ?_ ?_ ?_ | with_reducible refine lo_bind3 ?_ ?_ ?_ ?_ | with_reducible refine lo_bind2 ?_ ?_ ?_ | with_reducible refine lo_bind ?_ ?_ | with_reducible refine lo_cond ?_ ?_ | with_reducible refine lo_iter ?_ _ | (intro _) | with_reducible exact lo_refl _ | exact lo_none | (dsimp only))
def c_dispatchlaw14_one (racks : List Int) (units : Int) (x : Ask) : Option State :=
  (c_dispatchref19_New).bind fun x1 =>
  (itr 4096 (c_dispatchlaw14_one_l1 racks units) (x1, 0)).bind fun s =>
  some (⟨⟨s.Conf.Labels, s.Conf.Queues⟩, s.Nodes, [(⟨5, 2, ([114, 111, 111, 116] : List UInt8), 0, 0, ⟨1, 1⟩, [x], 0, 0, [], [], [], []⟩ : App)], [(⟨1, 5, 0, ⟨1, 1⟩, 0, 0, true, 0⟩ : Cont)], s.Slots, s.Plans, s.Now, s.Epoch, 1⟩ : State)
theorem le_dispatchlaw14_one (racks : List Int) (units : Int) (x : Ask) : Lo (c_dispatchlaw14_one racks units x) (dispatchlaw14_one racks units x) := by
  unfold c_dispatchlaw14_one dispatchlaw14_one
  repeat' (first | with_reducible exact le_dispatchref19_New  | with_reducible exact le_dispatchlaw14_one_l1 _ _ _ | with_reducible refine lo_bind4 ?_ ?_ ?_ ?_ ?_ | with_reducible refine lo_bind3 ?_ ?_ ?_ ?_ | with_reducible refine lo_bind2 ?_ ?_ ?_ | with_reducible refine lo_bind ?_ ?_ | with_reducible refine lo_cond ?_ ?_ | with_reducible refine lo_iter ?_ _ | (intro _) | with_reducible exact lo_refl _ | exact lo_none | (dsimp only))
def c_dispatchlaw14_AssignLabels (node : Int) (label : Int) : Option Bool :=
  (c_dispatchlaw14_known).bind fun x =>
  bif ! x then
    some false
  else
    (c_dispatchlaw14_within node 2).bind fun node1 =>
    (c_dispatchlaw14_within label 2).bind fun label1 =>
    (c_dispatchlaw14_one [0] 10 (⟨1, label1, ⟨1, 1⟩, 1, (-1), (-1), 0⟩ : Ask)).bind fun x1 =>
    (c_dispatchref8_Register (⟨⟨[([] : List UInt8), ([103, 112, 117] : List UInt8)], [(⟨([114, 111, 111, 116] : List UInt8), [(⟨10000, 10000⟩ : Cap), (⟨10000, 10000⟩ : Cap)], 10000⟩ : Queue)]⟩, x1.Nodes, x1.Apps, x1.Conts, x1.Slots, x1.Plans, x1.Now, x1.Epoch, x1.Seq⟩ : State) (⟨3, node1, 0, ⟨4, 4⟩, 0, 0, false⟩ : Node)).bind fun x2 =>
    (c_assign_One x2.1 3).bind fun x3 =>
    bif node1 == label1 then
      bif x3.2.1 == 1 then
        bif x3.2.2.Label == label1 then
          some (x3.2.2.Node == 3)
        else
          some false
      else
        some false
    else
      some (x3.2.1 == 0)
theorem le_dispatchlaw14_AssignLabels (node : Int) (label : Int) : Lo (c_dispatchlaw14_AssignLabels node label) (dispatchlaw14_AssignLabels node label) := by
  unfold c_dispatchlaw14_AssignLabels dispatchlaw14_AssignLabels
  repeat' (first | with_reducible exact le_dispatchlaw14_known  | with_reducible exact le_dispatchlaw14_within _ _ | with_reducible exact le_dispatchlaw14_one _ _ _ | with_reducible exact le_dispatchref8_Register _ _ | with_reducible exact le_assign_One _ _ | with_reducible refine lo_bind4 ?_ ?_ ?_ ?_ ?_ | with_reducible refine lo_bind3 ?_ ?_ ?_ ?_ | with_reducible refine lo_bind2 ?_ ?_ ?_ | with_reducible refine lo_bind ?_ ?_ | with_reducible refine lo_cond ?_ ?_ | with_reducible refine lo_iter ?_ _ | (intro _) | with_reducible exact lo_refl _ | exact lo_none | (dsimp only))
end Go.Fx.D
