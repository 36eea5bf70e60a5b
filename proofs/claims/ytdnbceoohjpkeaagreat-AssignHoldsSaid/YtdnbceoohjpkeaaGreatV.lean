/-
  The same functions with a bound on the rounds of their loops; that they give what the others give (printed by a program). Conditions: none.
-/
import Derived.Test.YtdnbceoohjpkeaaGreatD
import Derived.Test.YtdnbceoohjpkeaaGreatFxD
namespace Go.Fx.D
open Go Go.Fx
set_option linter.unusedVariables false
set_option linter.unusedSimpArgs false
set_option maxRecDepth 100000
def bn (s : List (List UInt8)) : Option (List (List UInt8)):=app 16 [] s
theorem iK (s : List (List UInt8)) : Lo (bn s) (aW s):=by
 unfold bn aW
 repeat' (first | with_reducible refine aa ?_ ?_ ?_ ?_ ?_ | with_reducible refine ad ?_ ?_ ?_ ?_ | with_reducible refine ab ?_ ?_ ?_ | with_reducible refine af ?_ ?_ | with_reducible refine ai ?_ ?_ | with_reducible refine ak ?_ _ | (intro _) | with_reducible exact aj _ | exact ah | (dsimp only))
def nx (s : List Queue) : Option (List Queue):=app 48 [] s
theorem v7 (s : List Queue) : Lo (nx s) (mF s):=by
 unfold nx mF
 repeat' (first | with_reducible refine aa ?_ ?_ ?_ ?_ ?_ | with_reducible refine ad ?_ ?_ ?_ ?_ | with_reducible refine ab ?_ ?_ ?_ | with_reducible refine af ?_ ?_ | with_reducible refine ai ?_ ?_ | with_reducible refine ak ?_ _ | (intro _) | with_reducible exact aj _ | exact ah | (dsimp only))
def mI (s : List Cap) : Option (List Cap):=app 16 [] s
theorem sD (s : List Cap) : Lo (mI s) (nL s):=by
 unfold mI nL
 repeat' (first | with_reducible refine aa ?_ ?_ ?_ ?_ ?_ | with_reducible refine ad ?_ ?_ ?_ ?_ | with_reducible refine ab ?_ ?_ ?_ | with_reducible refine af ?_ ?_ | with_reducible refine ai ?_ ?_ | with_reducible refine ak ?_ _ | (intro _) | with_reducible exact aj _ | exact ah | (dsimp only))
def oV (s : List Node) : Option (List Node):=app 64 [] s
theorem xF (s : List Node) : Lo (oV s) (oI s):=by
 unfold oV oI
 repeat' (first | with_reducible refine aa ?_ ?_ ?_ ?_ ?_ | with_reducible refine ad ?_ ?_ ?_ ?_ | with_reducible refine ab ?_ ?_ ?_ | with_reducible refine af ?_ ?_ | with_reducible refine ai ?_ ?_ | with_reducible refine ak ?_ _ | (intro _) | with_reducible exact aj _ | exact ah | (dsimp only))
def pg (s : List Cont) : Option (List Cont):=app 72 [] s
theorem xR (s : List Cont) : Lo (pg s) (oo s):=by
 unfold pg oo
 repeat' (first | with_reducible refine aa ?_ ?_ ?_ ?_ ?_ | with_reducible refine ad ?_ ?_ ?_ ?_ | with_reducible refine ab ?_ ?_ ?_ | with_reducible refine af ?_ ?_ | with_reducible refine ai ?_ ?_ | with_reducible refine ak ?_ _ | (intro _) | with_reducible exact aj _ | exact ah | (dsimp only))
def pi (s : List Slot) : Option (List Slot):=app 24 [] s
theorem xI (s : List Slot) : Lo (pi s) (n8 s):=by
 unfold pi n8
 repeat' (first | with_reducible refine aa ?_ ?_ ?_ ?_ ?_ | with_reducible refine ad ?_ ?_ ?_ ?_ | with_reducible refine ab ?_ ?_ ?_ | with_reducible refine af ?_ ?_ | with_reducible refine ai ?_ ?_ | with_reducible refine ak ?_ _ | (intro _) | with_reducible exact aj _ | exact ah | (dsimp only))
def oU (s : List Plan) : Option (List Plan):=app 48 [] s
theorem xh (s : List Plan) : Lo (oU s) (oH s):=by
 unfold oU oH
 repeat' (first | with_reducible refine aa ?_ ?_ ?_ ?_ ?_ | with_reducible refine ad ?_ ?_ ?_ ?_ | with_reducible refine ab ?_ ?_ ?_ | with_reducible refine af ?_ ?_ | with_reducible refine ai ?_ ?_ | with_reducible refine ak ?_ _ | (intro _) | with_reducible exact aj _ | exact ah | (dsimp only))
def qx (s : List App) : Option (List App):=app 200 [] s
theorem yf (s : List App) : Lo (qx s) (qo s):=by
 unfold qx qo
 repeat' (first | with_reducible refine aa ?_ ?_ ?_ ?_ ?_ | with_reducible refine ad ?_ ?_ ?_ ?_ | with_reducible refine ab ?_ ?_ ?_ | with_reducible refine af ?_ ?_ | with_reducible refine ai ?_ ?_ | with_reducible refine ak ?_ _ | (intro _) | with_reducible exact aj _ | exact ah | (dsimp only))
def mH (s : List Ask) : Option (List Ask):=app 64 [] s
theorem sE (s : List Ask) : Lo (mH s) (m_ s):=by
 unfold mH m_
 repeat' (first | with_reducible refine aa ?_ ?_ ?_ ?_ ?_ | with_reducible refine ad ?_ ?_ ?_ ?_ | with_reducible refine ab ?_ ?_ ?_ | with_reducible refine af ?_ ?_ | with_reducible refine ai ?_ ?_ | with_reducible refine ak ?_ _ | (intro _) | with_reducible exact aj _ | exact ah | (dsimp only))
def fy (l : List Int) : Option (List Int) :=
 (mkl 8 (l.length : Int) (l.length : Int) 0).bind fun l1 =>
 some (cpy l1 0 l1.length l)
theorem xk (l : List Int) : Lo (fy l) (gh l):=by
 unfold fy gh
 repeat' (first | with_reducible refine aa ?_ ?_ ?_ ?_ ?_ | with_reducible refine ad ?_ ?_ ?_ ?_ | with_reducible refine ab ?_ ?_ ?_ | with_reducible refine af ?_ ?_ | with_reducible refine ai ?_ ?_ | with_reducible refine ak ?_ _ | (intro _) | with_reducible exact aj _ | exact ah | (dsimp only))
def jT (a : App) : Option App :=
 (mH a.Asks).bind fun x =>
 (fy a.Grants).bind fun x1 =>
 (fy a.Kills).bind fun x2 =>
 (fy a.Told).bind fun x3 =>
 (fy a.Lost).bind fun x4 =>
 some (⟨a.Id,a.State,a.Queue,a.User,a.Prio,⟨a.Master.Mem,a.Master.Cores⟩,x,a.Seen,a.Beat,x1,x2,x3,x4⟩ : App)
theorem o8 (a : App) : Lo (jT a) (kQ a):=by
 unfold jT kQ
 repeat' (first | with_reducible exact sE _ | with_reducible exact xk _ | with_reducible refine aa ?_ ?_ ?_ ?_ ?_ | with_reducible refine ad ?_ ?_ ?_ ?_ | with_reducible refine ab ?_ ?_ ?_ | with_reducible refine af ?_ ?_ | with_reducible refine ai ?_ ?_ | with_reducible refine ak ?_ _ | (intro _) | with_reducible exact aj _ | exact ah | (dsimp only))
def mi (x9 : List App) (t1 : List App × Int) : Option ((List App × Int) ⊕ List App) :=
 bif decide (t1.2 < (x9.length : Int)) then
 (inb t1.2 t1.1.length).bind fun i2 =>
 (t1.1[i2]?).bind fun x10 =>
 (jT x10).bind fun x11 =>
 (inb t1.2 t1.1.length).bind fun i3 =>
 (t1.1[i3]?).bind fun x12 =>
 some (.inl (List.set t1.1 i3 x11,w64 (t1.2 + 1)))
 else
 some (.inr t1.1)
theorem u6 (x9 : List App) (t1 : List App × Int) : Lo (mi x9 t1) (pb x9 t1):=by
 unfold mi pb
 repeat' (first | with_reducible exact o8 _ | with_reducible refine aa ?_ ?_ ?_ ?_ ?_ | with_reducible refine ad ?_ ?_ ?_ ?_ | with_reducible refine ab ?_ ?_ ?_ | with_reducible refine af ?_ ?_ | with_reducible refine ai ?_ ?_ | with_reducible refine ak ?_ _ | (intro _) | with_reducible exact aj _ | exact ah | (dsimp only))
def lM (x1 : List Queue) (t : List Queue × Int) : Option ((List Queue × Int) ⊕ List Queue) :=
 bif decide (t.2 < (x1.length : Int)) then
 (inb t.2 t.1.length).bind fun i =>
 (t.1[i]?).bind fun x2 =>
 (mI x2.Caps).bind fun x3 =>
 (inb t.2 t.1.length).bind fun i1 =>
 (t.1[i1]?).bind fun x4 =>
 some (.inl (List.set t.1 i1 (⟨x4.Path,x3,x4.User⟩ : Queue),w64 (t.2 + 1)))
 else
 some (.inr t.1)
theorem uU (x1 : List Queue) (t : List Queue × Int) : Lo (lM x1 t) (oQ x1 t):=by
 unfold lM oQ
 repeat' (first | with_reducible exact sD _ | with_reducible refine aa ?_ ?_ ?_ ?_ ?_ | with_reducible refine ad ?_ ?_ ?_ ?_ | with_reducible refine ab ?_ ?_ ?_ | with_reducible refine af ?_ ?_ | with_reducible refine ai ?_ ?_ | with_reducible refine ak ?_ _ | (intro _) | with_reducible exact aj _ | exact ah | (dsimp only))
def jQ (s : State) : Option State :=
 (bn s.Conf.Labels).bind fun x =>
 (nx s.Conf.Queues).bind fun x1 =>
 (itr 4096 (lM x1) (x1,0)).bind fun q =>
 (oV s.Nodes).bind fun x5 =>
 (pg s.Conts).bind fun x6 =>
 (pi s.Slots).bind fun x7 =>
 (oU s.Plans).bind fun x8 =>
 (qx s.Apps).bind fun x9 =>
 (itr 4096 (mi x9) (x9,0)).bind fun q1 =>
 some (⟨⟨x,q⟩,x5,q1,x6,x7,x8,s.Now,s.Epoch,s.Seq⟩ : State)
theorem sw (s : State) : Lo (jQ s) (kP s):=by
 unfold jQ kP
 repeat' (first | with_reducible exact iK _ | with_reducible exact v7 _ | with_reducible exact uU _ _ | with_reducible exact xF _ | with_reducible exact xR _ | with_reducible exact xI _ | with_reducible exact xh _ | with_reducible exact yf _ | with_reducible exact u6 _ _ | with_reducible refine aa ?_ ?_ ?_ ?_ ?_ | with_reducible refine ad ?_ ?_ ?_ ?_ | with_reducible refine ab ?_ ?_ ?_ | with_reducible refine af ?_ ?_ | with_reducible refine ai ?_ ?_ | with_reducible refine ak ?_ _ | (intro _) | with_reducible exact aj _ | exact ah | (dsimp only))
def hP (s : List Cont) (f : (TupT fam [.st 7] → Option Bool)) (t : Int) : Option (Int ⊕ (Int ⊕ Unit)) :=
 bif decide (t < (s.length : Int)) then
 (idx s t).bind fun x =>
 (f (x,())).bind fun r =>
 bif r then
  some (.inr (.inl t))
 else
  some (.inl (w64 (t + 1)))
 else
 some (.inr (.inr ()))
theorem rH (s : List Cont) (f f_' : (TupT fam [.st 7] → Option Bool)) (h_f : ∀ a,Lo (f a) (f_' a)) (t : Int) : Lo (hP s f t) (jb s f_' t):=by
 unfold hP jb
 repeat' (first | exact h_f _ | with_reducible refine aa ?_ ?_ ?_ ?_ ?_ | with_reducible refine ad ?_ ?_ ?_ ?_ | with_reducible refine ab ?_ ?_ ?_ | with_reducible refine af ?_ ?_ | with_reducible refine ai ?_ ?_ | with_reducible refine ak ?_ _ | (intro _) | with_reducible exact aj _ | exact ah | (dsimp only))
def kO (s : List Cont) (f : (TupT fam [.st 7] → Option Bool)) : Option Int :=
 (itr 4096 (hP s f) 0).bind fun q0 =>
 match q0 with
 | .inl q =>
 some q
 | .inr _ =>
 some (-1)
theorem t_ (s : List Cont) (f f_' : (TupT fam [.st 7] → Option Bool)) (h_f : ∀ a,Lo (f a) (f_' a)) : Lo (kO s f) (gk s f_'):=by
 unfold kO gk
 repeat' (first | with_reducible refine rH _ _ _ ?_ _ | exact h_f _ | with_reducible refine aa ?_ ?_ ?_ ?_ ?_ | with_reducible refine ad ?_ ?_ ?_ ?_ | with_reducible refine ab ?_ ?_ ?_ | with_reducible refine af ?_ ?_ | with_reducible refine ai ?_ ?_ | with_reducible refine ak ?_ _ | (intro _) | with_reducible exact aj _ | exact ah | (dsimp only))
def mf (c : Cont) (p : Int) : Option Bool :=
 some (c.Id == p)
theorem uB (c : Cont) (p : Int) : Lo (mf c p) (lg c p):=by
 unfold mf lg
 repeat' (first | with_reducible refine aa ?_ ?_ ?_ ?_ ?_ | with_reducible refine ad ?_ ?_ ?_ ?_ | with_reducible refine ab ?_ ?_ ?_ | with_reducible refine af ?_ ?_ | with_reducible refine ai ?_ ?_ | with_reducible refine ak ?_ _ | (intro _) | with_reducible exact aj _ | exact ah | (dsimp only))
def iJ (s : List App) (f : (TupT fam [.st 6] → Option Bool)) (t : Int) : Option (Int ⊕ (Int ⊕ Unit)) :=
 bif decide (t < (s.length : Int)) then
 (idx s t).bind fun x =>
 (f (x,())).bind fun r =>
 bif r then
  some (.inr (.inl t))
 else
  some (.inl (w64 (t + 1)))
 else
 some (.inr (.inr ()))
theorem su (s : List App) (f f_' : (TupT fam [.st 6] → Option Bool)) (h_f : ∀ a,Lo (f a) (f_' a)) (t : Int) : Lo (iJ s f t) (kK s f_' t):=by
 unfold iJ kK
 repeat' (first | exact h_f _ | with_reducible refine aa ?_ ?_ ?_ ?_ ?_ | with_reducible refine ad ?_ ?_ ?_ ?_ | with_reducible refine ab ?_ ?_ ?_ | with_reducible refine af ?_ ?_ | with_reducible refine ai ?_ ?_ | with_reducible refine ak ?_ _ | (intro _) | with_reducible exact aj _ | exact ah | (dsimp only))
def mb (s : List App) (f : (TupT fam [.st 6] → Option Bool)) : Option Int :=
 (itr 4096 (iJ s f) 0).bind fun q0 =>
 match q0 with
 | .inl q =>
 some q
 | .inr _ =>
 some (-1)
theorem uX (s : List App) (f f_' : (TupT fam [.st 6] → Option Bool)) (h_f : ∀ a,Lo (f a) (f_' a)) : Lo (mb s f) (ll s f_'):=by
 unfold mb ll
 repeat' (first | with_reducible refine su _ _ _ ?_ _ | exact h_f _ | with_reducible refine aa ?_ ?_ ?_ ?_ ?_ | with_reducible refine ad ?_ ?_ ?_ ?_ | with_reducible refine ab ?_ ?_ ?_ | with_reducible refine af ?_ ?_ | with_reducible refine ai ?_ ?_ | with_reducible refine ak ?_ _ | (intro _) | with_reducible exact aj _ | exact ah | (dsimp only))
def oP (a : App) (p : Int) : Option Bool :=
 some (a.Id == p)
theorem w3 (a : App) (p : Int) : Lo (oP a p) (oh a p):=by
 unfold oP oh
 repeat' (first | with_reducible refine aa ?_ ?_ ?_ ?_ ?_ | with_reducible refine ad ?_ ?_ ?_ ?_ | with_reducible refine ab ?_ ?_ ?_ | with_reducible refine af ?_ ?_ | with_reducible refine ai ?_ ?_ | with_reducible refine ak ?_ _ | (intro _) | with_reducible exact aj _ | exact ah | (dsimp only))
def lC (s : State) (id_ : Int) : Option Int :=
 (mb s.Apps (fun a' => oP a'.1 id_)).bind fun x =>
 some x
theorem qu (s : State) (id_ : Int) : Lo (lC s id_) (mP s id_):=by
 unfold lC mP
 repeat' (first | with_reducible refine uX _ _ _ ?_ | with_reducible exact w3 _ _ | with_reducible refine aa ?_ ?_ ?_ ?_ ?_ | with_reducible refine ad ?_ ?_ ?_ ?_ | with_reducible refine ab ?_ ?_ ?_ | with_reducible refine af ?_ ?_ | with_reducible refine ai ?_ ?_ | with_reducible refine ak ?_ _ | (intro _) | with_reducible exact aj _ | exact ah | (dsimp only))
def jV (l : List Ask) : Option (List Ask) :=
 (mkl 64 (l.length : Int) (l.length : Int) (⟨0,0,⟨0,0⟩,0,0,0,0⟩ : Ask)).bind fun l1 =>
 some (cpy l1 0 l1.length l)
theorem oX (l : List Ask) : Lo (jV l) (kx l):=by
 unfold jV kx
 repeat' (first | with_reducible refine aa ?_ ?_ ?_ ?_ ?_ | with_reducible refine ad ?_ ?_ ?_ ?_ | with_reducible refine ab ?_ ?_ ?_ | with_reducible refine af ?_ ?_ | with_reducible refine ai ?_ ?_ | with_reducible refine ak ?_ _ | (intro _) | with_reducible exact aj _ | exact ah | (dsimp only))
def gU (s : List Ask) (f : (TupT fam [.st 5] → Option Bool)) (t : Int) : Option (Int ⊕ (Int ⊕ Unit)) :=
 bif decide (t < (s.length : Int)) then
 (idx s t).bind fun x =>
 (f (x,())).bind fun r =>
 bif r then
  some (.inr (.inl t))
 else
  some (.inl (w64 (t + 1)))
 else
 some (.inr (.inr ()))
theorem rJ (s : List Ask) (f f_' : (TupT fam [.st 5] → Option Bool)) (h_f : ∀ a,Lo (f a) (f_' a)) (t : Int) : Lo (gU s f t) (jl s f_' t):=by
 unfold gU jl
 repeat' (first | exact h_f _ | with_reducible refine aa ?_ ?_ ?_ ?_ ?_ | with_reducible refine ad ?_ ?_ ?_ ?_ | with_reducible refine ab ?_ ?_ ?_ | with_reducible refine af ?_ ?_ | with_reducible refine ai ?_ ?_ | with_reducible refine ak ?_ _ | (intro _) | with_reducible exact aj _ | exact ah | (dsimp only))
def gL (s : List Ask) (f : (TupT fam [.st 5] → Option Bool)) : Option Int :=
 (itr 4096 (gU s f) 0).bind fun q0 =>
 match q0 with
 | .inl q =>
 some q
 | .inr _ =>
 some (-1)
theorem oA (s : List Ask) (f f_' : (TupT fam [.st 5] → Option Bool)) (h_f : ∀ a,Lo (f a) (f_' a)) : Lo (gL s f) (gf s f_'):=by
 unfold gL gf
 repeat' (first | with_reducible refine rJ _ _ _ ?_ _ | exact h_f _ | with_reducible refine aa ?_ ?_ ?_ ?_ ?_ | with_reducible refine ad ?_ ?_ ?_ ?_ | with_reducible refine ab ?_ ?_ ?_ | with_reducible refine af ?_ ?_ | with_reducible refine ai ?_ ?_ | with_reducible refine ak ?_ _ | (intro _) | with_reducible exact aj _ | exact ah | (dsimp only))
def gX (del : (TupT fam [.st 5] → Option Bool)) (t : List Ask × Int × Int) : Option ((List Ask × Int × Int) ⊕ ((List Ask × Int))) :=
 bif decide (t.2.2 < (t.1.length : Int)) then
 (
  (inb t.2.2 t.1.length).bind fun i1 =>
  (t.1[i1]?).bind fun x =>
  (del (x,())).bind fun r =>
  bif ! r then
  (inb t.2.1 t.1.length).bind fun i2 =>
  (t.1[i2]?).bind fun x1 =>
  some (List.set t.1 i2 x,w64 (t.2.1 + 1))
  else
  some (t.1,t.2.1)).bind fun q =>
 some (.inl (q.1,q.2,w64 (t.2.2 + 1)))
 else
 some (.inr (t.1,t.2.1))
theorem rh (del del_' : (TupT fam [.st 5] → Option Bool)) (h_del : ∀ a,Lo (del a) (del_' a)) (t : List Ask × Int × Int) : Lo (gX del t) (jM del_' t):=by
 unfold gX jM
 repeat' (first | exact h_del _ | with_reducible refine aa ?_ ?_ ?_ ?_ ?_ | with_reducible refine ad ?_ ?_ ?_ ?_ | with_reducible refine ab ?_ ?_ ?_ | with_reducible refine af ?_ ?_ | with_reducible refine ai ?_ ?_ | with_reducible refine ak ?_ _ | (intro _) | with_reducible exact aj _ | exact ah | (dsimp only))
def ky (s : List Ask) (del : (TupT fam [.st 5] → Option Bool)) : Option (List Ask) :=
 (gL s del).bind fun i =>
 bif i == (-1) then
 some s
 else
 (itr 4096 (gX del) (s,i,w64 (i + 1))).bind fun q1 =>
 (inS q1.2 (q1.1.length : Int) q1.1.length).bind fun p =>
 none
theorem uw (s : List Ask) (del del_' : (TupT fam [.st 5] → Option Bool)) (h_del : ∀ a,Lo (del a) (del_' a)) : Lo (ky s del) (jL s del_'):=by
 unfold ky jL
 repeat' (first | with_reducible refine oA _ _ _ ?_ | with_reducible refine rh _ _ ?_ _ | exact h_del _ | with_reducible refine aa ?_ ?_ ?_ ?_ ?_ | with_reducible refine ad ?_ ?_ ?_ ?_ | with_reducible refine ab ?_ ?_ ?_ | with_reducible refine af ?_ ?_ | with_reducible refine ai ?_ ?_ | with_reducible refine ak ?_ _ | (intro _) | with_reducible exact aj _ | exact ah | (dsimp only))
def nG (x : Ask) (p : Ask) : Option Bool :=
 some (x.Prio == p.Prio)
theorem wa (x : Ask) (p : Ask) : Lo (nG x p) (mL x p):=by
 unfold nG mL
 repeat' (first | with_reducible refine aa ?_ ?_ ?_ ?_ ?_ | with_reducible refine ad ?_ ?_ ?_ ?_ | with_reducible refine ab ?_ ?_ ?_ | with_reducible refine af ?_ ?_ | with_reducible refine ai ?_ ?_ | with_reducible refine ak ?_ _ | (intro _) | with_reducible exact aj _ | exact ah | (dsimp only))
def ki (s : List Ask) (i : Int) (v : List Ask) : Option (List Ask):=ins s i v
theorem uh (s : List Ask) (i : Int) (v : List Ask) : Lo (ki s i v) (jh s i v):=by
 unfold ki jh
 repeat' (first | with_reducible refine aa ?_ ?_ ?_ ?_ ?_ | with_reducible refine ad ?_ ?_ ?_ ?_ | with_reducible refine ab ?_ ?_ ?_ | with_reducible refine af ?_ ?_ | with_reducible refine ai ?_ ?_ | with_reducible refine ak ?_ _ | (intro _) | with_reducible exact aj _ | exact ah | (dsimp only))
def lS (a : Ask) (out : List Ask) (k : Int) : Option (Int ⊕ Int) :=
 (
 bif decide (k < (out.length : Int)) then
  (inb k out.length).bind fun i =>
  (out[i]?).bind fun x1 =>
  some (decide (x1.Prio < a.Prio))
 else
  some false).bind fun q =>
 bif q then
 some (.inl (w64 (k + 1)))
 else
 some (.inr k)
theorem uY (a : Ask) (out : List Ask) (k : Int) : Lo (lS a out k) (ph a out k):=by
 unfold lS ph
 repeat' (first | with_reducible refine aa ?_ ?_ ?_ ?_ ?_ | with_reducible refine ad ?_ ?_ ?_ ?_ | with_reducible refine ab ?_ ?_ ?_ | with_reducible refine af ?_ ?_ | with_reducible refine ai ?_ ?_ | with_reducible refine ak ?_ _ | (intro _) | with_reducible exact aj _ | exact ah | (dsimp only))
def p7 (l : List Ask) (a : Ask) : Option (List Ask × Int) :=
 (jV l).bind fun x =>
 (ky x (fun a' => nG a'.1 a)).bind fun out =>
 bif a.Count == 0 then
 some (out,0)
 else
 bif decide ((out.length : Int) ≥ 8) then
  some ([],4)
 else
  (itr 4096 (lS a out) 0).bind fun k1 =>
  (ki out k1 [(⟨a.Prio,a.Label,⟨a.Size.Mem,a.Size.Cores⟩,a.Count,a.Node,a.Rack,0⟩ : Ask)]).bind fun x2 =>
  some (x2,0)
theorem xX (l : List Ask) (a : Ask) : Lo (p7 l a) (qG l a):=by
 unfold p7 qG
 repeat' (first | with_reducible exact oX _ | with_reducible refine uw _ _ _ ?_ | with_reducible exact wa _ _ | with_reducible exact uY _ _ _ | with_reducible exact uh _ _ _ | with_reducible refine aa ?_ ?_ ?_ ?_ ?_ | with_reducible refine ad ?_ ?_ ?_ ?_ | with_reducible refine ab ?_ ?_ ?_ | with_reducible refine af ?_ ?_ | with_reducible refine ai ?_ ?_ | with_reducible refine ak ?_ _ | (intro _) | with_reducible exact aj _ | exact ah | (dsimp only))
def nJ (a : App) : Option (List Ask) :=
 (p7 [] (⟨0,0,⟨a.Master.Mem,a.Master.Cores⟩,1,(-1),(-1),0⟩ : Ask)).bind fun x =>
 some x.1
theorem wi (a : App) : Lo (nJ a) (mN a):=by
 unfold nJ mN
 repeat' (first | with_reducible exact xX _ _ | with_reducible refine aa ?_ ?_ ?_ ?_ ?_ | with_reducible refine ad ?_ ?_ ?_ ?_ | with_reducible refine ab ?_ ?_ ?_ | with_reducible refine af ?_ ?_ | with_reducible refine ai ?_ ?_ | with_reducible refine ak ?_ _ | (intro _) | with_reducible exact aj _ | exact ah | (dsimp only))
def hF (s : List Slot) (f : (TupT fam [.st 8] → Option Bool)) (t : Int) : Option (Int ⊕ (Int ⊕ Unit)) :=
 bif decide (t < (s.length : Int)) then
 (idx s t).bind fun x =>
 (f (x,())).bind fun r =>
 bif r then
  some (.inr (.inl t))
 else
  some (.inl (w64 (t + 1)))
 else
 some (.inr (.inr ()))
theorem re (s : List Slot) (f f_' : (TupT fam [.st 8] → Option Bool)) (h_f : ∀ a,Lo (f a) (f_' a)) (t : Int) : Lo (hF s f t) (jP s f_' t):=by
 unfold hF jP
 repeat' (first | exact h_f _ | with_reducible refine aa ?_ ?_ ?_ ?_ ?_ | with_reducible refine ad ?_ ?_ ?_ ?_ | with_reducible refine ab ?_ ?_ ?_ | with_reducible refine af ?_ ?_ | with_reducible refine ai ?_ ?_ | with_reducible refine ak ?_ _ | (intro _) | with_reducible exact aj _ | exact ah | (dsimp only))
def gB (s : List Slot) (f : (TupT fam [.st 8] → Option Bool)) : Option Int :=
 (itr 4096 (hF s f) 0).bind fun q0 =>
 match q0 with
 | .inl q =>
 some q
 | .inr _ =>
 some (-1)
theorem ox (s : List Slot) (f f_' : (TupT fam [.st 8] → Option Bool)) (h_f : ∀ a,Lo (f a) (f_' a)) : Lo (gB s f) (gi s f_'):=by
 unfold gB gi
 repeat' (first | with_reducible refine re _ _ _ ?_ _ | exact h_f _ | with_reducible refine aa ?_ ?_ ?_ ?_ ?_ | with_reducible refine ad ?_ ?_ ?_ ?_ | with_reducible refine ab ?_ ?_ ?_ | with_reducible refine af ?_ ?_ | with_reducible refine ai ?_ ?_ | with_reducible refine ak ?_ _ | (intro _) | with_reducible exact aj _ | exact ah | (dsimp only))
def nA (s : State) (id_ : Int) : Option (State × List Int) :=
 none
theorem vX (s : State) (id_ : Int) : Lo (nA s id_) (mG s id_):=by
 unfold nA mG
 repeat' (first | with_reducible refine aa ?_ ?_ ?_ ?_ ?_ | with_reducible refine ad ?_ ?_ ?_ ?_ | with_reducible refine ab ?_ ?_ ?_ | with_reducible refine af ?_ ?_ | with_reducible refine ai ?_ ?_ | with_reducible refine ak ?_ _ | (intro _) | with_reducible exact aj _ | exact ah | (dsimp only))
def lO (s : State) (i : Int) : Option State :=
 (inb i s.Apps.length).bind fun i1 =>
 (s.Apps[i1]?).bind fun x =>
 (nJ x).bind fun x1 =>
 (inb i s.Apps.length).bind fun i2 =>
 (s.Apps[i2]?).bind fun x2 =>
 (nA (⟨⟨s.Conf.Labels,s.Conf.Queues⟩,s.Nodes,List.set s.Apps i2 (⟨x.Id,1,x.Queue,x.User,x.Prio,⟨x.Master.Mem,x.Master.Cores⟩,x1,s.Now,0,[],[],[],[]⟩ : App),s.Conts,s.Slots,s.Plans,s.Now,s.Epoch,s.Seq⟩ : State) x.Id).bind fun x3 =>
 some x3.1
theorem u9 (s : State) (i : Int) : Lo (lO s i) (lj s i):=by
 unfold lO lj
 repeat' (first | with_reducible exact wi _ | with_reducible exact vX _ _ | with_reducible refine aa ?_ ?_ ?_ ?_ ?_ | with_reducible refine ad ?_ ?_ ?_ ?_ | with_reducible refine ab ?_ ?_ ?_ | with_reducible refine af ?_ ?_ | with_reducible refine ai ?_ ?_ | with_reducible refine ak ?_ _ | (intro _) | with_reducible exact aj _ | exact ah | (dsimp only))
def ko (s : List Cont) (i : Int) (j : Int) : Option (List Cont):=del s i j
theorem uu (s : List Cont) (i : Int) (j : Int) : Lo (ko s i j) (js s i j):=by
 unfold ko js
 repeat' (first | with_reducible refine aa ?_ ?_ ?_ ?_ ?_ | with_reducible refine ad ?_ ?_ ?_ ?_ | with_reducible refine ab ?_ ?_ ?_ | with_reducible refine af ?_ ?_ | with_reducible refine ai ?_ ?_ | with_reducible refine ak ?_ _ | (intro _) | with_reducible exact aj _ | exact ah | (dsimp only))
def bR (s : List Int) (v : Int) (t : Int) : Option (Int ⊕ (Int ⊕ Unit)) :=
 bif decide (t < (s.length : Int)) then
 (idx s t).bind fun x =>
 bif v == x then
  some (.inr (.inl t))
 else
  some (.inl (w64 (t + 1)))
 else
 some (.inr (.inr ()))
theorem ke (s : List Int) (v : Int) (t : Int) : Lo (bR s v t) (cq s v t):=by
 unfold bR cq
 repeat' (first | with_reducible refine aa ?_ ?_ ?_ ?_ ?_ | with_reducible refine ad ?_ ?_ ?_ ?_ | with_reducible refine ab ?_ ?_ ?_ | with_reducible refine af ?_ ?_ | with_reducible refine ai ?_ ?_ | with_reducible refine ak ?_ _ | (intro _) | with_reducible exact aj _ | exact ah | (dsimp only))
def cE (s : List Int) (v : Int) : Option Int :=
 (itr 4096 (bR s v) 0).bind fun q0 =>
 match q0 with
 | .inl q =>
 some q
 | .inr _ =>
 some (-1)
theorem lR (s : List Int) (v : Int) : Lo (cE s v) (bK s v):=by
 unfold cE bK
 repeat' (first | with_reducible exact ke _ _ _ | with_reducible refine aa ?_ ?_ ?_ ?_ ?_ | with_reducible refine ad ?_ ?_ ?_ ?_ | with_reducible refine ab ?_ ?_ ?_ | with_reducible refine af ?_ ?_ | with_reducible refine ai ?_ ?_ | with_reducible refine ak ?_ _ | (intro _) | with_reducible exact aj _ | exact ah | (dsimp only))
def cw (s : List Int) (i : Int) (j : Int) : Option (List Int) :=
 none
theorem lK (s : List Int) (i : Int) (j : Int) : Lo (cw s i j) (bu s i j):=by
 unfold cw bu
 repeat' (first | with_reducible refine aa ?_ ?_ ?_ ?_ ?_ | with_reducible refine ad ?_ ?_ ?_ ?_ | with_reducible refine ab ?_ ?_ ?_ | with_reducible refine af ?_ ?_ | with_reducible refine ai ?_ ?_ | with_reducible refine ak ?_ _ | (intro _) | with_reducible exact aj _ | exact ah | (dsimp only))
def kJ (ids : List Int) (t : State × Int) : Option ((State × Int) ⊕ State) :=
 bif decide (t.2 < (ids.length : Int)) then
 (
  (idx ids t.2).bind fun x1 =>
  (kO t.1.Conts (fun a' => mf a'.1 x1)).bind fun k =>
  bif decide (k < 0) then
  some t.1
  else
  (inb k t.1.Conts.length).bind fun i =>
  (t.1.Conts[i]?).bind fun x2 =>
  (lC t.1 x2.App).bind fun i1 =>
  (
   bif decide (i1 ≥ 0) then
   some x2.Master
   else
   some false).bind fun q =>
  bif q then
   (lO t.1 i1).bind fun x3 =>
   some x3
  else
   (ko t.1.Conts k (w64 (k + 1))).bind fun x4 =>
   bif decide (i1 < 0) then
   some (⟨⟨t.1.Conf.Labels,t.1.Conf.Queues⟩,t.1.Nodes,t.1.Apps,x4,t.1.Slots,t.1.Plans,t.1.Now,t.1.Epoch,t.1.Seq⟩ : State)
   else
   (inb i1 t.1.Apps.length).bind fun i2 =>
   (t.1.Apps[i2]?).bind fun x5 =>
   (cE x5.Grants x1).bind fun j =>
   bif decide (j ≥ 0) then
    (cw x5.Grants j (w64 (j + 1))).bind fun x6 =>
    (inb i1 t.1.Apps.length).bind fun i3 =>
    (t.1.Apps[i3]?).bind fun x7 =>
    some (⟨⟨t.1.Conf.Labels,t.1.Conf.Queues⟩,t.1.Nodes,List.set t.1.Apps i3 (⟨x5.Id,x5.State,x5.Queue,x5.User,x5.Prio,⟨x5.Master.Mem,x5.Master.Cores⟩,x5.Asks,x5.Seen,x5.Beat,x6,x5.Kills,x5.Told,x5.Lost⟩ : App),x4,t.1.Slots,t.1.Plans,t.1.Now,t.1.Epoch,t.1.Seq⟩ : State)
   else
    none).bind fun s1 =>
 some (.inl (s1,w64 (t.2 + 1)))
 else
 some (.inr t.1)
theorem ul (ids : List Int) (t : State × Int) : Lo (kJ ids t) (nf ids t):=by
 unfold kJ nf
 repeat' (first | with_reducible refine t_ _ _ _ ?_ | with_reducible exact uB _ _ | with_reducible exact qu _ _ | with_reducible exact u9 _ _ | with_reducible exact uu _ _ _ | with_reducible exact lR _ _ | with_reducible exact lK _ _ _ | with_reducible refine aa ?_ ?_ ?_ ?_ ?_ | with_reducible refine ad ?_ ?_ ?_ ?_ | with_reducible refine ab ?_ ?_ ?_ | with_reducible refine af ?_ ?_ | with_reducible refine ai ?_ ?_ | with_reducible refine ak ?_ _ | (intro _) | with_reducible exact aj _ | exact ah | (dsimp only))
def k_ (s : State) (ids : List Int) : Option State :=
 (jQ s).bind fun x =>
 (itr 4096 (kJ ids) (x,0)).bind fun s2 =>
 (jQ s2).bind fun x8 =>
 some x8
theorem xQ (s : State) (ids : List Int) : Lo (k_ s ids) (lI s ids):=by
 unfold k_ lI
 repeat' (first | with_reducible exact sw _ | with_reducible exact ul _ _ | with_reducible refine aa ?_ ?_ ?_ ?_ ?_ | with_reducible refine ad ?_ ?_ ?_ ?_ | with_reducible refine ab ?_ ?_ ?_ | with_reducible refine af ?_ ?_ | with_reducible refine ai ?_ ?_ | with_reducible refine ak ?_ _ | (intro _) | with_reducible exact aj _ | exact ah | (dsimp only))
def gZ (s : List Node) (f : (TupT fam [.st 4] → Option Bool)) (t : Int) : Option (Int ⊕ (Int ⊕ Unit)) :=
 bif decide (t < (s.length : Int)) then
 (idx s t).bind fun x =>
 (f (x,())).bind fun r =>
 bif r then
  some (.inr (.inl t))
 else
  some (.inl (w64 (t + 1)))
 else
 some (.inr (.inr ()))
theorem rL (s : List Node) (f f_' : (TupT fam [.st 4] → Option Bool)) (h_f : ∀ a,Lo (f a) (f_' a)) (t : Int) : Lo (gZ s f t) (jz s f_' t):=by
 unfold gZ jz
 repeat' (first | exact h_f _ | with_reducible refine aa ?_ ?_ ?_ ?_ ?_ | with_reducible refine ad ?_ ?_ ?_ ?_ | with_reducible refine ab ?_ ?_ ?_ | with_reducible refine af ?_ ?_ | with_reducible refine ai ?_ ?_ | with_reducible refine ak ?_ _ | (intro _) | with_reducible exact aj _ | exact ah | (dsimp only))
def kD (s : List Node) (f : (TupT fam [.st 4] → Option Bool)) : Option Int :=
 (itr 4096 (gZ s f) 0).bind fun q0 =>
 match q0 with
 | .inl q =>
 some q
 | .inr _ =>
 some (-1)
theorem tG (s : List Node) (f f_' : (TupT fam [.st 4] → Option Bool)) (h_f : ∀ a,Lo (f a) (f_' a)) : Lo (kD s f) (jm s f_'):=by
 unfold kD jm
 repeat' (first | with_reducible refine rL _ _ _ ?_ _ | exact h_f _ | with_reducible refine aa ?_ ?_ ?_ ?_ ?_ | with_reducible refine ad ?_ ?_ ?_ ?_ | with_reducible refine ab ?_ ?_ ?_ | with_reducible refine af ?_ ?_ | with_reducible refine ai ?_ ?_ | with_reducible refine ak ?_ _ | (intro _) | with_reducible exact aj _ | exact ah | (dsimp only))
def kR (i : Int) (n : Node) : Option Bool :=
 some (n.Id == i)
theorem uk (i : Int) (n : Node) : Lo (kR i n) (jp i n):=by
 unfold kR jp
 repeat' (first | with_reducible refine aa ?_ ?_ ?_ ?_ ?_ | with_reducible refine ad ?_ ?_ ?_ ?_ | with_reducible refine ab ?_ ?_ ?_ | with_reducible refine af ?_ ?_ | with_reducible refine ai ?_ ?_ | with_reducible refine ak ?_ _ | (intro _) | with_reducible exact aj _ | exact ah | (dsimp only))
def qn (s : State) (id_ : Int) : Option Int :=
 (kD s.Nodes (fun a' => kR id_ a'.1)).bind fun x =>
 some x
theorem ye (s : State) (id_ : Int) : Lo (qn s id_) (qa s id_):=by
 unfold qn qa
 repeat' (first | with_reducible refine tG _ _ _ ?_ | with_reducible exact uk _ _ | with_reducible refine aa ?_ ?_ ?_ ?_ ?_ | with_reducible refine ad ?_ ?_ ?_ ?_ | with_reducible refine ab ?_ ?_ ?_ | with_reducible refine af ?_ ?_ | with_reducible refine ai ?_ ?_ | with_reducible refine ak ?_ _ | (intro _) | with_reducible exact aj _ | exact ah | (dsimp only))
def jv (s : State) (id_ : Int) : Option (Node × Bool) :=
 (qn s id_).bind fun i =>
 bif decide (i < 0) then
 some ((⟨0,0,0,⟨0,0⟩,0,0,false⟩ : Node),false)
 else
 (idx s.Nodes i).bind fun x =>
 some (x,true)
theorem qJ (s : State) (id_ : Int) : Lo (jv s id_) (j7 s id_):=by
 unfold jv j7
 repeat' (first | with_reducible exact ye _ _ | with_reducible refine aa ?_ ?_ ?_ ?_ ?_ | with_reducible refine ad ?_ ?_ ?_ ?_ | with_reducible refine ab ?_ ?_ ?_ | with_reducible refine af ?_ ?_ | with_reducible refine ai ?_ ?_ | with_reducible refine ak ?_ _ | (intro _) | with_reducible exact aj _ | exact ah | (dsimp only))
def aL (v : Vec) : Option Bool :=
 bif decide (v.Mem ≥ 0) then
 bif decide (v.Mem ≤ 1125899906842624) then
  bif decide (v.Cores ≥ 0) then
  some (decide (v.Cores ≤ 1125899906842624))
  else
  some false
 else
  some false
 else
 some false
theorem fh (v : Vec) : Lo (aL v) (aP v):=by
 unfold aL aP
 repeat' (first | with_reducible refine aa ?_ ?_ ?_ ?_ ?_ | with_reducible refine ad ?_ ?_ ?_ ?_ | with_reducible refine ab ?_ ?_ ?_ | with_reducible refine af ?_ ?_ | with_reducible refine ai ?_ ?_ | with_reducible refine ak ?_ _ | (intro _) | with_reducible exact aj _ | exact ah | (dsimp only))
def lh (v : Vec) : Option (Vec × Int) :=
 (aL v).bind fun x =>
 bif ! x then
 some ((⟨0,0⟩ : Vec),11)
 else
 some (v,0)
theorem rC (v : Vec) : Lo (lh v) (lF v):=by
 unfold lh lF
 repeat' (first | with_reducible exact fh _ | with_reducible refine aa ?_ ?_ ?_ ?_ ?_ | with_reducible refine ad ?_ ?_ ?_ ?_ | with_reducible refine ab ?_ ?_ ?_ | with_reducible refine af ?_ ?_ | with_reducible refine ai ?_ ?_ | with_reducible refine ak ?_ _ | (intro _) | with_reducible exact aj _ | exact ah | (dsimp only))
def ff (a : Vec) (b : Vec) : Option (Vec × Int) :=
 (
 (aL a).bind fun x =>
 bif ! x then
  some true
 else
  (aL b).bind fun x1 =>
  some (! x1)).bind fun q =>
 bif q then
 some ((⟨0,0⟩ : Vec),1)
 else
 (lh (⟨w64 (a.Mem + b.Mem),w64 (a.Cores + b.Cores)⟩ : Vec)).bind fun x2 =>
 some (x2.1,x2.2)
theorem iq (a : Vec) (b : Vec) : Lo (ff a b) (gg a b):=by
 unfold ff gg
 repeat' (first | with_reducible exact fh _ | with_reducible exact rC _ | with_reducible refine aa ?_ ?_ ?_ ?_ ?_ | with_reducible refine ad ?_ ?_ ?_ ?_ | with_reducible refine ab ?_ ?_ ?_ | with_reducible refine af ?_ ?_ | with_reducible refine ai ?_ ?_ | with_reducible refine ak ?_ _ | (intro _) | with_reducible exact aj _ | exact ah | (dsimp only))
def jx (s : State) (id_ : Int) (t : Vec × Int) : Option ((Vec × Int) ⊕ Vec) :=
 bif decide (t.2 < (s.Conts.length : Int)) then
 (
  (idx s.Conts t.2).bind fun x =>
  bif x.Node == id_ then
  (ff t.1 x.Size).bind fun x1 =>
  some x1.1
  else
  some t.1).bind fun out =>
 some (.inl (out,w64 (t.2 + 1)))
 else
 some (.inr t.1)
theorem sV (s : State) (id_ : Int) (t : Vec × Int) : Lo (jx s id_ t) (md s id_ t):=by
 unfold jx md
 repeat' (first | with_reducible exact iq _ _ | with_reducible refine aa ?_ ?_ ?_ ?_ ?_ | with_reducible refine ad ?_ ?_ ?_ ?_ | with_reducible refine ab ?_ ?_ ?_ | with_reducible refine af ?_ ?_ | with_reducible refine ai ?_ ?_ | with_reducible refine ak ?_ _ | (intro _) | with_reducible exact aj _ | exact ah | (dsimp only))
def m9 (s : State) (id_ : Int) : Option Vec :=
 (itr 4096 (jx s id_) ((⟨0,0⟩ : Vec),0)).bind fun out1 =>
 some out1
theorem v_ (s : State) (id_ : Int) : Lo (m9 s id_) (mK s id_):=by
 unfold m9 mK
 repeat' (first | with_reducible exact sV _ _ _ | with_reducible refine aa ?_ ?_ ?_ ?_ ?_ | with_reducible refine ad ?_ ?_ ?_ ?_ | with_reducible refine ab ?_ ?_ ?_ | with_reducible refine af ?_ ?_ | with_reducible refine ai ?_ ?_ | with_reducible refine ak ?_ _ | (intro _) | with_reducible exact aj _ | exact ah | (dsimp only))
def nj (s : State) (id_ : Int) : Option Vec :=
 (jv s id_).bind fun x =>
 (
 bif ! x.2 then
  some true
 else
  some (! x.1.Up)).bind fun q =>
 bif q then
 some (⟨0,0⟩ : Vec)
 else
 (m9 s id_).bind fun x1 =>
 some (⟨imax (w64 (x.1.Cap.Mem - x1.Mem)) 0,imax (w64 (x.1.Cap.Cores - x1.Cores)) 0⟩ : Vec)
theorem wh (s : State) (id_ : Int) : Lo (nj s id_) (mD s id_):=by
 unfold nj mD
 repeat' (first | with_reducible exact qJ _ _ | with_reducible exact v_ _ _ | with_reducible refine aa ?_ ?_ ?_ ?_ ?_ | with_reducible refine ad ?_ ?_ ?_ ?_ | with_reducible refine ab ?_ ?_ ?_ | with_reducible refine af ?_ ?_ | with_reducible refine ai ?_ ?_ | with_reducible refine ak ?_ _ | (intro _) | with_reducible exact aj _ | exact ah | (dsimp only))
def dC (x : Slot) (p : Attempt) : Option Bool :=
 some (x.Node == p.n.Id)
theorem nB (x : Slot) (p : Attempt) : Lo (dC x p) (cp x p):=by
 unfold dC cp
 repeat' (first | with_reducible refine aa ?_ ?_ ?_ ?_ ?_ | with_reducible refine ad ?_ ?_ ?_ ?_ | with_reducible refine ab ?_ ?_ ?_ | with_reducible refine af ?_ ?_ | with_reducible refine ai ?_ ?_ | with_reducible refine ak ?_ _ | (intro _) | with_reducible exact aj _ | exact ah | (dsimp only))
def kV (s : State) (id_ : Int) : Option (App × Bool) :=
 (lC s id_).bind fun i =>
 bif decide (i < 0) then
 some ((⟨0,0,[],0,0,⟨0,0⟩,[],0,0,[],[],[],[]⟩ : App),false)
 else
 (idx s.Apps i).bind fun x =>
 (jT x).bind fun x1 =>
 some (x1,true)
theorem rP (s : State) (id_ : Int) : Lo (kV s id_) (lD s id_):=by
 unfold kV lD
 repeat' (first | with_reducible exact qu _ _ | with_reducible exact o8 _ | with_reducible refine aa ?_ ?_ ?_ ?_ ?_ | with_reducible refine ad ?_ ?_ ?_ ?_ | with_reducible refine ab ?_ ?_ ?_ | with_reducible refine af ?_ ?_ | with_reducible refine ai ?_ ?_ | with_reducible refine ak ?_ _ | (intro _) | with_reducible exact aj _ | exact ah | (dsimp only))
def iH (a : App) (prio : Int) (t : Ask × Int) : Option ((Ask × Int) ⊕ ((Ask × Bool) ⊕ Ask)) :=
 bif decide (t.2 < (a.Asks.length : Int)) then
 (idx a.Asks t.2).bind fun x =>
 bif x.Prio == prio then
  some (.inr (.inl (x,true)))
 else
  some (.inl (t.1,w64 (t.2 + 1)))
 else
 some (.inr (.inr (t.1)))
theorem sj (a : App) (prio : Int) (t : Ask × Int) : Lo (iH a prio t) (kA a prio t):=by
 unfold iH kA
 repeat' (first | with_reducible refine aa ?_ ?_ ?_ ?_ ?_ | with_reducible refine ad ?_ ?_ ?_ ?_ | with_reducible refine ab ?_ ?_ ?_ | with_reducible refine af ?_ ?_ | with_reducible refine ai ?_ ?_ | with_reducible refine ak ?_ _ | (intro _) | with_reducible exact aj _ | exact ah | (dsimp only))
def lX (a : App) (prio : Int) : Option (Ask × Bool) :=
 (itr 4096 (iH a prio) ((⟨0,0,⟨0,0⟩,0,0,0,0⟩ : Ask),0)).bind fun q0 =>
 match q0 with
 | .inl q =>
 some (q.1,q.2)
 | .inr q1 =>
 some ((⟨0,0,⟨0,0⟩,0,0,0,0⟩ : Ask),false)
theorem u7 (a : App) (prio : Int) : Lo (lX a prio) (kW a prio):=by
 unfold lX kW
 repeat' (first | with_reducible exact sj _ _ _ | with_reducible refine aa ?_ ?_ ?_ ?_ ?_ | with_reducible refine ad ?_ ?_ ?_ ?_ | with_reducible refine ab ?_ ?_ ?_ | with_reducible refine af ?_ ?_ | with_reducible refine ai ?_ ?_ | with_reducible refine ak ?_ _ | (intro _) | with_reducible exact aj _ | exact ah | (dsimp only))
def li (a : App) : Option Bool :=
 bif a.State == 1 then
 some true
 else
 some (a.State == 2)
theorem rA (a : App) : Lo (li a) (lz a):=by
 unfold li lz
 repeat' (first | with_reducible refine aa ?_ ?_ ?_ ?_ ?_ | with_reducible refine ad ?_ ?_ ?_ ?_ | with_reducible refine ab ?_ ?_ ?_ | with_reducible refine af ?_ ?_ | with_reducible refine ai ?_ ?_ | with_reducible refine ak ?_ _ | (intro _) | with_reducible exact aj _ | exact ah | (dsimp only))
def iv (a : Ask) (n : Node) : Option Int :=
 (
 (
  bif ! n.Up then
  some true
  else
  some (n.Label != a.Label)).bind fun q =>
 bif q then
  some (.inr (.inl 4))
 else
  bif a.Rack == (-1) then
  some (.inl ())
  else
  (
   bif a.Node == n.Id then
   some (a.Node == n.Id)
   else
   bif a.Node == (-1) then
    some (a.Rack == n.Rack)
   else
    some false).bind fun q1 =>
  bif q1 then
   some (.inl ())
  else
   bif a.Rack == n.Rack then
   some (.inr (.inr (.inr ())))
   else
   some (.inr (.inr (.inl ()))) : Option (Unit ⊕ Int ⊕ Unit ⊕ Unit)).bind fun q0 =>
 match q0 with
 | .inl _ =>
 some 1
 | .inr (.inl q2) =>
 some q2
 | .inr (.inr (.inl _)) =>
 some 3
 | .inr (.inr (.inr _)) =>
 some 2
theorem pB (a : Ask) (n : Node) : Lo (iv a n) (ii a n):=by
 unfold iv ii
 repeat' (first | with_reducible refine aa ?_ ?_ ?_ ?_ ?_ | with_reducible refine ad ?_ ?_ ?_ ?_ | with_reducible refine ab ?_ ?_ ?_ | with_reducible refine af ?_ ?_ | with_reducible refine ai ?_ ?_ | with_reducible refine ak ?_ _ | (intro _) | with_reducible exact aj _ | exact ah | (dsimp only))
def hU (a : Ask) (n : Node) : Option Bool :=
 (iv a n).bind fun x =>
 bif x == 1 then
 some true
 else
 bif x == 2 then
  some (decide (a.Missed ≥ 2))
 else
  bif x == 3 then
  some (decide (a.Missed ≥ 4))
  else
  some false
theorem qS (a : Ask) (n : Node) : Lo (hU a n) (iW a n):=by
 unfold hU iW
 repeat' (first | with_reducible exact pB _ _ | with_reducible refine aa ?_ ?_ ?_ ?_ ?_ | with_reducible refine ad ?_ ?_ ?_ ?_ | with_reducible refine ab ?_ ?_ ?_ | with_reducible refine af ?_ ?_ | with_reducible refine ai ?_ ?_ | with_reducible refine ak ?_ _ | (intro _) | with_reducible exact aj _ | exact ah | (dsimp only))
def c9 (a : Vec) (b : Vec) : Option Bool :=
 bif decide (a.Mem ≤ b.Mem) then
 some (decide (a.Cores ≤ b.Cores))
 else
 some false
theorem gm (a : Vec) (b : Vec) : Lo (c9 a b) (dO a b):=by
 unfold c9 dO
 repeat' (first | with_reducible refine aa ?_ ?_ ?_ ?_ ?_ | with_reducible refine ad ?_ ?_ ?_ ?_ | with_reducible refine ab ?_ ?_ ?_ | with_reducible refine af ?_ ?_ | with_reducible refine ai ?_ ?_ | with_reducible refine ak ?_ _ | (intro _) | with_reducible exact aj _ | exact ah | (dsimp only))
def bV (t : Attempt) (x : Ask) : Option Bool :=
 (iv x t.n).bind fun x1 =>
 bif x1 != 4 then
 (c9 x.Size t.n.Cap).bind fun x2 =>
 some x2
 else
 some false
theorem gO (t : Attempt) (x : Ask) : Lo (bV t x) (bD t x):=by
 unfold bV bD
 repeat' (first | with_reducible exact pB _ _ | with_reducible exact gm _ _ | with_reducible refine aa ?_ ?_ ?_ ?_ ?_ | with_reducible refine ad ?_ ?_ ?_ ?_ | with_reducible refine ab ?_ ?_ ?_ | with_reducible refine af ?_ ?_ | with_reducible refine ai ?_ ?_ | with_reducible refine ak ?_ _ | (intro _) | with_reducible exact aj _ | exact ah | (dsimp only))
def eD (v : View) (c : Cont) (t : App × Int) : Option ((App × Int) ⊕ ((App × Bool) ⊕ App)) :=
 bif decide (t.2 < (v.s.Apps.length : Int)) then
 (idx v.s.Apps t.2).bind fun x =>
 bif x.Id == c.App then
  some (.inr (.inl (x,true)))
 else
  some (.inl (t.1,w64 (t.2 + 1)))
 else
 some (.inr (.inr (t.1)))
theorem o6 (v : View) (c : Cont) (t : App × Int) : Lo (eD v c t) (fN v c t):=by
 unfold eD fN
 repeat' (first | with_reducible refine aa ?_ ?_ ?_ ?_ ?_ | with_reducible refine ad ?_ ?_ ?_ ?_ | with_reducible refine ab ?_ ?_ ?_ | with_reducible refine af ?_ ?_ | with_reducible refine ai ?_ ?_ | with_reducible refine ak ?_ _ | (intro _) | with_reducible exact aj _ | exact ah | (dsimp only))
def gc (v : View) (c : Cont) : Option (App × Bool) :=
 (itr 4096 (eD v c) ((⟨0,0,[],0,0,⟨0,0⟩,[],0,0,[],[],[],[]⟩ : App),0)).bind fun q0 =>
 match q0 with
 | .inl q =>
 some (q.1,q.2)
 | .inr q1 =>
 some ((⟨0,0,[],0,0,⟨0,0⟩,[],0,0,[],[],[],[]⟩ : App),false)
theorem qO (v : View) (c : Cont) : Lo (gc v c) (fc v c):=by
 unfold gc fc
 repeat' (first | with_reducible exact o6 _ _ _ | with_reducible refine aa ?_ ?_ ?_ ?_ ?_ | with_reducible refine ad ?_ ?_ ?_ ?_ | with_reducible refine ab ?_ ?_ ?_ | with_reducible refine af ?_ ?_ | with_reducible refine ai ?_ ?_ | with_reducible refine ak ?_ _ | (intro _) | with_reducible exact aj _ | exact ah | (dsimp only))
def dN (s : List UInt8) (prefix_ : List UInt8) : Option Bool :=
 bif decide ((s.length : Int) ≥ (prefix_.length : Int)) then
 (slc s 0 (prefix_.length : Int)).bind fun s1 =>
 some (s1 == prefix_)
 else
 some false
theorem nq (s : List UInt8) (prefix_ : List UInt8) : Lo (dN s prefix_) (cm s prefix_):=by
 unfold dN cm
 repeat' (first | with_reducible refine aa ?_ ?_ ?_ ?_ ?_ | with_reducible refine ad ?_ ?_ ?_ ?_ | with_reducible refine ab ?_ ?_ ?_ | with_reducible refine af ?_ ?_ | with_reducible refine ai ?_ ?_ | with_reducible refine ak ?_ _ | (intro _) | with_reducible exact aj _ | exact ah | (dsimp only))
def fL (s : List UInt8) (prefix_ : List UInt8) : Option Bool :=
 (dN s prefix_).bind fun x =>
 some x
theorem qC (s : List UInt8) (prefix_ : List UInt8) : Lo (fL s prefix_) (eb s prefix_):=by
 unfold fL eb
 repeat' (first | with_reducible exact nq _ _ | with_reducible refine aa ?_ ?_ ?_ ?_ ?_ | with_reducible refine ad ?_ ?_ ?_ ?_ | with_reducible refine ab ?_ ?_ ?_ | with_reducible refine af ?_ ?_ | with_reducible refine ai ?_ ?_ | with_reducible refine ak ?_ _ | (intro _) | with_reducible exact aj _ | exact ah | (dsimp only))
def iD (v : View) (a : App) : Option Bool :=
 (
 bif a.Queue == v.path then
  some true
 else
  (cat v.path ([46] : List UInt8)).bind fun s =>
  (fL a.Queue s).bind fun x =>
  some x).bind fun below =>
 bif below then
 bif v.user == (-1) then
  some true
 else
  some (a.User == v.user)
 else
 some false
theorem sr (v : View) (a : App) : Lo (iD v a) (gv v a):=by
 unfold iD gv
 repeat' (first | with_reducible exact qC _ _ | with_reducible refine aa ?_ ?_ ?_ ?_ ?_ | with_reducible refine ad ?_ ?_ ?_ ?_ | with_reducible refine ab ?_ ?_ ?_ | with_reducible refine af ?_ ?_ | with_reducible refine ai ?_ ?_ | with_reducible refine ak ?_ _ | (intro _) | with_reducible exact aj _ | exact ah | (dsimp only))
def fj (v : View) (t : Vec × Int) : Option ((Vec × Int) ⊕ Vec) :=
 bif decide (t.2 < (v.s.Conts.length : Int)) then
 (
  (idx v.s.Conts t.2).bind fun x =>
  (gc v x).bind fun x1 =>
  (
  bif x1.2 then
   bif x.Label == v.label then
   (iD v x1.1).bind fun x2 =>
   some x2
   else
   some false
  else
   some false).bind fun q =>
  bif q then
  (ff t.1 x.Size).bind fun x3 =>
  some x3.1
  else
  some t.1).bind fun out =>
 some (.inl (out,w64 (t.2 + 1)))
 else
 some (.inr t.1)
theorem pP (v : View) (t : Vec × Int) : Lo (fj v t) (gn v t):=by
 unfold fj gn
 repeat' (first | with_reducible exact qO _ _ | with_reducible exact sr _ _ | with_reducible exact iq _ _ | with_reducible refine aa ?_ ?_ ?_ ?_ ?_ | with_reducible refine ad ?_ ?_ ?_ ?_ | with_reducible refine ab ?_ ?_ ?_ | with_reducible refine af ?_ ?_ | with_reducible refine ai ?_ ?_ | with_reducible refine ak ?_ _ | (intro _) | with_reducible exact aj _ | exact ah | (dsimp only))
def eh (v : View) : Option Vec :=
 (itr 4096 (fj v) ((⟨0,0⟩ : Vec),0)).bind fun out1 =>
 some out1
theorem lB (v : View) : Lo (eh v) (dU v):=by
 unfold eh dU
 repeat' (first | with_reducible exact pP _ _ | with_reducible refine aa ?_ ?_ ?_ ?_ ?_ | with_reducible refine ad ?_ ?_ ?_ ?_ | with_reducible refine ab ?_ ?_ ?_ | with_reducible refine af ?_ ?_ | with_reducible refine ai ?_ ?_ | with_reducible refine ak ?_ _ | (intro _) | with_reducible exact aj _ | exact ah | (dsimp only))
def gu (s : State) (path : List UInt8) (label : Int) : Option Vec :=
 (eh (⟨⟨⟨s.Conf.Labels,s.Conf.Queues⟩,s.Nodes,s.Apps,s.Conts,s.Slots,s.Plans,s.Now,s.Epoch,s.Seq⟩,path,label,(-1)⟩ : View)).bind fun x =>
 some x
theorem mc (s : State) (path : List UInt8) (label : Int) : Lo (gu s path label) (gz s path label):=by
 unfold gu gz
 repeat' (first | with_reducible exact lB _ | with_reducible refine aa ?_ ?_ ?_ ?_ ?_ | with_reducible refine ad ?_ ?_ ?_ ?_ | with_reducible refine ab ?_ ?_ ?_ | with_reducible refine af ?_ ?_ | with_reducible refine ai ?_ ?_ | with_reducible refine ak ?_ _ | (intro _) | with_reducible exact aj _ | exact ah | (dsimp only))
def fE (s : List Queue) (f : (TupT fam [.st 2] → Option Bool)) (t : Int) : Option (Int ⊕ (Int ⊕ Unit)) :=
 bif decide (t < (s.length : Int)) then
 (idx s t).bind fun x =>
 (f (x,())).bind fun r =>
 bif r then
  some (.inr (.inl t))
 else
  some (.inl (w64 (t + 1)))
 else
 some (.inr (.inr ()))
theorem qg (s : List Queue) (f f_' : (TupT fam [.st 2] → Option Bool)) (h_f : ∀ a,Lo (f a) (f_' a)) (t : Int) : Lo (fE s f t) (gV s f_' t):=by
 unfold fE gV
 repeat' (first | exact h_f _ | with_reducible refine aa ?_ ?_ ?_ ?_ ?_ | with_reducible refine ad ?_ ?_ ?_ ?_ | with_reducible refine ab ?_ ?_ ?_ | with_reducible refine af ?_ ?_ | with_reducible refine ai ?_ ?_ | with_reducible refine ak ?_ _ | (intro _) | with_reducible exact aj _ | exact ah | (dsimp only))
def iF (s : List Queue) (f : (TupT fam [.st 2] → Option Bool)) : Option Int :=
 (itr 4096 (fE s f) 0).bind fun q0 =>
 match q0 with
 | .inl q =>
 some q
 | .inr _ =>
 some (-1)
theorem sn (s : List Queue) (f f_' : (TupT fam [.st 2] → Option Bool)) (h_f : ∀ a,Lo (f a) (f_' a)) : Lo (iF s f) (gI s f_'):=by
 unfold iF gI
 repeat' (first | with_reducible refine qg _ _ _ ?_ _ | exact h_f _ | with_reducible refine aa ?_ ?_ ?_ ?_ ?_ | with_reducible refine ad ?_ ?_ ?_ ?_ | with_reducible refine ab ?_ ?_ ?_ | with_reducible refine af ?_ ?_ | with_reducible refine ai ?_ ?_ | with_reducible refine ak ?_ _ | (intro _) | with_reducible exact aj _ | exact ah | (dsimp only))
def mo (q : Queue) (p : List UInt8) : Option Bool :=
 some (q.Path == p)
theorem vf (q : Queue) (p : List UInt8) : Lo (mo q p) (k8 q p):=by
 unfold mo k8
 repeat' (first | with_reducible refine aa ?_ ?_ ?_ ?_ ?_ | with_reducible refine ad ?_ ?_ ?_ ?_ | with_reducible refine ab ?_ ?_ ?_ | with_reducible refine af ?_ ?_ | with_reducible refine ai ?_ ?_ | with_reducible refine ak ?_ _ | (intro _) | with_reducible exact aj _ | exact ah | (dsimp only))
def hZ (c : Conf) (path : List UInt8) : Option (Queue × Bool) :=
 (iF c.Queues (fun a' => mo a'.1 path)).bind fun i =>
 bif decide (i < 0) then
 some ((⟨[],[],0⟩ : Queue),false)
 else
 (idx c.Queues i).bind fun x =>
 (mI x.Caps).bind fun x1 =>
 some ((⟨x.Path,x1,x.User⟩ : Queue),true)
theorem nF (c : Conf) (path : List UInt8) : Lo (hZ c path) (iQ c path):=by
 unfold hZ iQ
 repeat' (first | with_reducible refine sn _ _ _ ?_ | with_reducible exact vf _ _ | with_reducible exact sD _ | with_reducible refine aa ?_ ?_ ?_ ?_ ?_ | with_reducible refine ad ?_ ?_ ?_ ?_ | with_reducible refine ab ?_ ?_ ?_ | with_reducible refine af ?_ ?_ | with_reducible refine ai ?_ ?_ | with_reducible refine ak ?_ _ | (intro _) | with_reducible exact aj _ | exact ah | (dsimp only))
def gq (x : Int) (y : Int) : Option (Int × Int) :=
 let w0:=IntKind.u64.wrap ((andK .u64 x 4294967295) * (andK .u64 y 4294967295))
 let t:=IntKind.u64.wrap ((IntKind.u64.wrap ((shrK .u64 x 32) * (andK .u64 y 4294967295))) + (shrK .u64 w0 32))
 let w1:=IntKind.u64.wrap ((andK .u64 t 4294967295) + (IntKind.u64.wrap ((andK .u64 x 4294967295) * (shrK .u64 y 32))))
 let hi:=IntKind.u64.wrap ((IntKind.u64.wrap ((IntKind.u64.wrap ((shrK .u64 x 32) * (shrK .u64 y 32))) + (shrK .u64 t 32))) + (shrK .u64 w1 32))
 some (hi,IntKind.u64.wrap (x * y))
theorem qL (x : Int) (y : Int) : Lo (gq x y) (gx x y):=by
 unfold gq gx
 repeat' (first | with_reducible refine aa ?_ ?_ ?_ ?_ ?_ | with_reducible refine ad ?_ ?_ ?_ ?_ | with_reducible refine ab ?_ ?_ ?_ | with_reducible refine af ?_ ?_ | with_reducible refine ai ?_ ?_ | with_reducible refine ak ?_ _ | (intro _) | with_reducible exact aj _ | exact ah | (dsimp only))
def na (x : Int) : Option Int :=
 (
 bif decide (x ≥ 4294967296) then
  some (shrK .u64 x 32,32)
 else
  some (x,0)).bind fun q =>
 (
 bif decide (q.1 ≥ 65536) then
  some (shrK .u64 q.1 16,w64 (q.2 + 16))
 else
  some (q.1,q.2)).bind fun q1 =>
 (
 bif decide (q1.1 ≥ 256) then
  some (shrK .u64 q1.1 8,w64 (q1.2 + 8))
 else
  some (q1.1,q1.2)).bind fun q2 =>
 (idx ([0,1,2,2,3,3,3,3,4,4,4,4,4,4,4,4,5,5,5,5,5,5,5,5,5,5,5,5,5,5,5,5,6,6,6,6,6,6,6,6,6,6,6,6,6,6,6,6,6,6,6,6,6,6,6,6,6,6,6,6,6,6,6,6,7,7,7,7,7,7,7,7,7,7,7,7,7,7,7,7,7,7,7,7,7,7,7,7,7,7,7,7,7,7,7,7,7,7,7,7,7,7,7,7,7,7,7,7,7,7,7,7,7,7,7,7,7,7,7,7,7,7,7,7,7,7,7,7,8,8,8,8,8,8,8,8,8,8,8,8,8,8,8,8,8,8,8,8,8,8,8,8,8,8,8,8,8,8,8,8,8,8,8,8,8,8,8,8,8,8,8,8,8,8,8,8,8,8,8,8,8,8,8,8,8,8,8,8,8,8,8,8,8,8,8,8,8,8,8,8,8,8,8,8,8,8,8,8,8,8,8,8,8,8,8,8,8,8,8,8,8,8,8,8,8,8,8,8,8,8,8,8,8,8,8,8,8,8,8,8,8,8,8,8,8,8,8,8,8,8,8,8,8,8,8,8] : List UInt8) (IntKind.u8.wrap q2.1)).bind fun ch =>
 let n:=w64 (q2.2 + (w64 (ch.toNat : Int)))
 some n
theorem v9 (x : Int) : Lo (na x) (mJ x):=by
 unfold na mJ
 repeat' (first | with_reducible refine aa ?_ ?_ ?_ ?_ ?_ | with_reducible refine ad ?_ ?_ ?_ ?_ | with_reducible refine ab ?_ ?_ ?_ | with_reducible refine af ?_ ?_ | with_reducible refine ai ?_ ?_ | with_reducible refine ak ?_ _ | (intro _) | with_reducible exact aj _ | exact ah | (dsimp only))
def eB (x : Int) : Option Int :=
 (na x).bind fun x1 =>
 some (w64 (64 - x1))
theorem oW (x : Int) : Lo (eB x) (dh x):=by
 unfold eB dh
 repeat' (first | with_reducible exact v9 _ | with_reducible refine aa ?_ ?_ ?_ ?_ ?_ | with_reducible refine ad ?_ ?_ ?_ ?_ | with_reducible refine ab ?_ ?_ ?_ | with_reducible refine af ?_ ?_ | with_reducible refine ai ?_ ?_ | with_reducible refine ak ?_ _ | (intro _) | with_reducible exact aj _ | exact ah | (dsimp only))
def jW (yn1 : Int) (yn0 : Int) (un0 : Int) (t1 : Int × Int) : Option ((Int × Int) ⊕ Int) :=
 (
 bif decide (t1.2 ≥ 4294967296) then
  some true
 else
  some (decide ((IntKind.u64.wrap (t1.2 * yn0)) > (IntKind.u64.wrap ((IntKind.u64.wrap (4294967296 * t1.1)) + un0))))).bind fun q2 =>
 bif q2 then
 bif decide ((IntKind.u64.wrap (t1.1 + yn1)) ≥ 4294967296) then
  some (.inr (IntKind.u64.wrap (t1.2 - 1)))
 else
  some (.inl (IntKind.u64.wrap (t1.1 + yn1),IntKind.u64.wrap (t1.2 - 1)))
 else
 some (.inr t1.2)
theorem tv (yn1 : Int) (yn0 : Int) (un0 : Int) (t1 : Int × Int) : Lo (jW yn1 yn0 un0 t1) (mg yn1 yn0 un0 t1):=by
 unfold jW mg
 repeat' (first | with_reducible refine aa ?_ ?_ ?_ ?_ ?_ | with_reducible refine ad ?_ ?_ ?_ ?_ | with_reducible refine ab ?_ ?_ ?_ | with_reducible refine af ?_ ?_ | with_reducible refine ai ?_ ?_ | with_reducible refine ak ?_ _ | (intro _) | with_reducible exact aj _ | exact ah | (dsimp only))
def j1 (yn1 : Int) (yn0 : Int) (un1 : Int) (t : Int × Int) : Option ((Int × Int) ⊕ Int) :=
 (
 bif decide (t.1 ≥ 4294967296) then
  some true
 else
  some (decide ((IntKind.u64.wrap (t.1 * yn0)) > (IntKind.u64.wrap ((IntKind.u64.wrap (4294967296 * t.2)) + un1))))).bind fun q =>
 bif q then
 bif decide ((IntKind.u64.wrap (t.2 + yn1)) ≥ 4294967296) then
  some (.inr (IntKind.u64.wrap (t.1 - 1)))
 else
  some (.inl (IntKind.u64.wrap (t.1 - 1),IntKind.u64.wrap (t.2 + yn1)))
 else
 some (.inr t.1)
theorem ta (yn1 : Int) (yn0 : Int) (un1 : Int) (t : Int × Int) : Lo (j1 yn1 yn0 un1 t) (lZ yn1 yn0 un1 t):=by
 unfold j1 lZ
 repeat' (first | with_reducible refine aa ?_ ?_ ?_ ?_ ?_ | with_reducible refine ad ?_ ?_ ?_ ?_ | with_reducible refine ab ?_ ?_ ?_ | with_reducible refine af ?_ ?_ | with_reducible refine ai ?_ ?_ | with_reducible refine ak ?_ _ | (intro _) | with_reducible exact aj _ | exact ah | (dsimp only))
def nt (hi : Int) (lo : Int) (y : Int) : Option (Int × Int) :=
 bif y == 0 then
 none
 else
 bif decide (y ≤ hi) then
  none
 else
  bif hi == 0 then
  (nz y).bind fun _ =>
  (nz y).bind fun _ =>
  some (IntKind.u64.wrap (Int.tdiv lo y),Int.tmod lo y)
  else
  (eB y).bind fun x =>
  (nn (IntKind.u64.wrap x)).bind fun _ =>
  let yn1:=shrK .u64 (shlK .u64 y (IntKind.u64.wrap x)) 32
  let yn0:=andK .u64 (shlK .u64 y (IntKind.u64.wrap x)) 4294967295
  (nn (IntKind.u64.wrap x)).bind fun _ =>
  (nn (IntKind.u64.wrap (64 - (IntKind.u64.wrap x)))).bind fun _ =>
  let un32:=orK .u64 (shlK .u64 hi (IntKind.u64.wrap x)) (shrK .u64 lo (IntKind.u64.wrap (64 - (IntKind.u64.wrap x))))
  (nn (IntKind.u64.wrap x)).bind fun _ =>
  let un1:=shrK .u64 (shlK .u64 lo (IntKind.u64.wrap x)) 32
  let un0:=andK .u64 (shlK .u64 lo (IntKind.u64.wrap x)) 4294967295
  (nz yn1).bind fun _ =>
  let rhat:=IntKind.u64.wrap (un32 - (IntKind.u64.wrap ((IntKind.u64.wrap (Int.tdiv un32 yn1)) * yn1)))
  (itr 4096 (j1 yn1 yn0 un1) (IntKind.u64.wrap (Int.tdiv un32 yn1),rhat)).bind fun q1 =>
  let un21:=IntKind.u64.wrap ((IntKind.u64.wrap ((IntKind.u64.wrap (un32 * 4294967296)) + un1)) - (IntKind.u64.wrap (q1 * (shlK .u64 y (IntKind.u64.wrap x)))))
  (nz yn1).bind fun _ =>
  let rhat1:=IntKind.u64.wrap (un21 - (IntKind.u64.wrap ((IntKind.u64.wrap (Int.tdiv un21 yn1)) * yn1)))
  (itr 4096 (jW yn1 yn0 un0) (rhat1,IntKind.u64.wrap (Int.tdiv un21 yn1))).bind fun q0 =>
  (nn (IntKind.u64.wrap x)).bind fun _ =>
  let quo:=IntKind.u64.wrap ((IntKind.u64.wrap (q1 * 4294967296)) + q0)
  let rem:=shrK .u64 (IntKind.u64.wrap ((IntKind.u64.wrap ((IntKind.u64.wrap (un21 * 4294967296)) + un0)) - (IntKind.u64.wrap (q0 * (shlK .u64 y (IntKind.u64.wrap x)))))) (IntKind.u64.wrap x)
  some (quo,rem)
theorem vY (hi : Int) (lo : Int) (y : Int) : Lo (nt hi lo y) (mE hi lo y):=by
 unfold nt mE
 repeat' (first | with_reducible exact oW _ | with_reducible exact ta _ _ _ _ | with_reducible exact tv _ _ _ _ | with_reducible refine aa ?_ ?_ ?_ ?_ ?_ | with_reducible refine ad ?_ ?_ ?_ ?_ | with_reducible refine ab ?_ ?_ ?_ | with_reducible refine af ?_ ?_ | with_reducible refine ai ?_ ?_ | with_reducible refine ak ?_ _ | (intro _) | with_reducible exact aj _ | exact ah | (dsimp only))
def lm (n : Int) (bp : Int) : Option Int :=
 (gq (IntKind.u64.wrap n) (IntKind.u64.wrap bp)).bind fun x =>
 (nt x.1 x.2 10000).bind fun x1 =>
 some (w64 x1.1)
theorem xo (n : Int) (bp : Int) : Lo (lm n bp) (lJ n bp):=by
 unfold lm lJ
 repeat' (first | with_reducible exact qL _ _ | with_reducible exact vY _ _ _ | with_reducible refine aa ?_ ?_ ?_ ?_ ?_ | with_reducible refine ad ?_ ?_ ?_ ?_ | with_reducible refine ab ?_ ?_ ?_ | with_reducible refine af ?_ ?_ | with_reducible refine ai ?_ ?_ | with_reducible refine ak ?_ _ | (intro _) | with_reducible exact aj _ | exact ah | (dsimp only))
def ja (a : Vec) (bp : Int) : Option (Vec × Int) :=
 (
 (aL a).bind fun x =>
 bif ! x then
  some true
 else
  bif decide (bp < 0) then
  some true
  else
  some (decide (bp > 1000000))).bind fun q =>
 bif q then
 some ((⟨0,0⟩ : Vec),1)
 else
 (lm a.Mem bp).bind fun x1 =>
 (lm a.Cores bp).bind fun x2 =>
 (lh (⟨x1,x2⟩ : Vec)).bind fun x3 =>
 some (x3.1,x3.2)
theorem qN (a : Vec) (bp : Int) : Lo (ja a bp) (jF a bp):=by
 unfold ja jF
 repeat' (first | with_reducible exact fh _ | with_reducible exact xo _ _ | with_reducible exact rC _ | with_reducible refine aa ?_ ?_ ?_ ?_ ?_ | with_reducible refine ad ?_ ?_ ?_ ?_ | with_reducible refine ab ?_ ?_ ?_ | with_reducible refine af ?_ ?_ | with_reducible refine ai ?_ ?_ | with_reducible refine ak ?_ _ | (intro _) | with_reducible exact aj _ | exact ah | (dsimp only))
def bd (s : List UInt8) (c : Int) (i1 : Int) : Option (Int ⊕ (Int ⊕ Unit)) :=
 bif decide (i1 ≥ 0) then
 (idx s i1).bind fun ch =>
 bif (ch.toNat : Int) == c then
  some (.inr (.inl i1))
 else
  some (.inl (w64 (i1 - 1)))
 else
 some (.inr (.inr ()))
theorem ip (s : List UInt8) (c : Int) (i1 : Int) : Lo (bd s c i1) (bz s c i1):=by
 unfold bd bz
 repeat' (first | with_reducible refine aa ?_ ?_ ?_ ?_ ?_ | with_reducible refine ad ?_ ?_ ?_ ?_ | with_reducible refine ab ?_ ?_ ?_ | with_reducible refine af ?_ ?_ | with_reducible refine ai ?_ ?_ | with_reducible refine ak ?_ _ | (intro _) | with_reducible exact aj _ | exact ah | (dsimp only))
def bH (s : List UInt8) (c : Int) : Option Int :=
 let i:=w64 ((s.length : Int) - 1)
 (itr 4096 (bd s c) i).bind fun q0 =>
 match q0 with
 | .inl q =>
 some q
 | .inr _ =>
 some (-1)
theorem jR (s : List UInt8) (c : Int) : Lo (bH s c) (a8 s c):=by
 unfold bH a8
 repeat' (first | with_reducible exact ip _ _ _ | with_reducible refine aa ?_ ?_ ?_ ?_ ?_ | with_reducible refine ad ?_ ?_ ?_ ?_ | with_reducible refine ab ?_ ?_ ?_ | with_reducible refine af ?_ ?_ | with_reducible refine ai ?_ ?_ | with_reducible refine ak ?_ _ | (intro _) | with_reducible exact aj _ | exact ah | (dsimp only))
def bo (t1 : Int × Int × Int) : Option ((Int × Int × Int) ⊕ Int) :=
 bif decide (t1.2.2 > 0) then
 (
  bif (andK .i64 t1.2.2 1) != 0 then
  let pow:=IntKind.u32.wrap (t1.1 * t1.2.1)
  some pow
  else
  some t1.1).bind fun pow1 =>
 let sq:=IntKind.u32.wrap (t1.2.1 * t1.2.1)
 some (.inl (pow1,sq,shrK .i64 t1.2.2 1))
 else
 some (.inr t1.1)
theorem iM (t1 : Int × Int × Int) : Lo (bo t1) (bI t1):=by
 unfold bo bI
 repeat' (first | with_reducible refine aa ?_ ?_ ?_ ?_ ?_ | with_reducible refine ad ?_ ?_ ?_ ?_ | with_reducible refine ab ?_ ?_ ?_ | with_reducible refine af ?_ ?_ | with_reducible refine ai ?_ ?_ | with_reducible refine ak ?_ _ | (intro _) | with_reducible exact aj _ | exact ah | (dsimp only))
def bk (sep : List UInt8) (t : Int × Int) : Option ((Int × Int) ⊕ Int) :=
 bif decide (t.2 ≥ 0) then
 (idx sep t.2).bind fun ch =>
 let hash:=IntKind.u32.wrap ((IntKind.u32.wrap (t.1 * 16777619)) + (IntKind.u32.wrap (ch.toNat : Int)))
 some (.inl (hash,w64 (t.2 - 1)))
 else
 some (.inr t.1)
theorem iI (sep : List UInt8) (t : Int × Int) : Lo (bk sep t) (bJ sep t):=by
 unfold bk bJ
 repeat' (first | with_reducible refine aa ?_ ?_ ?_ ?_ ?_ | with_reducible refine ad ?_ ?_ ?_ ?_ | with_reducible refine ab ?_ ?_ ?_ | with_reducible refine af ?_ ?_ | with_reducible refine ai ?_ ?_ | with_reducible refine ak ?_ _ | (intro _) | with_reducible exact aj _ | exact ah | (dsimp only))
def bP (sep : List UInt8) : Option (Int × Int) :=
 let i:=w64 ((sep.length : Int) - 1)
 (itr 4096 (bk sep) (0,i)).bind fun hash1 =>
 (itr 4096 bo (1,16777619,(sep.length : Int))).bind fun pow2 =>
 some (hash1,pow2)
theorem kc (sep : List UInt8) : Lo (bP sep) (bc sep):=by
 unfold bP bc
 repeat' (first | with_reducible exact iI _ _ | with_reducible exact iM _ | with_reducible refine aa ?_ ?_ ?_ ?_ ?_ | with_reducible refine ad ?_ ?_ ?_ ?_ | with_reducible refine ab ?_ ?_ ?_ | with_reducible refine af ?_ ?_ | with_reducible refine ai ?_ ?_ | with_reducible refine ak ?_ _ | (intro _) | with_reducible exact aj _ | exact ah | (dsimp only))
def aO (s : List UInt8) (sep : List UInt8) (x : Int × Int) (t1 : Int × Int) : Option ((Int × Int) ⊕ (Int ⊕ Unit)) :=
 bif decide (t1.2 ≥ 0) then
 (idx s t1.2).bind fun ch1 =>
 let h2:=IntKind.u32.wrap ((IntKind.u32.wrap (t1.1 * 16777619)) + (IntKind.u32.wrap (ch1.toNat : Int)))
 (idx s (w64 (t1.2 + (sep.length : Int)))).bind fun ch2 =>
 let h3:=IntKind.u32.wrap (h2 - (IntKind.u32.wrap (x.2 * (IntKind.u32.wrap (ch2.toNat : Int)))))
 (
  bif h3 == x.1 then
  (slc s t1.2 (w64 (t1.2 + (sep.length : Int)))).bind fun s2 =>
  some (s2 == sep)
  else
  some false).bind fun q1 =>
 bif q1 then
  some (.inr (.inl (t1.2)))
 else
  some (.inl (h3,w64 (t1.2 - 1)))
 else
 some (.inr (.inr ()))
theorem fk (s : List UInt8) (sep : List UInt8) (x : Int × Int) (t1 : Int × Int) : Lo (aO s sep x t1) (aV s sep x t1):=by
 unfold aO aV
 repeat' (first | with_reducible refine aa ?_ ?_ ?_ ?_ ?_ | with_reducible refine ad ?_ ?_ ?_ ?_ | with_reducible refine ab ?_ ?_ ?_ | with_reducible refine af ?_ ?_ | with_reducible refine ai ?_ ?_ | with_reducible refine ak ?_ _ | (intro _) | with_reducible exact aj _ | exact ah | (dsimp only))
def aR (s : List UInt8) (last : Int) (t : Int × Int) : Option ((Int × Int) ⊕ Int) :=
 bif decide (t.2 ≥ last) then
 (idx s t.2).bind fun ch =>
 let h:=IntKind.u32.wrap ((IntKind.u32.wrap (t.1 * 16777619)) + (IntKind.u32.wrap (ch.toNat : Int)))
 some (.inl (h,w64 (t.2 - 1)))
 else
 some (.inr t.1)
theorem fg (s : List UInt8) (last : Int) (t : Int × Int) : Lo (aR s last t) (aU s last t):=by
 unfold aR aU
 repeat' (first | with_reducible refine aa ?_ ?_ ?_ ?_ ?_ | with_reducible refine ad ?_ ?_ ?_ ?_ | with_reducible refine ab ?_ ?_ ?_ | with_reducible refine af ?_ ?_ | with_reducible refine ai ?_ ?_ | with_reducible refine ak ?_ _ | (intro _) | with_reducible exact aj _ | exact ah | (dsimp only))
def aX (s : List UInt8) (sep : List UInt8) : Option Int :=
 (bP sep).bind fun x =>
 let last:=w64 ((s.length : Int) - (sep.length : Int))
 let i:=w64 ((s.length : Int) - 1)
 (itr 4096 (aR s last) (0,i)).bind fun h1 =>
 (
 bif h1 == x.1 then
  (slc s last (s.length : Int)).bind fun s1 =>
  some (s1 == sep)
 else
  some false).bind fun q =>
 bif q then
 some last
 else
 (itr 4096 (aO s sep x) (h1,w64 (last - 1))).bind fun q0 =>
 match q0 with
 | .inl q2 =>
  some q2
 | .inr _ =>
  some (-1)
theorem fY (s : List UInt8) (sep : List UInt8) : Lo (aX s sep) (aK s sep):=by
 unfold aX aK
 repeat' (first | with_reducible exact kc _ | with_reducible exact fg _ _ _ | with_reducible exact fk _ _ _ _ | with_reducible refine aa ?_ ?_ ?_ ?_ ?_ | with_reducible refine ad ?_ ?_ ?_ ?_ | with_reducible refine ab ?_ ?_ ?_ | with_reducible refine af ?_ ?_ | with_reducible refine ai ?_ ?_ | with_reducible refine ak ?_ _ | (intro _) | with_reducible exact aj _ | exact ah | (dsimp only))
def fG (s : List UInt8) (substr : List UInt8) : Option Int :=
 bif (substr.length : Int) == 0 then
 some (s.length : Int)
 else
 bif (substr.length : Int) == 1 then
  (idx substr 0).bind fun ch =>
  (bH s (ch.toNat : Int)).bind fun x =>
  some x
 else
  bif (substr.length : Int) == (s.length : Int) then
  bif substr == s then
   some 0
  else
   some (-1)
  else
  bif decide ((substr.length : Int) > (s.length : Int)) then
   some (-1)
  else
   (aX s substr).bind fun x1 =>
   some x1
theorem pV (s : List UInt8) (substr : List UInt8) : Lo (fG s substr) (er s substr):=by
 unfold fG er
 repeat' (first | with_reducible exact jR _ _ | with_reducible exact fY _ _ | with_reducible refine aa ?_ ?_ ?_ ?_ ?_ | with_reducible refine ad ?_ ?_ ?_ ?_ | with_reducible refine ab ?_ ?_ ?_ | with_reducible refine af ?_ ?_ | with_reducible refine ai ?_ ?_ | with_reducible refine ak ?_ _ | (intro _) | with_reducible exact aj _ | exact ah | (dsimp only))
def jr (path : List UInt8) : Option (List UInt8 × Bool) :=
 (fG path ([46] : List UInt8)).bind fun i =>
 bif decide (i < 0) then
 some (([] : List UInt8),false)
 else
 (slc path 0 i).bind fun s =>
 some (s,true)
theorem qH (path : List UInt8) : Lo (jr path) (ji path):=by
 unfold jr ji
 repeat' (first | with_reducible exact pV _ _ | with_reducible refine aa ?_ ?_ ?_ ?_ ?_ | with_reducible refine ad ?_ ?_ ?_ ?_ | with_reducible refine ab ?_ ?_ ?_ | with_reducible refine af ?_ ?_ | with_reducible refine ai ?_ ?_ | with_reducible refine ak ?_ _ | (intro _) | with_reducible exact aj _ | exact ah | (dsimp only))
def m6 (t : List UInt8 × List (List UInt8)) : Option ((List UInt8 × List (List UInt8)) ⊕ List (List UInt8)) :=
 bif ! (t.1 == ([] : List UInt8)) then
 (app 16 t.2 [t.1]).bind fun l =>
 (jr t.1).bind fun x =>
 some (.inl (x.1,l))
 else
 some (.inr t.2)
theorem v6 (t : List UInt8 × List (List UInt8)) : Lo (m6 t) (ql t):=by
 unfold m6 ql
 repeat' (first | with_reducible exact qH _ | with_reducible refine aa ?_ ?_ ?_ ?_ ?_ | with_reducible refine ad ?_ ?_ ?_ ?_ | with_reducible refine ab ?_ ?_ ?_ | with_reducible refine af ?_ ?_ | with_reducible refine ai ?_ ?_ | with_reducible refine ak ?_ _ | (intro _) | with_reducible exact aj _ | exact ah | (dsimp only))
def oz (path : List UInt8) : Option (List (List UInt8)) :=
 (itr 4096 m6 (path,[])).bind fun out =>
 some out
theorem ui (path : List UInt8) : Lo (oz path) (pz path):=by
 unfold oz pz
 repeat' (first | with_reducible exact v6 _ | with_reducible refine aa ?_ ?_ ?_ ?_ ?_ | with_reducible refine ad ?_ ?_ ?_ ?_ | with_reducible refine ab ?_ ?_ ?_ | with_reducible refine af ?_ ?_ | with_reducible refine ai ?_ ?_ | with_reducible refine ak ?_ _ | (intro _) | with_reducible exact aj _ | exact ah | (dsimp only))
def kj (l : List Vec) (t : Vec × Int) : Option ((Vec × Int) ⊕ Vec) :=
 bif decide (t.2 < (l.length : Int)) then
 (idx l t.2).bind fun x =>
 (ff t.1 x).bind fun x1 =>
 some (.inl (x1.1,w64 (t.2 + 1)))
 else
 some (.inr t.1)
theorem tA (l : List Vec) (t : Vec × Int) : Lo (kj l t) (nr l t):=by
 unfold kj nr
 repeat' (first | with_reducible exact iq _ _ | with_reducible refine aa ?_ ?_ ?_ ?_ ?_ | with_reducible refine ad ?_ ?_ ?_ ?_ | with_reducible refine ab ?_ ?_ ?_ | with_reducible refine af ?_ ?_ | with_reducible refine ai ?_ ?_ | with_reducible refine ak ?_ _ | (intro _) | with_reducible exact aj _ | exact ah | (dsimp only))
def kX (l : List Vec) : Option Vec :=
 (itr 4096 (kj l) ((⟨0,0⟩ : Vec),0)).bind fun out =>
 some out
theorem rS (l : List Vec) : Lo (kX l) (lp l):=by
 unfold kX lp
 repeat' (first | with_reducible exact tA _ _ | with_reducible refine aa ?_ ?_ ?_ ?_ ?_ | with_reducible refine ad ?_ ?_ ?_ ?_ | with_reducible refine ab ?_ ?_ ?_ | with_reducible refine af ?_ ?_ | with_reducible refine ai ?_ ?_ | with_reducible refine ak ?_ _ | (intro _) | with_reducible exact aj _ | exact ah | (dsimp only))
def iP (s : State) (label : Int) (t : List Vec × Int) : Option ((List Vec × Int) ⊕ List Vec) :=
 bif decide (t.2 < (s.Nodes.length : Int)) then
 (
  (idx s.Nodes t.2).bind fun x =>
  (
  bif x.Up then
   some (x.Label == label)
  else
   some false).bind fun q =>
  bif q then
  (app 16 t.1 [x.Cap]).bind fun l =>
  some l
  else
  some t.1).bind fun l1 =>
 some (.inl (l1,w64 (t.2 + 1)))
 else
 some (.inr t.1)
theorem si (s : State) (label : Int) (t : List Vec × Int) : Lo (iP s label t) (kG s label t):=by
 unfold iP kG
 repeat' (first | with_reducible refine aa ?_ ?_ ?_ ?_ ?_ | with_reducible refine ad ?_ ?_ ?_ ?_ | with_reducible refine ab ?_ ?_ ?_ | with_reducible refine af ?_ ?_ | with_reducible refine ai ?_ ?_ | with_reducible refine ak ?_ _ | (intro _) | with_reducible exact aj _ | exact ah | (dsimp only))
def iu (s : State) (label : Int) : Option Vec :=
 (itr 4096 (iP s label) ([],0)).bind fun l2 =>
 (kX l2).bind fun x1 =>
 some x1
theorem pT (s : State) (label : Int) : Lo (iu s label) (ib s label):=by
 unfold iu ib
 repeat' (first | with_reducible exact si _ _ _ | with_reducible exact rS _ | with_reducible refine aa ?_ ?_ ?_ ?_ ?_ | with_reducible refine ad ?_ ?_ ?_ ?_ | with_reducible refine ab ?_ ?_ ?_ | with_reducible refine af ?_ ?_ | with_reducible refine ai ?_ ?_ | with_reducible refine ak ?_ _ | (intro _) | with_reducible exact aj _ | exact ah | (dsimp only))
def je (s : State) (label : Int) (part : (TupT fam [.st 1] → Option Int)) (up : List (List UInt8)) (t : Vec × Vec × Int) : Option ((Vec × Vec × Int) ⊕ (Vec ⊕ (Vec × Vec))) :=
 bif decide (t.2.2 ≥ 0) then
 (inb t.2.2 up.length).bind fun i1 =>
 (up[i1]?).bind fun x2 =>
 (hZ s.Conf x2).bind fun x3 =>
 (
  bif ! x3.2 then
  some true
  else
  bif decide (label < 0) then
   some true
  else
   some (decide (label ≥ (x3.1.Caps.length : Int)))).bind fun q =>
 bif q then
  some (.inr (.inl (⟨0,0⟩ : Vec)))
 else
  (inb label x3.1.Caps.length).bind fun i2 =>
  (x3.1.Caps[i2]?).bind fun x4 =>
  (part (x4,())).bind fun r =>
  (ja t.2.1 r).bind fun x5 =>
  some (.inl (t.1,x5.1,w64 (t.2.2 - 1)))
 else
 some (.inr (.inr (t.1,t.2.1)))
theorem tz (s : State) (label : Int) (part part_' : (TupT fam [.st 1] → Option Int)) (h_part : ∀ a,Lo (part a) (part_' a)) (up : List (List UInt8)) (t : Vec × Vec × Int) : Lo (je s label part up t) (l7 s label part_' up t):=by
 unfold je l7
 repeat' (first | with_reducible exact nF _ _ | with_reducible exact qN _ _ | exact h_part _ | with_reducible refine aa ?_ ?_ ?_ ?_ ?_ | with_reducible refine ad ?_ ?_ ?_ ?_ | with_reducible refine ab ?_ ?_ ?_ | with_reducible refine af ?_ ?_ | with_reducible refine ai ?_ ?_ | with_reducible refine ak ?_ _ | (intro _) | with_reducible exact aj _ | exact ah | (dsimp only))
def j9 (s : State) (path : List UInt8) (label : Int) (part : (TupT fam [.st 1] → Option Int)) : Option Vec :=
 (oz path).bind fun up =>
 (hZ s.Conf path).bind fun x =>
 bif ! x.2 then
 some (⟨0,0⟩ : Vec)
 else
 (iu s label).bind fun x1 =>
 let i:=w64 ((up.length : Int) - 2)
 (itr 4096 (je s label part up) ((⟨0,0⟩ : Vec),x1,i)).bind fun q0 =>
 match q0 with
 | .inl q1 =>
  some q1
 | .inr q2 =>
  some q2.2
theorem qI (s : State) (path : List UInt8) (label : Int) (part part_' : (TupT fam [.st 1] → Option Int)) (h_part : ∀ a,Lo (part a) (part_' a)) : Lo (j9 s path label part) (jD s path label part_'):=by
 unfold j9 jD
 repeat' (first | with_reducible exact ui _ | with_reducible exact nF _ _ | with_reducible exact pT _ _ | with_reducible refine tz _ _ _ _ ?_ _ _ | exact h_part _ | with_reducible refine aa ?_ ?_ ?_ ?_ ?_ | with_reducible refine ad ?_ ?_ ?_ ?_ | with_reducible refine ab ?_ ?_ ?_ | with_reducible refine af ?_ ?_ | with_reducible refine ai ?_ ?_ | with_reducible refine ak ?_ _ | (intro _) | with_reducible exact aj _ | exact ah | (dsimp only))
def d7 (c : Cap) : Option Int :=
 some c.Least
theorem nR (c : Cap) : Lo (d7 c) (cU c):=by
 unfold d7 cU
 repeat' (first | with_reducible refine aa ?_ ?_ ?_ ?_ ?_ | with_reducible refine ad ?_ ?_ ?_ ?_ | with_reducible refine ab ?_ ?_ ?_ | with_reducible refine af ?_ ?_ | with_reducible refine ai ?_ ?_ | with_reducible refine ak ?_ _ | (intro _) | with_reducible exact aj _ | exact ah | (dsimp only))
def fw (s : State) (path : List UInt8) (label : Int) : Option Vec :=
 (j9 s path label (fun a' => d7 a'.1)).bind fun x =>
 some x
theorem kt (s : State) (path : List UInt8) (label : Int) : Lo (fw s path label) (fx s path label):=by
 unfold fw fx
 repeat' (first | with_reducible refine qI _ _ _ _ _ ?_ | with_reducible exact nR _ | with_reducible refine aa ?_ ?_ ?_ ?_ ?_ | with_reducible refine ad ?_ ?_ ?_ ?_ | with_reducible refine ab ?_ ?_ ?_ | with_reducible refine af ?_ ?_ | with_reducible refine ai ?_ ?_ | with_reducible refine ak ?_ _ | (intro _) | with_reducible exact aj _ | exact ah | (dsimp only))
def cH (t : Attempt) (a : App) (x : Ask) : Option Bool :=
 (gu t.s a.Queue t.n.Label).bind fun x1 =>
 (ff x1 x.Size).bind fun x2 =>
 bif x2.2 == 0 then
 (fw t.s a.Queue t.n.Label).bind fun x3 =>
 (c9 x2.1 x3).bind fun x4 =>
 some x4
 else
 some false
theorem iS (t : Attempt) (a : App) (x : Ask) : Lo (cH t a x) (b8 t a x):=by
 unfold cH b8
 repeat' (first | with_reducible exact mc _ _ _ | with_reducible exact iq _ _ | with_reducible exact kt _ _ _ | with_reducible exact gm _ _ | with_reducible refine aa ?_ ?_ ?_ ?_ ?_ | with_reducible refine ad ?_ ?_ ?_ ?_ | with_reducible refine ab ?_ ?_ ?_ | with_reducible refine af ?_ ?_ | with_reducible refine ai ?_ ?_ | with_reducible refine ak ?_ _ | (intro _) | with_reducible exact aj _ | exact ah | (dsimp only))
def iB (s : State) (path : List UInt8) (label : Int) (user : Int) : Option Vec :=
 bif user == (-1) then
 some (⟨0,0⟩ : Vec)
 else
 (eh (⟨⟨⟨s.Conf.Labels,s.Conf.Queues⟩,s.Nodes,s.Apps,s.Conts,s.Slots,s.Plans,s.Now,s.Epoch,s.Seq⟩,path,label,user⟩ : View)).bind fun x =>
 some x
theorem sm (s : State) (path : List UInt8) (label : Int) (user : Int) : Lo (iB s path label user) (gD s path label user):=by
 unfold iB gD
 repeat' (first | with_reducible exact lB _ | with_reducible refine aa ?_ ?_ ?_ ?_ ?_ | with_reducible refine ad ?_ ?_ ?_ ?_ | with_reducible refine ab ?_ ?_ ?_ | with_reducible refine af ?_ ?_ | with_reducible refine ai ?_ ?_ | with_reducible refine ak ?_ _ | (intro _) | with_reducible exact aj _ | exact ah | (dsimp only))
def mZ (s : State) (path : List UInt8) (label : Int) : Option Vec :=
 (hZ s.Conf path).bind fun x =>
 (fw s path label).bind fun x1 =>
 (ja x1 x.1.User).bind fun x2 =>
 some x2.1
theorem wc (s : State) (path : List UInt8) (label : Int) : Lo (mZ s path label) (mB s path label):=by
 unfold mZ mB
 repeat' (first | with_reducible exact nF _ _ | with_reducible exact kt _ _ _ | with_reducible exact qN _ _ | with_reducible refine aa ?_ ?_ ?_ ?_ ?_ | with_reducible refine ad ?_ ?_ ?_ ?_ | with_reducible refine ab ?_ ?_ ?_ | with_reducible refine af ?_ ?_ | with_reducible refine ai ?_ ?_ | with_reducible refine ak ?_ _ | (intro _) | with_reducible exact aj _ | exact ah | (dsimp only))
def ck (t : Attempt) (a : App) : Option Bool :=
 (iB t.s a.Queue t.n.Label a.User).bind fun x =>
 (mZ t.s a.Queue t.n.Label).bind fun x1 =>
 (c9 x x1).bind fun x2 =>
 some x2
theorem ic (t : Attempt) (a : App) : Lo (ck t a) (bO t a):=by
 unfold ck bO
 repeat' (first | with_reducible exact sm _ _ _ _ | with_reducible exact wc _ _ _ | with_reducible exact gm _ _ | with_reducible refine aa ?_ ?_ ?_ ?_ ?_ | with_reducible refine ad ?_ ?_ ?_ ?_ | with_reducible refine ab ?_ ?_ ?_ | with_reducible refine af ?_ ?_ | with_reducible refine ai ?_ ?_ | with_reducible refine ak ?_ _ | (intro _) | with_reducible exact aj _ | exact ah | (dsimp only))
def cg (t : Attempt) (x : Ask) : Option Bool :=
 (c9 x.Size t.free).bind fun x1 =>
 some x1
theorem il (t : Attempt) (x : Ask) : Lo (cg t x) (bM t x):=by
 unfold cg bM
 repeat' (first | with_reducible exact gm _ _ | with_reducible refine aa ?_ ?_ ?_ ?_ ?_ | with_reducible refine ad ?_ ?_ ?_ ?_ | with_reducible refine ab ?_ ?_ ?_ | with_reducible refine af ?_ ?_ | with_reducible refine ai ?_ ?_ | with_reducible refine ak ?_ _ | (intro _) | with_reducible exact aj _ | exact ah | (dsimp only))
def eP (c : Cap) : Option Int :=
 some c.Most
theorem o5 (c : Cap) : Lo (eP c) (dq c):=by
 unfold eP dq
 repeat' (first | with_reducible refine aa ?_ ?_ ?_ ?_ ?_ | with_reducible refine ad ?_ ?_ ?_ ?_ | with_reducible refine ab ?_ ?_ ?_ | with_reducible refine af ?_ ?_ | with_reducible refine ai ?_ ?_ | with_reducible refine ak ?_ _ | (intro _) | with_reducible exact aj _ | exact ah | (dsimp only))
def mS (s : State) (path : List UInt8) (label : Int) : Option Vec :=
 (j9 s path label (fun a' => eP a'.1)).bind fun x =>
 some x
theorem we (s : State) (path : List UInt8) (label : Int) : Lo (mS s path label) (my s path label):=by
 unfold mS my
 repeat' (first | with_reducible refine qI _ _ _ _ _ ?_ | with_reducible exact o5 _ | with_reducible refine aa ?_ ?_ ?_ ?_ ?_ | with_reducible refine ad ?_ ?_ ?_ ?_ | with_reducible refine ab ?_ ?_ ?_ | with_reducible refine af ?_ ?_ | with_reducible refine ai ?_ ?_ | with_reducible refine ak ?_ _ | (intro _) | with_reducible exact aj _ | exact ah | (dsimp only))
def jC (s : State) (label : Int) (t : List Vec × Int) : Option ((List Vec × Int) ⊕ List Vec) :=
 bif decide (t.2 < (s.Plans.length : Int)) then
 (
  (idx s.Plans t.2).bind fun x =>
  (
  bif x.Label == label then
   bif decide (x.From ≤ s.Now) then
   some (decide (x.Until > s.Now))
   else
   some false
  else
   some false).bind fun q =>
  bif q then
  (app 16 t.1 [x.Need]).bind fun l =>
  some l
  else
  some t.1).bind fun l1 =>
 some (.inl (l1,w64 (t.2 + 1)))
 else
 some (.inr t.1)
theorem tg (s : State) (label : Int) (t : List Vec × Int) : Lo (jC s label t) (lN s label t):=by
 unfold jC lN
 repeat' (first | with_reducible refine aa ?_ ?_ ?_ ?_ ?_ | with_reducible refine ad ?_ ?_ ?_ ?_ | with_reducible refine ab ?_ ?_ ?_ | with_reducible refine af ?_ ?_ | with_reducible refine ai ?_ ?_ | with_reducible refine ak ?_ _ | (intro _) | with_reducible exact aj _ | exact ah | (dsimp only))
def nh (s : State) (label : Int) : Option Vec :=
 (itr 4096 (jC s label) ([],0)).bind fun l2 =>
 (kX l2).bind fun x1 =>
 some x1
theorem vW (s : State) (label : Int) : Lo (nh s label) (mA s label):=by
 unfold nh mA
 repeat' (first | with_reducible exact tg _ _ _ | with_reducible exact rS _ | with_reducible refine aa ?_ ?_ ?_ ?_ ?_ | with_reducible refine ad ?_ ?_ ?_ ?_ | with_reducible refine ab ?_ ?_ ?_ | with_reducible refine af ?_ ?_ | with_reducible refine ai ?_ ?_ | with_reducible refine ak ?_ _ | (intro _) | with_reducible exact aj _ | exact ah | (dsimp only))
def jI (s : State) (label : Int) (size : Vec) (x : List (List UInt8)) (t : Int) : Option (Int ⊕ (Bool ⊕ Unit)) :=
 bif decide (t < (x.length : Int)) then
 (inb t x.length).bind fun i =>
 (x[i]?).bind fun x1 =>
 (gu s x1 label).bind fun x2 =>
 (ff x2 size).bind fun x3 =>
 (
  bif x3.2 != 0 then
  some true
  else
  (mS s x1 label).bind fun x4 =>
  (c9 x3.1 x4).bind fun x5 =>
  some (! x5)).bind fun q =>
 bif q then
  some (.inr (.inl false))
 else
  (iu s label).bind fun x6 =>
  (nh s label).bind fun x7 =>
  (
  bif x1 == ([114,111,111,116] : List UInt8) then
   bif ! (((imax (w64 (x6.Mem - x7.Mem)) 0) == x6.Mem) && ((imax (w64 (x6.Cores - x7.Cores)) 0) == x6.Cores)) then
   (c9 x3.1 (⟨imax (w64 (x6.Mem - x7.Mem)) 0,imax (w64 (x6.Cores - x7.Cores)) 0⟩ : Vec)).bind fun x8 =>
   some (! x8)
   else
   some false
  else
   some false).bind fun q1 =>
  bif q1 then
  some (.inr (.inl false))
  else
  some (.inl (w64 (t + 1)))
 else
 some (.inr (.inr ()))
theorem sP (s : State) (label : Int) (size : Vec) (x : List (List UInt8)) (t : Int) : Lo (jI s label size x t) (lY s label size x t):=by
 unfold jI lY
 repeat' (first | with_reducible exact mc _ _ _ | with_reducible exact iq _ _ | with_reducible exact we _ _ _ | with_reducible exact gm _ _ | with_reducible exact pT _ _ | with_reducible exact vW _ _ | with_reducible refine aa ?_ ?_ ?_ ?_ ?_ | with_reducible refine ad ?_ ?_ ?_ ?_ | with_reducible refine ab ?_ ?_ ?_ | with_reducible refine af ?_ ?_ | with_reducible refine ai ?_ ?_ | with_reducible refine ak ?_ _ | (intro _) | with_reducible exact aj _ | exact ah | (dsimp only))
def np (s : State) (path : List UInt8) (label : Int) (size : Vec) : Option Bool :=
 (oz path).bind fun x =>
 (itr 4096 (jI s label size x) 0).bind fun q0 =>
 match q0 with
 | .inl q2 =>
 some q2
 | .inr _ =>
 some true
theorem v5 (s : State) (path : List UInt8) (label : Int) (size : Vec) : Lo (np s path label size) (ms s path label size):=by
 unfold np ms
 repeat' (first | with_reducible exact ui _ | with_reducible exact sP _ _ _ _ _ | with_reducible refine aa ?_ ?_ ?_ ?_ ?_ | with_reducible refine ad ?_ ?_ ?_ ?_ | with_reducible refine ab ?_ ?_ ?_ | with_reducible refine af ?_ ?_ | with_reducible refine ai ?_ ?_ | with_reducible refine ak ?_ _ | (intro _) | with_reducible exact aj _ | exact ah | (dsimp only))
def ci (t : Attempt) (a : App) (x : Ask) : Option Bool :=
 (np t.s a.Queue t.n.Label x.Size).bind fun x1 =>
 some x1
theorem ie (t : Attempt) (a : App) (x : Ask) : Lo (ci t a x) (bN t a x):=by
 unfold ci bN
 repeat' (first | with_reducible exact v5 _ _ _ _ | with_reducible refine aa ?_ ?_ ?_ ?_ ?_ | with_reducible refine ad ?_ ?_ ?_ ?_ | with_reducible refine ab ?_ ?_ ?_ | with_reducible refine af ?_ ?_ | with_reducible refine ai ?_ ?_ | with_reducible refine ak ?_ _ | (intro _) | with_reducible exact aj _ | exact ah | (dsimp only))
def kC (s : List Slot) (i : Int) (j : Int) : Option (List Slot):=del s i j
theorem uf (s : List Slot) (i : Int) (j : Int) : Lo (kC s i j) (i_ s i j):=by
 unfold kC i_
 repeat' (first | with_reducible refine aa ?_ ?_ ?_ ?_ ?_ | with_reducible refine ad ?_ ?_ ?_ ?_ | with_reducible refine ab ?_ ?_ ?_ | with_reducible refine af ?_ ?_ | with_reducible refine ai ?_ ?_ | with_reducible refine ak ?_ _ | (intro _) | with_reducible exact aj _ | exact ah | (dsimp only))
def o7 (a : Ask) (p : Int) : Option Bool :=
 some (a.Prio == p)
theorem xp (a : Ask) (p : Int) : Lo (o7 a p) (oE a p):=by
 unfold o7 oE
 repeat' (first | with_reducible refine aa ?_ ?_ ?_ ?_ ?_ | with_reducible refine ad ?_ ?_ ?_ ?_ | with_reducible refine ab ?_ ?_ ?_ | with_reducible refine af ?_ ?_ | with_reducible refine ai ?_ ?_ | with_reducible refine ak ?_ _ | (intro _) | with_reducible exact aj _ | exact ah | (dsimp only))
def oL (l : List Ask) (prio : Int) : Option Int :=
 (gL l (fun a' => o7 a'.1 prio)).bind fun x =>
 some x
theorem tJ (l : List Ask) (prio : Int) : Lo (oL l prio) (pq l prio):=by
 unfold oL pq
 repeat' (first | with_reducible refine oA _ _ _ ?_ | with_reducible exact xp _ _ | with_reducible refine aa ?_ ?_ ?_ ?_ ?_ | with_reducible refine ad ?_ ?_ ?_ ?_ | with_reducible refine ab ?_ ?_ ?_ | with_reducible refine af ?_ ?_ | with_reducible refine ai ?_ ?_ | with_reducible refine ak ?_ _ | (intro _) | with_reducible exact aj _ | exact ah | (dsimp only))
def kS (s : List Ask) (i : Int) (j : Int) : Option (List Ask):=del s i j
theorem tE (s : List Ask) (i : Int) (j : Int) : Lo (kS s i j) (jX s i j):=by
 unfold kS jX
 repeat' (first | with_reducible refine aa ?_ ?_ ?_ ?_ ?_ | with_reducible refine ad ?_ ?_ ?_ ?_ | with_reducible refine ab ?_ ?_ ?_ | with_reducible refine af ?_ ?_ | with_reducible refine ai ?_ ?_ | with_reducible refine ak ?_ _ | (intro _) | with_reducible exact aj _ | exact ah | (dsimp only))
def oY (l : List Ask) (prio : Int) : Option (List Ask × Bool) :=
 (jV l).bind fun out =>
 (oL out prio).bind fun i =>
 bif decide (i < 0) then
 some (out,false)
 else
 (inb i out.length).bind fun i1 =>
 (out[i1]?).bind fun x =>
 (inb i (List.set out i1 (⟨x.Prio,x.Label,⟨x.Size.Mem,x.Size.Cores⟩,x.Count,x.Node,x.Rack,0⟩ : Ask)).length).bind fun i2 =>
 ((List.set out i1 (⟨x.Prio,x.Label,⟨x.Size.Mem,x.Size.Cores⟩,x.Count,x.Node,x.Rack,0⟩ : Ask))[i2]?).bind fun x1 =>
 (inb i (List.set out i1 (⟨x.Prio,x.Label,⟨x.Size.Mem,x.Size.Cores⟩,x.Count,x.Node,x.Rack,0⟩ : Ask)).length).bind fun i3 =>
 ((List.set out i1 (⟨x.Prio,x.Label,⟨x.Size.Mem,x.Size.Cores⟩,x.Count,x.Node,x.Rack,0⟩ : Ask))[i3]?).bind fun x2 =>
 (
  (inb i (List.set (List.set out i1 (⟨x.Prio,x.Label,⟨x.Size.Mem,x.Size.Cores⟩,x.Count,x.Node,x.Rack,0⟩ : Ask)) i3 (⟨x2.Prio,x2.Label,⟨x2.Size.Mem,x2.Size.Cores⟩,w64 (x1.Count - 1),x2.Node,x2.Rack,x2.Missed⟩ : Ask)).length).bind fun i4 =>
  ((List.set (List.set out i1 (⟨x.Prio,x.Label,⟨x.Size.Mem,x.Size.Cores⟩,x.Count,x.Node,x.Rack,0⟩ : Ask)) i3 (⟨x2.Prio,x2.Label,⟨x2.Size.Mem,x2.Size.Cores⟩,w64 (x1.Count - 1),x2.Node,x2.Rack,x2.Missed⟩ : Ask))[i4]?).bind fun x3 =>
  bif decide (x3.Count ≤ 0) then
  (kS (List.set (List.set out i1 (⟨x.Prio,x.Label,⟨x.Size.Mem,x.Size.Cores⟩,x.Count,x.Node,x.Rack,0⟩ : Ask)) i3 (⟨x2.Prio,x2.Label,⟨x2.Size.Mem,x2.Size.Cores⟩,w64 (x1.Count - 1),x2.Node,x2.Rack,x2.Missed⟩ : Ask)) i (w64 (i + 1))).bind fun out1 =>
  some out1
  else
  some (List.set (List.set out i1 (⟨x.Prio,x.Label,⟨x.Size.Mem,x.Size.Cores⟩,x.Count,x.Node,x.Rack,0⟩ : Ask)) i3 (⟨x2.Prio,x2.Label,⟨x2.Size.Mem,x2.Size.Cores⟩,w64 (x1.Count - 1),x2.Node,x2.Rack,x2.Missed⟩ : Ask))).bind fun out2 =>
 some (out2,true)
theorem xG (l : List Ask) (prio : Int) : Lo (oY l prio) (oq l prio):=by
 unfold oY oq
 repeat' (first | with_reducible exact oX _ | with_reducible exact tJ _ _ | with_reducible exact tE _ _ _ | with_reducible refine aa ?_ ?_ ?_ ?_ ?_ | with_reducible refine ad ?_ ?_ ?_ ?_ | with_reducible refine ab ?_ ?_ ?_ | with_reducible refine af ?_ ?_ | with_reducible refine ai ?_ ?_ | with_reducible refine ak ?_ _ | (intro _) | with_reducible exact aj _ | exact ah | (dsimp only))
def kF (s : List App) (i : Int) (v : List App) : Option (List App):=ins s i v
theorem ut (s : List App) (i : Int) (v : List App) : Lo (kF s i v) (j_ s i v):=by
 unfold kF j_
 repeat' (first | with_reducible refine aa ?_ ?_ ?_ ?_ ?_ | with_reducible refine ad ?_ ?_ ?_ ?_ | with_reducible refine ab ?_ ?_ ?_ | with_reducible refine af ?_ ?_ | with_reducible refine ai ?_ ?_ | with_reducible refine ak ?_ _ | (intro _) | with_reducible exact aj _ | exact ah | (dsimp only))
def me (s : State) (a : App) (k : Int) : Option (Int ⊕ Int) :=
 (
 bif decide (k < (s.Apps.length : Int)) then
  (inb k s.Apps.length).bind fun i2 =>
  (s.Apps[i2]?).bind fun x1 =>
  some (decide (x1.Id < a.Id))
 else
  some false).bind fun q =>
 bif q then
 some (.inl (w64 (k + 1)))
 else
 some (.inr k)
theorem uD (s : State) (a : App) (k : Int) : Lo (me s a k) (oM s a k):=by
 unfold me oM
 repeat' (first | with_reducible refine aa ?_ ?_ ?_ ?_ ?_ | with_reducible refine ad ?_ ?_ ?_ ?_ | with_reducible refine ab ?_ ?_ ?_ | with_reducible refine af ?_ ?_ | with_reducible refine ai ?_ ?_ | with_reducible refine ak ?_ _ | (intro _) | with_reducible exact aj _ | exact ah | (dsimp only))
def qz (s : State) (a : App) : Option State :=
 (lC s a.Id).bind fun i =>
 bif decide (i ≥ 0) then
 (inb i s.Apps.length).bind fun i1 =>
 (s.Apps[i1]?).bind fun x =>
 some (⟨⟨s.Conf.Labels,s.Conf.Queues⟩,s.Nodes,List.set s.Apps i1 a,s.Conts,s.Slots,s.Plans,s.Now,s.Epoch,s.Seq⟩ : State)
 else
 (itr 4096 (me s a) 0).bind fun k1 =>
 (kF s.Apps k1 [a]).bind fun x2 =>
 some (⟨⟨s.Conf.Labels,s.Conf.Queues⟩,s.Nodes,x2,s.Conts,s.Slots,s.Plans,s.Now,s.Epoch,s.Seq⟩ : State)
theorem yg (s : State) (a : App) : Lo (qz s a) (qq s a):=by
 unfold qz qq
 repeat' (first | with_reducible exact qu _ _ | with_reducible exact uD _ _ _ | with_reducible exact ut _ _ _ | with_reducible refine aa ?_ ?_ ?_ ?_ ?_ | with_reducible refine ad ?_ ?_ ?_ ?_ | with_reducible refine ab ?_ ?_ ?_ | with_reducible refine af ?_ ?_ | with_reducible refine ai ?_ ?_ | with_reducible refine ak ?_ _ | (intro _) | with_reducible exact aj _ | exact ah | (dsimp only))
def mO (s : State) (a : App) : Option State :=
 (jQ s).bind fun x =>
 (jT a).bind fun x1 =>
 (qz x x1).bind fun x2 =>
 some x2
theorem sI (s : State) (a : App) : Lo (mO s a) (nK s a):=by
 unfold mO nK
 repeat' (first | with_reducible exact sw _ | with_reducible exact o8 _ | with_reducible exact yg _ _ | with_reducible refine aa ?_ ?_ ?_ ?_ ?_ | with_reducible refine ad ?_ ?_ ?_ ?_ | with_reducible refine ab ?_ ?_ ?_ | with_reducible refine af ?_ ?_ | with_reducible refine ai ?_ ?_ | with_reducible refine ak ?_ _ | (intro _) | with_reducible exact aj _ | exact ah | (dsimp only))
def kE (s : List Cont) (i : Int) (v : List Cont) : Option (List Cont):=ins s i v
theorem tO (s : List Cont) (i : Int) (v : List Cont) : Lo (kE s i v) (ju s i v):=by
 unfold kE ju
 repeat' (first | with_reducible refine aa ?_ ?_ ?_ ?_ ?_ | with_reducible refine ad ?_ ?_ ?_ ?_ | with_reducible refine ab ?_ ?_ ?_ | with_reducible refine af ?_ ?_ | with_reducible refine ai ?_ ?_ | with_reducible refine ak ?_ _ | (intro _) | with_reducible exact aj _ | exact ah | (dsimp only))
def cR (t : Attempt) (x2 : State) (k : Int) : Option (Int ⊕ Int) :=
 (
 bif decide (k < (x2.Conts.length : Int)) then
  (inb k x2.Conts.length).bind fun i =>
  (x2.Conts[i]?).bind fun x3 =>
  some (decide (x3.Id < (w64 ((shlK .i64 t.s.Epoch 20) + (w64 (t.s.Seq + 1))))))
 else
  some false).bind fun q =>
 bif q then
 some (.inl (w64 (k + 1)))
 else
 some (.inr k)
theorem lV (t : Attempt) (x2 : State) (k : Int) : Lo (cR t x2 k) (dL t x2 k):=by
 unfold cR dL
 repeat' (first | with_reducible refine aa ?_ ?_ ?_ ?_ ?_ | with_reducible refine ad ?_ ?_ ?_ ?_ | with_reducible refine ab ?_ ?_ ?_ | with_reducible refine af ?_ ?_ | with_reducible refine ai ?_ ?_ | with_reducible refine ak ?_ _ | (intro _) | with_reducible exact aj _ | exact ah | (dsimp only))
def bU (t : Attempt) (a : App) (x : Ask) : Option (Cont × Attempt) :=
 (oY a.Asks x.Prio).bind fun x1 =>
 (
 bif a.State == 1 then
  some (⟨a.Id,2,a.Queue,a.User,a.Prio,⟨a.Master.Mem,a.Master.Cores⟩,[],t.s.Now,0,a.Grants,a.Kills,a.Told,a.Lost⟩ : App)
 else
  (app 8 a.Grants [w64 ((shlK .i64 t.s.Epoch 20) + (w64 (t.s.Seq + 1)))]).bind fun l =>
  some (⟨a.Id,a.State,a.Queue,a.User,a.Prio,⟨a.Master.Mem,a.Master.Cores⟩,x1.1,a.Seen,a.Beat,l,a.Kills,a.Told,a.Lost⟩ : App)).bind fun a1 =>
 (mO (⟨⟨t.s.Conf.Labels,t.s.Conf.Queues⟩,t.s.Nodes,t.s.Apps,t.s.Conts,t.s.Slots,t.s.Plans,t.s.Now,t.s.Epoch,w64 (t.s.Seq + 1)⟩ : State) a1).bind fun x2 =>
 (itr 4096 (cR t x2) 0).bind fun k1 =>
 (kE x2.Conts k1 [(⟨w64 ((shlK .i64 t.s.Epoch 20) + (w64 (t.s.Seq + 1))),a.Id,t.n.Id,⟨x.Size.Mem,x.Size.Cores⟩,x.Prio,x.Label,a.State == 1,0⟩ : Cont)]).bind fun x4 =>
 some ((⟨w64 ((shlK .i64 t.s.Epoch 20) + (w64 (t.s.Seq + 1))),a.Id,t.n.Id,⟨x.Size.Mem,x.Size.Cores⟩,x.Prio,x.Label,a.State == 1,0⟩ : Cont),(⟨⟨⟨x2.Conf.Labels,x2.Conf.Queues⟩,x2.Nodes,x2.Apps,x4,x2.Slots,x2.Plans,x2.Now,x2.Epoch,x2.Seq⟩,⟨t.n.Id,t.n.Label,t.n.Rack,⟨t.n.Cap.Mem,t.n.Cap.Cores⟩,t.n.Seen,t.n.Beat,t.n.Up⟩,⟨t.free.Mem,t.free.Cores⟩⟩ : Attempt))
theorem gN (t : Attempt) (a : App) (x : Ask) : Lo (bU t a x) (bq t a x):=by
 unfold bU bq
 repeat' (first | with_reducible exact xG _ _ | with_reducible exact sI _ _ | with_reducible exact lV _ _ _ | with_reducible exact tO _ _ _ | with_reducible refine aa ?_ ?_ ?_ ?_ ?_ | with_reducible refine ad ?_ ?_ ?_ ?_ | with_reducible refine ab ?_ ?_ ?_ | with_reducible refine af ?_ ?_ | with_reducible refine ai ?_ ?_ | with_reducible refine ak ?_ _ | (intro _) | with_reducible exact aj _ | exact ah | (dsimp only))
def eJ (t : Attempt) : Option (Int × Cont × Bool × Attempt) :=
 (gB t.s.Slots (fun a' => dC a'.1 t)).bind fun i =>
 bif decide (i < 0) then
 some (0,(⟨0,0,0,⟨0,0⟩,0,0,false,0⟩ : Cont),false,t)
 else
 (inb i t.s.Slots.length).bind fun i1 =>
 (t.s.Slots[i1]?).bind fun x =>
 (kV t.s x.App).bind fun x1 =>
 (lX x1.1 x.Prio).bind fun x2 =>
 (
  bif x1.2 then
  (li x1.1).bind fun x3 =>
  bif x3 then
   bif x2.2 then
   (hU x2.1 t.n).bind fun x4 =>
   bif x4 then
    (bV t x2.1).bind fun x5 =>
    bif x5 then
    (cH t x1.1 x2.1).bind fun x6 =>
    bif x6 then
     (ck t x1.1).bind fun x7 =>
     some x7
    else
     some false
    else
    some false
   else
    some false
   else
   some false
  else
   some false
  else
  some false).bind fun stays =>
 (
  bif stays then
  (cg t x2.1).bind fun x8 =>
  bif x8 then
   (ci t x1.1 x2.1).bind fun x9 =>
   some (! x9)
  else
   some true
  else
  some false).bind fun q =>
 bif q then
  some (3,(⟨0,0,0,⟨0,0⟩,0,0,false,0⟩ : Cont),true,t)
 else
  (kC t.s.Slots i (w64 (i + 1))).bind fun x10 =>
  bif ! stays then
  some (0,(⟨0,0,0,⟨0,0⟩,0,0,false,0⟩ : Cont),false,(⟨⟨⟨t.s.Conf.Labels,t.s.Conf.Queues⟩,t.s.Nodes,t.s.Apps,t.s.Conts,x10,t.s.Plans,t.s.Now,t.s.Epoch,t.s.Seq⟩,⟨t.n.Id,t.n.Label,t.n.Rack,⟨t.n.Cap.Mem,t.n.Cap.Cores⟩,t.n.Seen,t.n.Beat,t.n.Up⟩,⟨t.free.Mem,t.free.Cores⟩⟩ : Attempt))
  else
  (bU (⟨⟨⟨t.s.Conf.Labels,t.s.Conf.Queues⟩,t.s.Nodes,t.s.Apps,t.s.Conts,x10,t.s.Plans,t.s.Now,t.s.Epoch,t.s.Seq⟩,⟨t.n.Id,t.n.Label,t.n.Rack,⟨t.n.Cap.Mem,t.n.Cap.Cores⟩,t.n.Seen,t.n.Beat,t.n.Up⟩,⟨t.free.Mem,t.free.Cores⟩⟩ : Attempt) x1.1 x2.1).bind fun x11 =>
  some (1,x11.1,true,x11.2)
theorem oN (t : Attempt) : Lo (eJ t) (dj t):=by
 unfold eJ dj
 repeat' (first | with_reducible refine ox _ _ _ ?_ | with_reducible exact nB _ _ | with_reducible exact rP _ _ | with_reducible exact u7 _ _ | with_reducible exact rA _ | with_reducible exact qS _ _ | with_reducible exact gO _ _ | with_reducible exact iS _ _ _ | with_reducible exact ic _ _ | with_reducible exact il _ _ | with_reducible exact ie _ _ _ | with_reducible exact uf _ _ _ | with_reducible exact gN _ _ _ | with_reducible refine aa ?_ ?_ ?_ ?_ ?_ | with_reducible refine ad ?_ ?_ ?_ ?_ | with_reducible refine ab ?_ ?_ ?_ | with_reducible refine af ?_ ?_ | with_reducible refine ai ?_ ?_ | with_reducible refine ak ?_ _ | (intro _) | with_reducible exact aj _ | exact ah | (dsimp only))
def kw (c : Conf) (path : List UInt8) (t : List (List UInt8) × Int) : Option ((List (List UInt8) × Int) ⊕ List (List UInt8)) :=
 bif decide (t.2 < (c.Queues.length : Int)) then
 (
  (idx c.Queues t.2).bind fun x =>
  (jr x.Path).bind fun x1 =>
  (
  bif x1.2 then
   some (x1.1 == path)
  else
   some false).bind fun q =>
  bif q then
  (app 16 t.1 [x.Path]).bind fun l =>
  some l
  else
  some t.1).bind fun out =>
 some (.inl (out,w64 (t.2 + 1)))
 else
 some (.inr t.1)
theorem tN (c : Conf) (path : List UInt8) (t : List (List UInt8) × Int) : Lo (kw c path t) (mV c path t):=by
 unfold kw mV
 repeat' (first | with_reducible exact qH _ | with_reducible refine aa ?_ ?_ ?_ ?_ ?_ | with_reducible refine ad ?_ ?_ ?_ ?_ | with_reducible refine ab ?_ ?_ ?_ | with_reducible refine af ?_ ?_ | with_reducible refine ai ?_ ?_ | with_reducible refine ak ?_ _ | (intro _) | with_reducible exact aj _ | exact ah | (dsimp only))
def oO (c : Conf) (path : List UInt8) : Option (List (List UInt8)) :=
 (itr 4096 (kw c path) ([],0)).bind fun out1 =>
 some out1
theorem wL (c : Conf) (path : List UInt8) : Lo (oO c path) (oi c path):=by
 unfold oO oi
 repeat' (first | with_reducible exact tN _ _ _ | with_reducible refine aa ?_ ?_ ?_ ?_ ?_ | with_reducible refine ad ?_ ?_ ?_ ?_ | with_reducible refine ab ?_ ?_ ?_ | with_reducible refine af ?_ ?_ | with_reducible refine ai ?_ ?_ | with_reducible refine ak ?_ _ | (intro _) | with_reducible exact aj _ | exact ah | (dsimp only))
def lQ (s : List Load) (f : (TupT fam [.st 12,.st 12] → Option Int)) : Option (List Load):=sortG (F:=fam) (.st 12) f s
theorem va (s : List Load) (f f_' : (TupT fam [.st 12,.st 12] → Option Int)) (h_f : ∀ a,Lo (f a) (f_' a)) : Lo (lQ s f) (la s f_'):=by
 unfold lQ la
 repeat' (first | with_reducible refine Ay ?_ _ | exact h_f _ | with_reducible refine aa ?_ ?_ ?_ ?_ ?_ | with_reducible refine ad ?_ ?_ ?_ ?_ | with_reducible refine ab ?_ ?_ ?_ | with_reducible refine af ?_ ?_ | with_reducible refine ai ?_ ?_ | with_reducible refine ak ?_ _ | (intro _) | with_reducible exact aj _ | exact ah | (dsimp only))
def iG (vals : List Int) (t : Int) : Option (Int ⊕ (Int ⊕ Unit)) :=
 bif decide (t < (vals.length : Int)) then
 (idx vals t).bind fun x =>
 bif x != 0 then
  some (.inr (.inl x))
 else
  some (.inl (w64 (t + 1)))
 else
 some (.inr (.inr ()))
theorem sk (vals : List Int) (t : Int) : Lo (iG vals t) (kN vals t):=by
 unfold iG kN
 repeat' (first | with_reducible refine aa ?_ ?_ ?_ ?_ ?_ | with_reducible refine ad ?_ ?_ ?_ ?_ | with_reducible refine ab ?_ ?_ ?_ | with_reducible refine af ?_ ?_ | with_reducible refine ai ?_ ?_ | with_reducible refine ak ?_ _ | (intro _) | with_reducible exact aj _ | exact ah | (dsimp only))
def iz (vals : List Int) : Option Int :=
 (itr 4096 (iG vals) 0).bind fun q0 =>
 match q0 with
 | .inl q =>
 some q
 | .inr _ =>
 some 0
theorem pN (vals : List Int) : Lo (iz vals) (h_ vals):=by
 unfold iz h_
 repeat' (first | with_reducible exact sk _ _ | with_reducible refine aa ?_ ?_ ?_ ?_ ?_ | with_reducible refine ad ?_ ?_ ?_ ?_ | with_reducible refine ab ?_ ?_ ?_ | with_reducible refine af ?_ ?_ | with_reducible refine ai ?_ ?_ | with_reducible refine ak ?_ _ | (intro _) | with_reducible exact aj _ | exact ah | (dsimp only))
def cT (r : Ratio) (q : Ratio) : Option Int :=
 (
 bif r.of == 0 then
  some (q.of == 0)
 else
  some false).bind fun q1 =>
 bif q1 then
 some 0
 else
 bif r.of == 0 then
  some 1
 else
  bif q.of == 0 then
  some (-1)
  else
  (gq r.n q.of).bind fun x =>
  (gq q.n r.of).bind fun x1 =>
  (
   bif decide (x.1 < x1.1) then
   some true
   else
   bif x.1 == x1.1 then
    some (decide (x.2 < x1.2))
   else
    some false).bind fun q2 =>
  bif q2 then
   some (-1)
  else
   (
   bif x.1 == x1.1 then
    some (x.2 == x1.2)
   else
    some false).bind fun q3 =>
   bif q3 then
   some 0
   else
   some 1
theorem iY (r : Ratio) (q : Ratio) : Lo (cT r q) (cf r q):=by
 unfold cT cf
 repeat' (first | with_reducible exact qL _ _ | with_reducible refine aa ?_ ?_ ?_ ?_ ?_ | with_reducible refine ad ?_ ?_ ?_ ?_ | with_reducible refine ab ?_ ?_ ?_ | with_reducible refine af ?_ ?_ | with_reducible refine ai ?_ ?_ | with_reducible refine ak ?_ _ | (intro _) | with_reducible exact aj _ | exact ah | (dsimp only))
def ot (a : Vec) (p : Vec) (get : (TupT fam [.st 0] → Option Int)) : Option Ratio :=
 (get (a,())).bind fun r =>
 (get (p,())).bind fun r1 =>
 bif r == 0 then
 some (⟨0,1⟩ : Ratio)
 else
 some (⟨IntKind.u64.wrap r,IntKind.u64.wrap r1⟩ : Ratio)
theorem yY (a : Vec) (p : Vec) (get get_' : (TupT fam [.st 0] → Option Int)) (h_get : ∀ a,Lo (get a) (get_' a)) : Lo (ot a p get) (pI a p get_'):=by
 unfold ot pI
 repeat' (first | exact h_get _ | with_reducible refine aa ?_ ?_ ?_ ?_ ?_ | with_reducible refine ad ?_ ?_ ?_ ?_ | with_reducible refine ab ?_ ?_ ?_ | with_reducible refine af ?_ ?_ | with_reducible refine ai ?_ ?_ | with_reducible refine ak ?_ _ | (intro _) | with_reducible exact aj _ | exact ah | (dsimp only))
def kL (v : Vec) : Option Int :=
 some v.Mem
theorem tP (v : Vec) : Lo (kL v) (jn v):=by
 unfold kL jn
 repeat' (first | with_reducible refine aa ?_ ?_ ?_ ?_ ?_ | with_reducible refine ad ?_ ?_ ?_ ?_ | with_reducible refine ab ?_ ?_ ?_ | with_reducible refine af ?_ ?_ | with_reducible refine ai ?_ ?_ | with_reducible refine ak ?_ _ | (intro _) | with_reducible exact aj _ | exact ah | (dsimp only))
def iL (v : Vec) : Option Int :=
 some v.Cores
theorem so (v : Vec) : Lo (iL v) (gH v):=by
 unfold iL gH
 repeat' (first | with_reducible refine aa ?_ ?_ ?_ ?_ ?_ | with_reducible refine ad ?_ ?_ ?_ ?_ | with_reducible refine ab ?_ ?_ ?_ | with_reducible refine af ?_ ?_ | with_reducible refine ai ?_ ?_ | with_reducible refine ak ?_ _ | (intro _) | with_reducible exact aj _ | exact ah | (dsimp only))
def lk (a : Vec) (p : Vec) : Option Ratio :=
 (ot a p (fun a' => kL a'.1)).bind fun x =>
 (ot a p (fun a' => iL a'.1)).bind fun x1 =>
 (cT x x1).bind fun x2 =>
 bif decide (x2 < 0) then
 some x1
 else
 some x
theorem wu (a : Vec) (p : Vec) : Lo (lk a p) (lE a p):=by
 unfold lk lE
 repeat' (first | with_reducible refine yY _ _ _ _ ?_ | with_reducible exact tP _ | with_reducible exact so _ | with_reducible exact iY _ _ | with_reducible refine aa ?_ ?_ ?_ ?_ ?_ | with_reducible refine ad ?_ ?_ ?_ ?_ | with_reducible refine ab ?_ ?_ ?_ | with_reducible refine af ?_ ?_ | with_reducible refine ai ?_ ?_ | with_reducible refine ak ?_ _ | (intro _) | with_reducible exact aj _ | exact ah | (dsimp only))
def m7 (a : Vec) (p : Vec) (b : Vec) (q : Vec) : Option Int :=
 (
 (aL a).bind fun x =>
 bif ! x then
  some true
 else
  (aL p).bind fun x1 =>
  bif ! x1 then
  some true
  else
  (aL b).bind fun x2 =>
  bif ! x2 then
   some true
  else
   (aL q).bind fun x3 =>
   some (! x3)).bind fun q1 =>
 bif q1 then
 some 0
 else
 (lk a p).bind fun x4 =>
 (lk b q).bind fun x5 =>
 (cT x4 x5).bind fun x6 =>
 some x6
theorem vU (a : Vec) (p : Vec) (b : Vec) (q : Vec) : Lo (m7 a p b q) (mu a p b q):=by
 unfold m7 mu
 repeat' (first | with_reducible exact fh _ | with_reducible exact wu _ _ | with_reducible exact iY _ _ | with_reducible refine aa ?_ ?_ ?_ ?_ ?_ | with_reducible refine ad ?_ ?_ ?_ ?_ | with_reducible refine ab ?_ ?_ ?_ | with_reducible refine af ?_ ?_ | with_reducible refine ai ?_ ?_ | with_reducible refine ak ?_ _ | (intro _) | with_reducible exact aj _ | exact ah | (dsimp only))
def dg (x : List UInt8) : Option Bool :=
 some (! (x == x))
theorem pZ (x : List UInt8) : Lo (dg x) (cB x):=by
 unfold dg cB
 repeat' (first | with_reducible refine aa ?_ ?_ ?_ ?_ ?_ | with_reducible refine ad ?_ ?_ ?_ ?_ | with_reducible refine ab ?_ ?_ ?_ | with_reducible refine af ?_ ?_ | with_reducible refine ai ?_ ?_ | with_reducible refine ak ?_ _ | (intro _) | with_reducible exact aj _ | exact ah | (dsimp only))
def eC (x : List UInt8) (y : List UInt8) : Option Int :=
 (dg x).bind fun xNaN =>
 (dg y).bind fun yNaN =>
 bif xNaN then
 bif yNaN then
  some 0
 else
  some (-1)
 else
 bif yNaN then
  some 1
 else
  bif Op.bytesLess x y then
  some (-1)
  else
  bif ! (strLe x y) then
   some 1
  else
   some 0
theorem o0 (x : List UInt8) (y : List UInt8) : Lo (eC x y) (du x y):=by
 unfold eC du
 repeat' (first | with_reducible exact pZ _ | with_reducible refine aa ?_ ?_ ?_ ?_ ?_ | with_reducible refine ad ?_ ?_ ?_ ?_ | with_reducible refine ab ?_ ?_ ?_ | with_reducible refine af ?_ ?_ | with_reducible refine ai ?_ ?_ | with_reducible refine ak ?_ _ | (intro _) | with_reducible exact aj _ | exact ah | (dsimp only))
def fm (a : Load) (b : Load) : Option Int :=
 (m7 a.used a.least b.used b.least).bind fun x =>
 (eC a.path b.path).bind fun x1 =>
 (iz [x,x1]).bind fun x2 =>
 some x2
theorem po (a : Load) (b : Load) : Lo (fm a b) (dW a b):=by
 unfold fm dW
 repeat' (first | with_reducible exact vU _ _ _ _ | with_reducible exact o0 _ _ | with_reducible exact pN _ | with_reducible refine aa ?_ ?_ ?_ ?_ ?_ | with_reducible refine ad ?_ ?_ ?_ ?_ | with_reducible refine ab ?_ ?_ ?_ | with_reducible refine af ?_ ?_ | with_reducible refine ai ?_ ?_ | with_reducible refine ak ?_ _ | (intro _) | with_reducible exact aj _ | exact ah | (dsimp only))
def jg (x4 : List Load) (t1 : List (List UInt8) × Int) : Option ((List (List UInt8) × Int) ⊕ List (List UInt8)) :=
 bif decide (t1.2 < (x4.length : Int)) then
 (inb t1.2 x4.length).bind fun i1 =>
 (x4[i1]?).bind fun x5 =>
 (inS t1.2 (t1.1.length : Int) t1.1.length).bind fun p =>
 some (.inl (cpy t1.1 p.1 p.2 [x5.path],w64 (t1.2 + 1)))
 else
 some (.inr t1.1)
theorem tq (x4 : List Load) (t1 : List (List UInt8) × Int) : Lo (jg x4 t1) (l9 x4 t1):=by
 unfold jg l9
 repeat' (first | with_reducible refine aa ?_ ?_ ?_ ?_ ?_ | with_reducible refine ad ?_ ?_ ?_ ?_ | with_reducible refine ab ?_ ?_ ?_ | with_reducible refine af ?_ ?_ | with_reducible refine ai ?_ ?_ | with_reducible refine ak ?_ _ | (intro _) | with_reducible exact aj _ | exact ah | (dsimp only))
def kb (s : State) (label : Int) (x : List (List UInt8)) (t : List Load × Int) : Option ((List Load × Int) ⊕ List Load) :=
 bif decide (t.2 < (x.length : Int)) then
 (inb t.2 x.length).bind fun i =>
 (x[i]?).bind fun x1 =>
 (gu s x1 label).bind fun x2 =>
 (fw s x1 label).bind fun x3 =>
 (app 48 t.1 [(⟨x1,⟨x2.Mem,x2.Cores⟩,⟨x3.Mem,x3.Cores⟩⟩ : Load)]).bind fun l =>
 some (.inl (l,w64 (t.2 + 1)))
 else
 some (.inr t.1)
theorem sS (s : State) (label : Int) (x : List (List UInt8)) (t : List Load × Int) : Lo (kb s label x t) (l6 s label x t):=by
 unfold kb l6
 repeat' (first | with_reducible exact mc _ _ _ | with_reducible exact kt _ _ _ | with_reducible refine aa ?_ ?_ ?_ ?_ ?_ | with_reducible refine ad ?_ ?_ ?_ ?_ | with_reducible refine ab ?_ ?_ ?_ | with_reducible refine af ?_ ?_ | with_reducible refine ai ?_ ?_ | with_reducible refine ak ?_ _ | (intro _) | with_reducible exact aj _ | exact ah | (dsimp only))
def nc (s : State) (path : List UInt8) (label : Int) : Option (List (List UInt8)) :=
 (oO s.Conf path).bind fun x =>
 (itr 4096 (kb s label x) ([],0)).bind fun l1 =>
 (lQ l1 (fun a' => fm a'.1 a'.2.1)).bind fun x4 =>
 (mkl 16 (x4.length : Int) (x4.length : Int) []).bind fun l2 =>
 (itr 4096 (jg x4) (l2,0)).bind fun out =>
 some out
theorem vV (s : State) (path : List UInt8) (label : Int) : Lo (nc s path label) (mv s path label):=by
 unfold nc mv
 repeat' (first | with_reducible exact wL _ _ | with_reducible exact sS _ _ _ _ | with_reducible refine va _ _ _ ?_ | with_reducible exact po _ _ | with_reducible exact tq _ _ | with_reducible refine aa ?_ ?_ ?_ ?_ ?_ | with_reducible refine ad ?_ ?_ ?_ ?_ | with_reducible refine ab ?_ ?_ ?_ | with_reducible refine af ?_ ?_ | with_reducible refine ai ?_ ?_ | with_reducible refine ak ?_ _ | (intro _) | with_reducible exact aj _ | exact ah | (dsimp only))
def gp (s : State) (label : Int) (deep : Int) (self : State → (List UInt8) → Int → Int → Option (List (List UInt8))) (kids : List (List UInt8)) (t : List (List UInt8) × Int) : Option ((List (List UInt8) × Int) ⊕ List (List UInt8)) :=
 bif decide (t.2 < (kids.length : Int)) then
 (inb t.2 kids.length).bind fun i =>
 (kids[i]?).bind fun x =>
 (self s x label (w64 (deep + 1))).bind fun x1 =>
 (app 16 t.1 x1).bind fun l =>
 some (.inl (l,w64 (t.2 + 1)))
 else
 some (.inr t.1)
theorem qP (s : State) (label : Int) (deep : Int) (self self_' : State → (List UInt8) → Int → Int → Option (List (List UInt8))) (h_self : ∀ (a0 : State) (a1 : (List UInt8)) (a2 : Int) (a3 : Int),Lo (self a0 a1 a2 a3) (self_' a0 a1 a2 a3)) (kids : List (List UInt8)) (t : List (List UInt8) × Int) : Lo (gp s label deep self kids t) (iC s label deep self_' kids t):=by
 unfold gp iC
 repeat' (first | with_reducible refine h_self _ _ _ _ | with_reducible refine aa ?_ ?_ ?_ ?_ ?_ | with_reducible refine ad ?_ ?_ ?_ ?_ | with_reducible refine ab ?_ ?_ ?_ | with_reducible refine af ?_ ?_ | with_reducible refine ai ?_ ?_ | with_reducible refine ak ?_ _ | (intro _) | with_reducible exact aj _ | exact ah | (dsimp only))
def jo (self : State → (List UInt8) → Int → Int → Option (List (List UInt8))) (s : State) (path : List UInt8) (label : Int) (deep : Int) : Option (List (List UInt8)) :=
 (nc s path label).bind fun kids =>
 (
 bif (kids.length : Int) == 0 then
  some true
 else
  some (decide (deep > 4))).bind fun q =>
 bif q then
 some [path]
 else
 (itr 4096 (gp s label deep self kids) ([],0)).bind fun out =>
 some out
theorem sZ (self self_' : State → (List UInt8) → Int → Int → Option (List (List UInt8))) (h_self : ∀ (a0 : State) (a1 : (List UInt8)) (a2 : Int) (a3 : Int),Lo (self a0 a1 a2 a3) (self_' a0 a1 a2 a3)) (s : State) (path : List UInt8) (label : Int) (deep : Int) : Lo (jo self s path label deep) (l_ self_' s path label deep):=by
 unfold jo l_
 repeat' (first | with_reducible exact vV _ _ _ | with_reducible refine qP _ _ _ _ _ ?_ _ _ | with_reducible refine h_self _ _ _ _ | with_reducible refine aa ?_ ?_ ?_ ?_ ?_ | with_reducible refine ad ?_ ?_ ?_ ?_ | with_reducible refine ab ?_ ?_ ?_ | with_reducible refine af ?_ ?_ | with_reducible refine ai ?_ ?_ | with_reducible refine ak ?_ _ | (intro _) | with_reducible exact aj _ | exact ah | (dsimp only))
def fW : Nat → State → (List UInt8) → Int → Int → Option (List (List UInt8))
 | 0 => fun _ _ _ _ => none
 | n + 1 => jo (fW n)
theorem mY : ∀ (n : Nat),∀ (a0 : State) (a1 : List UInt8) (a2 : Int) (a3 : Int),Lo (fW n a0 a1 a2 a3) (ft n a0 a1 a2 a3)
 | 0 => fun _ _ _ _ => ah
 | n + 1 => fun a0 a1 a2 a3 => sZ (fW n) (ft n) (mY n) a0 a1 a2 a3
def mn (a0 : State) (a1 : List UInt8) (a2 : Int) (a3 : Int) : Option (List (List UInt8)):=fW 64 a0 a1 a2 a3
theorem uQ (a0 : State) (a1 : List UInt8) (a2 : Int) (a3 : Int) : Lo (mn a0 a1 a2 a3) (kY a0 a1 a2 a3):=by
 unfold mn kY
 repeat' (first | with_reducible refine mY _ _ _ _ _ | with_reducible refine aa ?_ ?_ ?_ ?_ ?_ | with_reducible refine ad ?_ ?_ ?_ ?_ | with_reducible refine ab ?_ ?_ ?_ | with_reducible refine af ?_ ?_ | with_reducible refine ai ?_ ?_ | with_reducible refine ak ?_ _ | (intro _) | with_reducible exact aj _ | exact ah | (dsimp only))
def kg (s : State) (label : Int) : Option (List (List UInt8)) :=
 (mn s ([114,111,111,116] : List UInt8) label 1).bind fun x =>
 some x
theorem uv (s : State) (label : Int) : Lo (kg s label) (jE s label):=by
 unfold kg jE
 repeat' (first | with_reducible exact uQ _ _ _ _ | with_reducible refine aa ?_ ?_ ?_ ?_ ?_ | with_reducible refine ad ?_ ?_ ?_ ?_ | with_reducible refine ab ?_ ?_ ?_ | with_reducible refine af ?_ ?_ | with_reducible refine ai ?_ ?_ | with_reducible refine ak ?_ _ | (intro _) | with_reducible exact aj _ | exact ah | (dsimp only))
def hJ (a : Int) (cmp : (TupT fam [.st 6,.st 6] → Option Int)) (t1 : List App × Int) : Option ((List App × Int) ⊕ List App) :=
 (
 bif decide (t1.2 > a) then
  (inb t1.2 t1.1.length).bind fun i =>
  (t1.1[i]?).bind fun x =>
  (inb (w64 (t1.2 - 1)) t1.1.length).bind fun i1 =>
  (t1.1[i1]?).bind fun x1 =>
  (cmp (x,x1,())).bind fun r =>
  some (decide (r < 0))
 else
  some false).bind fun q =>
 bif q then
 (inb (w64 (t1.2 - 1)) t1.1.length).bind fun i2 =>
 (t1.1[i2]?).bind fun x2 =>
 (inb t1.2 t1.1.length).bind fun i3 =>
 (t1.1[i3]?).bind fun x3 =>
 (inb t1.2 t1.1.length).bind fun i4 =>
 (t1.1[i4]?).bind fun x4 =>
 (inb (w64 (t1.2 - 1)) (List.set t1.1 i4 x2).length).bind fun i5 =>
 ((List.set t1.1 i4 x2)[i5]?).bind fun x5 =>
 some (.inl (List.set (List.set t1.1 i4 x2) i5 x3,w64 (t1.2 - 1)))
 else
 some (.inr t1.1)
theorem rT (a : Int) (cmp cmp_' : (TupT fam [.st 6,.st 6] → Option Int)) (h_cmp : ∀ a,Lo (cmp a) (cmp_' a)) (t1 : List App × Int) : Lo (hJ a cmp t1) (jJ a cmp_' t1):=by
 unfold hJ jJ
 repeat' (first | exact h_cmp _ | with_reducible refine aa ?_ ?_ ?_ ?_ ?_ | with_reducible refine ad ?_ ?_ ?_ ?_ | with_reducible refine ab ?_ ?_ ?_ | with_reducible refine af ?_ ?_ | with_reducible refine ai ?_ ?_ | with_reducible refine ak ?_ _ | (intro _) | with_reducible exact aj _ | exact ah | (dsimp only))
def g9 (a : Int) (b : Int) (cmp : (TupT fam [.st 6,.st 6] → Option Int)) (t : List App × Int) : Option ((List App × Int) ⊕ List App) :=
 bif decide (t.2 < b) then
 (itr 4096 (hJ a cmp) (t.1,t.2)).bind fun data1 =>
 some (.inl (data1,w64 (t.2 + 1)))
 else
 some (.inr t.1)
theorem qX (a : Int) (b : Int) (cmp cmp_' : (TupT fam [.st 6,.st 6] → Option Int)) (h_cmp : ∀ a,Lo (cmp a) (cmp_' a)) (t : List App × Int) : Lo (g9 a b cmp t) (jq a b cmp_' t):=by
 unfold g9 jq
 repeat' (first | with_reducible refine rT _ _ _ ?_ _ | exact h_cmp _ | with_reducible refine aa ?_ ?_ ?_ ?_ ?_ | with_reducible refine ad ?_ ?_ ?_ ?_ | with_reducible refine ab ?_ ?_ ?_ | with_reducible refine af ?_ ?_ | with_reducible refine ai ?_ ?_ | with_reducible refine ak ?_ _ | (intro _) | with_reducible exact aj _ | exact ah | (dsimp only))
def gJ (data : List App) (a : Int) (b : Int) (cmp : (TupT fam [.st 6,.st 6] → Option Int)) : Option (List App) :=
 (itr 4096 (g9 a b cmp) (data,w64 (a + 1))).bind fun data2 =>
 some data2
theorem og (data : List App) (a : Int) (b : Int) (cmp cmp_' : (TupT fam [.st 6,.st 6] → Option Int)) (h_cmp : ∀ a,Lo (cmp a) (cmp_' a)) : Lo (gJ data a b cmp) (ga data a b cmp_'):=by
 unfold gJ ga
 repeat' (first | with_reducible refine qX _ _ _ _ ?_ _ | exact h_cmp _ | with_reducible refine aa ?_ ?_ ?_ ?_ ?_ | with_reducible refine ad ?_ ?_ ?_ ?_ | with_reducible refine ab ?_ ?_ ?_ | with_reducible refine af ?_ ?_ | with_reducible refine ai ?_ ?_ | with_reducible refine ak ?_ _ | (intro _) | with_reducible exact aj _ | exact ah | (dsimp only))
def hC (a : Int) (b : Int) (n : Int) (t : List App × Int) : Option ((List App × Int) ⊕ List App) :=
 bif decide (t.2 < n) then
 (inb (w64 (b + t.2)) t.1.length).bind fun i =>
 (t.1[i]?).bind fun x =>
 (inb (w64 (a + t.2)) t.1.length).bind fun i1 =>
 (t.1[i1]?).bind fun x1 =>
 (inb (w64 (a + t.2)) t.1.length).bind fun i2 =>
 (t.1[i2]?).bind fun x2 =>
 (inb (w64 (b + t.2)) (List.set t.1 i2 x).length).bind fun i3 =>
 ((List.set t.1 i2 x)[i3]?).bind fun x3 =>
 some (.inl (List.set (List.set t.1 i2 x) i3 x1,w64 (t.2 + 1)))
 else
 some (.inr t.1)
theorem rB (a : Int) (b : Int) (n : Int) (t : List App × Int) : Lo (hC a b n t) (jk a b n t):=by
 unfold hC jk
 repeat' (first | with_reducible refine aa ?_ ?_ ?_ ?_ ?_ | with_reducible refine ad ?_ ?_ ?_ ?_ | with_reducible refine ab ?_ ?_ ?_ | with_reducible refine af ?_ ?_ | with_reducible refine ai ?_ ?_ | with_reducible refine ak ?_ _ | (intro _) | with_reducible exact aj _ | exact ah | (dsimp only))
def eK (data : List App) (a : Int) (b : Int) (n : Int) (cmp : (TupT fam [.st 6,.st 6] → Option Int)) : Option (List App) :=
 (itr 4096 (hC a b n) (data,0)).bind fun data1 =>
 some data1
theorem oj (data : List App) (a : Int) (b : Int) (n : Int) (cmp cmp_' : (TupT fam [.st 6,.st 6] → Option Int)) (h_cmp : ∀ a,Lo (cmp a) (cmp_' a)) : Lo (eK data a b n cmp) (ez data a b n cmp_'):=by
 unfold eK ez
 repeat' (first | with_reducible exact rB _ _ _ _ | exact h_cmp _ | with_reducible refine aa ?_ ?_ ?_ ?_ ?_ | with_reducible refine ad ?_ ?_ ?_ ?_ | with_reducible refine ab ?_ ?_ ?_ | with_reducible refine af ?_ ?_ | with_reducible refine ai ?_ ?_ | with_reducible refine ak ?_ _ | (intro _) | with_reducible exact aj _ | exact ah | (dsimp only))
def gW (m : Int) (cmp : (TupT fam [.st 6,.st 6] → Option Int)) (t : List App × Int × Int) : Option ((List App × Int × Int) ⊕ ((List App × Int))) :=
 bif t.2.1 != t.2.2 then
 bif decide (t.2.1 > t.2.2) then
  (eK t.1 (w64 (m - t.2.1)) m t.2.2 cmp).bind fun x =>
  let i:=w64 (t.2.1 - t.2.2)
  some (.inl (x,i,t.2.2))
 else
  (eK t.1 (w64 (m - t.2.1)) (w64 ((w64 (m + t.2.2)) - t.2.1)) t.2.1 cmp).bind fun x1 =>
  let j:=w64 (t.2.2 - t.2.1)
  some (.inl (x1,t.2.1,j))
 else
 some (.inr (t.1,t.2.1))
theorem ri (m : Int) (cmp cmp_' : (TupT fam [.st 6,.st 6] → Option Int)) (h_cmp : ∀ a,Lo (cmp a) (cmp_' a)) (t : List App × Int × Int) : Lo (gW m cmp t) (jA m cmp_' t):=by
 unfold gW jA
 repeat' (first | with_reducible refine oj _ _ _ _ _ _ ?_ | exact h_cmp _ | with_reducible refine aa ?_ ?_ ?_ ?_ ?_ | with_reducible refine ad ?_ ?_ ?_ ?_ | with_reducible refine ab ?_ ?_ ?_ | with_reducible refine af ?_ ?_ | with_reducible refine ai ?_ ?_ | with_reducible refine ak ?_ _ | (intro _) | with_reducible exact aj _ | exact ah | (dsimp only))
def kz (data : List App) (a : Int) (m : Int) (b : Int) (cmp : (TupT fam [.st 6,.st 6] → Option Int)) : Option (List App) :=
 (itr 4096 (gW m cmp) (data,w64 (m - a),w64 (b - m))).bind fun q =>
 (eK q.1 (w64 (m - q.2)) m q.2 cmp).bind fun x2 =>
 some x2
theorem tC (data : List App) (a : Int) (m : Int) (b : Int) (cmp cmp_' : (TupT fam [.st 6,.st 6] → Option Int)) (h_cmp : ∀ a,Lo (cmp a) (cmp_' a)) : Lo (kz data a m b cmp) (jy data a m b cmp_'):=by
 unfold kz jy
 repeat' (first | with_reducible refine ri _ _ _ ?_ _ | with_reducible refine oj _ _ _ _ _ _ ?_ | exact h_cmp _ | with_reducible refine aa ?_ ?_ ?_ ?_ ?_ | with_reducible refine ad ?_ ?_ ?_ ?_ | with_reducible refine ab ?_ ?_ ?_ | with_reducible refine af ?_ ?_ | with_reducible refine ai ?_ ?_ | with_reducible refine ak ?_ _ | (intro _) | with_reducible exact aj _ | exact ah | (dsimp only))
def fH (data : List App) (cmp : (TupT fam [.st 6,.st 6] → Option Int)) (p : Int) (t4 : Int × Int) : Option ((Int × Int) ⊕ Int) :=
 bif decide (t4.1 < t4.2) then
 let c:=w64 (shrK .u64 (IntKind.u64.wrap (w64 (t4.1 + t4.2))) 1)
 (inb (w64 (p - c)) data.length).bind fun i14 =>
 (data[i14]?).bind fun x12 =>
 (inb c data.length).bind fun i15 =>
 (data[i15]?).bind fun x13 =>
 (cmp (x12,x13,())).bind fun r2 =>
 bif ! (decide (r2 < 0)) then
  some (.inl (w64 (c + 1),t4.2))
 else
  some (.inl (t4.1,c))
 else
 some (.inr t4.1)
theorem qs (data : List App) (cmp cmp_' : (TupT fam [.st 6,.st 6] → Option Int)) (h_cmp : ∀ a,Lo (cmp a) (cmp_' a)) (p : Int) (t4 : Int × Int) : Lo (fH data cmp p t4) (gT data cmp_' p t4):=by
 unfold fH gT
 repeat' (first | exact h_cmp _ | with_reducible refine aa ?_ ?_ ?_ ?_ ?_ | with_reducible refine ad ?_ ?_ ?_ ?_ | with_reducible refine ab ?_ ?_ ?_ | with_reducible refine af ?_ ?_ | with_reducible refine ai ?_ ?_ | with_reducible refine ak ?_ _ | (intro _) | with_reducible exact aj _ | exact ah | (dsimp only))
def fO (i9 : Int) (t3 : List App × Int) : Option ((List App × Int) ⊕ List App) :=
 bif decide (t3.2 > i9) then
 (inb (w64 (t3.2 - 1)) t3.1.length).bind fun i10 =>
 (t3.1[i10]?).bind fun x8 =>
 (inb t3.2 t3.1.length).bind fun i11 =>
 (t3.1[i11]?).bind fun x9 =>
 (inb t3.2 t3.1.length).bind fun i12 =>
 (t3.1[i12]?).bind fun x10 =>
 (inb (w64 (t3.2 - 1)) (List.set t3.1 i12 x8).length).bind fun i13 =>
 ((List.set t3.1 i12 x8)[i13]?).bind fun x11 =>
 some (.inl (List.set (List.set t3.1 i12 x8) i13 x9,w64 (t3.2 - 1)))
 else
 some (.inr t3.1)
theorem qw (i9 : Int) (t3 : List App × Int) : Lo (fO i9 t3) (gS i9 t3):=by
 unfold fO gS
 repeat' (first | with_reducible refine aa ?_ ?_ ?_ ?_ ?_ | with_reducible refine ad ?_ ?_ ?_ ?_ | with_reducible refine ab ?_ ?_ ?_ | with_reducible refine af ?_ ?_ | with_reducible refine ai ?_ ?_ | with_reducible refine ak ?_ _ | (intro _) | with_reducible exact aj _ | exact ah | (dsimp only))
def fF (data : List App) (m : Int) (cmp : (TupT fam [.st 6,.st 6] → Option Int)) (t2 : Int × Int) : Option ((Int × Int) ⊕ Int) :=
 bif decide (t2.1 < t2.2) then
 let h1:=w64 (shrK .u64 (IntKind.u64.wrap (w64 (t2.1 + t2.2))) 1)
 (inb m data.length).bind fun i7 =>
 (data[i7]?).bind fun x6 =>
 (inb h1 data.length).bind fun i8 =>
 (data[i8]?).bind fun x7 =>
 (cmp (x6,x7,())).bind fun r1 =>
 bif ! (decide (r1 < 0)) then
  some (.inl (w64 (h1 + 1),t2.2))
 else
  some (.inl (t2.1,h1))
 else
 some (.inr t2.1)
theorem qk (data : List App) (m : Int) (cmp cmp_' : (TupT fam [.st 6,.st 6] → Option Int)) (h_cmp : ∀ a,Lo (cmp a) (cmp_' a)) (t2 : Int × Int) : Lo (fF data m cmp t2) (g8 data m cmp_' t2):=by
 unfold fF g8
 repeat' (first | exact h_cmp _ | with_reducible refine aa ?_ ?_ ?_ ?_ ?_ | with_reducible refine ad ?_ ?_ ?_ ?_ | with_reducible refine ab ?_ ?_ ?_ | with_reducible refine af ?_ ?_ | with_reducible refine ai ?_ ?_ | with_reducible refine ak ?_ _ | (intro _) | with_reducible exact aj _ | exact ah | (dsimp only))
def fI (i2 : Int) (t1 : List App × Int) : Option ((List App × Int) ⊕ List App) :=
 bif decide (t1.2 < (w64 (i2 - 1))) then
 (inb (w64 (t1.2 + 1)) t1.1.length).bind fun i3 =>
 (t1.1[i3]?).bind fun x2 =>
 (inb t1.2 t1.1.length).bind fun i4 =>
 (t1.1[i4]?).bind fun x3 =>
 (inb t1.2 t1.1.length).bind fun i5 =>
 (t1.1[i5]?).bind fun x4 =>
 (inb (w64 (t1.2 + 1)) (List.set t1.1 i5 x2).length).bind fun i6 =>
 ((List.set t1.1 i5 x2)[i6]?).bind fun x5 =>
 some (.inl (List.set (List.set t1.1 i5 x2) i6 x3,w64 (t1.2 + 1)))
 else
 some (.inr t1.1)
theorem qB (i2 : Int) (t1 : List App × Int) : Lo (fI i2 t1) (g_ i2 t1):=by
 unfold fI g_
 repeat' (first | with_reducible refine aa ?_ ?_ ?_ ?_ ?_ | with_reducible refine ad ?_ ?_ ?_ ?_ | with_reducible refine ab ?_ ?_ ?_ | with_reducible refine af ?_ ?_ | with_reducible refine ai ?_ ?_ | with_reducible refine ak ?_ _ | (intro _) | with_reducible exact aj _ | exact ah | (dsimp only))
def fU (data : List App) (a : Int) (cmp : (TupT fam [.st 6,.st 6] → Option Int)) (t : Int × Int) : Option ((Int × Int) ⊕ Int) :=
 bif decide (t.1 < t.2) then
 let h:=w64 (shrK .u64 (IntKind.u64.wrap (w64 (t.1 + t.2))) 1)
 (inb h data.length).bind fun i =>
 (data[i]?).bind fun x =>
 (inb a data.length).bind fun i1 =>
 (data[i1]?).bind fun x1 =>
 (cmp (x,x1,())).bind fun r =>
 bif decide (r < 0) then
  some (.inl (w64 (h + 1),t.2))
 else
  some (.inl (t.1,h))
 else
 some (.inr t.1)
theorem pW (data : List App) (a : Int) (cmp cmp_' : (TupT fam [.st 6,.st 6] → Option Int)) (h_cmp : ∀ a,Lo (cmp a) (cmp_' a)) (t : Int × Int) : Lo (fU data a cmp t) (gY data a cmp_' t):=by
 unfold fU gY
 repeat' (first | exact h_cmp _ | with_reducible refine aa ?_ ?_ ?_ ?_ ?_ | with_reducible refine ad ?_ ?_ ?_ ?_ | with_reducible refine ab ?_ ?_ ?_ | with_reducible refine af ?_ ?_ | with_reducible refine ai ?_ ?_ | with_reducible refine ak ?_ _ | (intro _) | with_reducible exact aj _ | exact ah | (dsimp only))
def iN (self : (List App) → Int → Int → Int → ((TupT fam [.st 6,.st 6] → Option Int)) → Option (List App)) (data : List App) (a : Int) (m : Int) (b : Int) (cmp : (TupT fam [.st 6,.st 6] → Option Int)) : Option (List App) :=
 bif (w64 (m - a)) == 1 then
 (itr 4096 (fU data a cmp) (m,b)).bind fun i2 =>
 (itr 4096 (fI i2) (data,a)).bind fun data1 =>
 some data1
 else
 bif (w64 (b - m)) == 1 then
  (itr 4096 (fF data m cmp) (a,m)).bind fun i9 =>
  (itr 4096 (fO i9) (data,m)).bind fun data2 =>
  some data2
 else
  let mid:=w64 (shrK .u64 (IntKind.u64.wrap (w64 (a + b))) 1)
  (
  bif decide (m > mid) then
   let start:=w64 ((w64 (mid + m)) - b)
   some (start,mid)
  else
   some (a,m)).bind fun q =>
  let p:=w64 ((w64 (mid + m)) - 1)
  (itr 4096 (fH data cmp p) (q.1,q.2)).bind fun start1 =>
  let end_:=w64 ((w64 (mid + m)) - start1)
  (
  (
   bif decide (start1 < m) then
   some (decide (m < end_))
   else
   some false).bind fun q1 =>
  bif q1 then
   (kz data start1 m end_ cmp).bind fun x14 =>
   some x14
  else
   some data).bind fun data3 =>
  (
  (
   bif decide (a < start1) then
   some (decide (start1 < mid))
   else
   some false).bind fun q2 =>
  bif q2 then
   (self data3 a start1 mid cmp).bind fun x15 =>
   some x15
  else
   some data3).bind fun data4 =>
  (
  bif decide (mid < end_) then
   some (decide (end_ < b))
  else
   some false).bind fun q3 =>
  bif q3 then
  (self data4 mid end_ b cmp).bind fun x16 =>
  some x16
  else
  some data4
theorem sg (self self_' : (List App) → Int → Int → Int → ((TupT fam [.st 6,.st 6] → Option Int)) → Option (List App)) (h_self : ∀ (a0 : (List App)) (a1 : Int) (a2 : Int) (a3 : Int) (a4 a4_ : ((TupT fam [.st 6,.st 6] → Option Int))) (_ : ∀ y,Lo (a4 y) (a4_ y)),Lo (self a0 a1 a2 a3 a4) (self_' a0 a1 a2 a3 a4_)) (data : List App) (a : Int) (m : Int) (b : Int) (cmp cmp_' : (TupT fam [.st 6,.st 6] → Option Int)) (h_cmp : ∀ a,Lo (cmp a) (cmp_' a)) : Lo (iN self data a m b cmp) (kM self_' data a m b cmp_'):=by
 unfold iN kM
 repeat' (first | with_reducible refine pW _ _ _ _ ?_ _ | with_reducible exact qB _ _ | with_reducible refine qk _ _ _ _ ?_ _ | with_reducible exact qw _ _ | with_reducible refine qs _ _ _ ?_ _ _ | with_reducible refine tC _ _ _ _ _ _ ?_ | with_reducible refine h_self _ _ _ _ _ _ ?_ | exact h_cmp _ | with_reducible refine aa ?_ ?_ ?_ ?_ ?_ | with_reducible refine ad ?_ ?_ ?_ ?_ | with_reducible refine ab ?_ ?_ ?_ | with_reducible refine af ?_ ?_ | with_reducible refine ai ?_ ?_ | with_reducible refine ak ?_ _ | (intro _) | with_reducible exact aj _ | exact ah | (dsimp only))
def eX : Nat → (List App) → Int → Int → Int → ((TupT fam [.st 6,.st 6] → Option Int)) → Option (List App)
 | 0 => fun _ _ _ _ _ => none
 | n + 1 => iN (eX n)
theorem mq : ∀ (n : Nat),∀ (a0 : List App) (a1 : Int) (a2 : Int) (a3 : Int) (a4 a4_ : (TupT fam [.st 6,.st 6] → Option Int)) (_ : ∀ y,Lo (a4 y) (a4_ y)),Lo (eX n a0 a1 a2 a3 a4) (eE n a0 a1 a2 a3 a4_)
 | 0 => fun _ _ _ _ _ _ _ => ah
 | n + 1 => fun a0 a1 a2 a3 a4 a4_ h4 => sg (eX n) (eE n) (mq n) a0 a1 a2 a3 a4 a4_ h4
def gF (a0 : List App) (a1 : Int) (a2 : Int) (a3 : Int) (a4 : (TupT fam [.st 6,.st 6] → Option Int)) : Option (List App):=eX 64 a0 a1 a2 a3 a4
theorem ou (a0 : List App) (a1 : Int) (a2 : Int) (a3 : Int) (a4 a4_' : (TupT fam [.st 6,.st 6] → Option Int)) (h_a4 : ∀ a,Lo (a4 a) (a4_' a)) : Lo (gF a0 a1 a2 a3 a4) (go a0 a1 a2 a3 a4_'):=by
 unfold gF go
 repeat' (first | with_reducible refine mq _ _ _ _ _ _ _ ?_ | exact h_a4 _ | with_reducible refine aa ?_ ?_ ?_ ?_ ?_ | with_reducible refine ad ?_ ?_ ?_ ?_ | with_reducible refine ab ?_ ?_ ?_ | with_reducible refine af ?_ ?_ | with_reducible refine ai ?_ ?_ | with_reducible refine ak ?_ _ | (intro _) | with_reducible exact aj _ | exact ah | (dsimp only))
def gQ (n : Int) (cmp : (TupT fam [.st 6,.st 6] → Option Int)) (t1 : List App × Int) (t2 : List App × Int × Int) : Option ((List App × Int × Int) ⊕ ((List App × Int))) :=
 bif decide (t2.2.2 ≤ n) then
 (gF t2.1 t2.2.1 (w64 (t2.2.1 + t1.2)) t2.2.2 cmp).bind fun x2 =>
 let b:=w64 (t2.2.2 + (w64 (2 * t1.2)))
 some (.inl (x2,t2.2.2,b))
 else
 some (.inr (t2.1,t2.2.1))
theorem rg (n : Int) (cmp cmp_' : (TupT fam [.st 6,.st 6] → Option Int)) (h_cmp : ∀ a,Lo (cmp a) (cmp_' a)) (t1 : List App × Int) (t2 : List App × Int × Int) : Lo (gQ n cmp t1 t2) (jG n cmp_' t1 t2):=by
 unfold gQ jG
 repeat' (first | with_reducible refine ou _ _ _ _ _ _ ?_ | exact h_cmp _ | with_reducible refine aa ?_ ?_ ?_ ?_ ?_ | with_reducible refine ad ?_ ?_ ?_ ?_ | with_reducible refine ab ?_ ?_ ?_ | with_reducible refine af ?_ ?_ | with_reducible refine ai ?_ ?_ | with_reducible refine ak ?_ _ | (intro _) | with_reducible exact aj _ | exact ah | (dsimp only))
def gR (n : Int) (cmp : (TupT fam [.st 6,.st 6] → Option Int)) (t1 : List App × Int) : Option ((List App × Int) ⊕ List App) :=
 bif decide (t1.2 < n) then
 (itr 4096 (gQ n cmp t1) (t1.1,0,w64 (2 * t1.2))).bind fun q1 =>
 (
  let m:=w64 (q1.2 + t1.2)
  bif decide (m < n) then
  (gF q1.1 q1.2 m n cmp).bind fun x3 =>
  some x3
  else
  some q1.1).bind fun data1 =>
 some (.inl (data1,w64 (t1.2 * 2)))
 else
 some (.inr t1.1)
theorem rf (n : Int) (cmp cmp_' : (TupT fam [.st 6,.st 6] → Option Int)) (h_cmp : ∀ a,Lo (cmp a) (cmp_' a)) (t1 : List App × Int) : Lo (gR n cmp t1) (jH n cmp_' t1):=by
 unfold gR jH
 repeat' (first | with_reducible refine rg _ _ _ ?_ _ _ | with_reducible refine ou _ _ _ _ _ _ ?_ | exact h_cmp _ | with_reducible refine aa ?_ ?_ ?_ ?_ ?_ | with_reducible refine ad ?_ ?_ ?_ ?_ | with_reducible refine ab ?_ ?_ ?_ | with_reducible refine af ?_ ?_ | with_reducible refine ai ?_ ?_ | with_reducible refine ak ?_ _ | (intro _) | with_reducible exact aj _ | exact ah | (dsimp only))
def hS (n : Int) (cmp : (TupT fam [.st 6,.st 6] → Option Int)) (t : List App × Int × Int) : Option ((List App × Int × Int) ⊕ ((List App × Int))) :=
 bif decide (t.2.2 ≤ n) then
 (gJ t.1 t.2.1 t.2.2 cmp).bind fun x =>
 some (.inl (x,t.2.2,w64 (t.2.2 + 20)))
 else
 some (.inr (t.1,t.2.1))
theorem ro (n : Int) (cmp cmp_' : (TupT fam [.st 6,.st 6] → Option Int)) (h_cmp : ∀ a,Lo (cmp a) (cmp_' a)) (t : List App × Int × Int) : Lo (hS n cmp t) (ka n cmp_' t):=by
 unfold hS ka
 repeat' (first | with_reducible refine og _ _ _ _ _ ?_ | exact h_cmp _ | with_reducible refine aa ?_ ?_ ?_ ?_ ?_ | with_reducible refine ad ?_ ?_ ?_ ?_ | with_reducible refine ab ?_ ?_ ?_ | with_reducible refine af ?_ ?_ | with_reducible refine ai ?_ ?_ | with_reducible refine ak ?_ _ | (intro _) | with_reducible exact aj _ | exact ah | (dsimp only))
def kH (data : List App) (n : Int) (cmp : (TupT fam [.st 6,.st 6] → Option Int)) : Option (List App) :=
 (itr 4096 (hS n cmp) (data,0,20)).bind fun q =>
 (gJ q.1 q.2 n cmp).bind fun x1 =>
 (itr 4096 (gR n cmp) (x1,20)).bind fun data2 =>
 some data2
theorem tZ (data : List App) (n : Int) (cmp cmp_' : (TupT fam [.st 6,.st 6] → Option Int)) (h_cmp : ∀ a,Lo (cmp a) (cmp_' a)) : Lo (kH data n cmp) (jY data n cmp_'):=by
 unfold kH jY
 repeat' (first | with_reducible refine ro _ _ _ ?_ _ | with_reducible refine og _ _ _ _ _ ?_ | with_reducible refine rf _ _ _ ?_ _ | exact h_cmp _ | with_reducible refine aa ?_ ?_ ?_ ?_ ?_ | with_reducible refine ad ?_ ?_ ?_ ?_ | with_reducible refine ab ?_ ?_ ?_ | with_reducible refine af ?_ ?_ | with_reducible refine ai ?_ ?_ | with_reducible refine ak ?_ _ | (intro _) | with_reducible exact aj _ | exact ah | (dsimp only))
def kU (x : List App) (cmp : (TupT fam [.st 6,.st 6] → Option Int)) : Option (List App) :=
 (kH x (x.length : Int) cmp).bind fun x1 =>
 some x1
theorem uc (x : List App) (cmp cmp_' : (TupT fam [.st 6,.st 6] → Option Int)) (h_cmp : ∀ a,Lo (cmp a) (cmp_' a)) : Lo (kU x cmp) (jN x cmp_'):=by
 unfold kU jN
 repeat' (first | with_reducible refine tZ _ _ _ _ ?_ | exact h_cmp _ | with_reducible refine aa ?_ ?_ ?_ ?_ ?_ | with_reducible refine ad ?_ ?_ ?_ ?_ | with_reducible refine ab ?_ ?_ ?_ | with_reducible refine af ?_ ?_ | with_reducible refine ai ?_ ?_ | with_reducible refine ak ?_ _ | (intro _) | with_reducible exact aj _ | exact ah | (dsimp only))
def fa (x : Int) : Option Bool :=
 some (x != x)
theorem ss (x : Int) : Lo (fa x) (eF x):=by
 unfold fa eF
 repeat' (first | with_reducible refine aa ?_ ?_ ?_ ?_ ?_ | with_reducible refine ad ?_ ?_ ?_ ?_ | with_reducible refine ab ?_ ?_ ?_ | with_reducible refine af ?_ ?_ | with_reducible refine ai ?_ ?_ | with_reducible refine ak ?_ _ | (intro _) | with_reducible exact aj _ | exact ah | (dsimp only))
def dV (x : Int) (y : Int) : Option Int :=
 (fa x).bind fun xNaN =>
 (fa y).bind fun yNaN =>
 bif xNaN then
 bif yNaN then
  some 0
 else
  some (-1)
 else
 bif yNaN then
  some 1
 else
  bif decide (x < y) then
  some (-1)
  else
  bif decide (x > y) then
   some 1
  else
   some 0
theorem qR (x : Int) (y : Int) : Lo (dV x y) (de x y):=by
 unfold dV de
 repeat' (first | with_reducible exact ss _ | with_reducible refine aa ?_ ?_ ?_ ?_ ?_ | with_reducible refine ad ?_ ?_ ?_ ?_ | with_reducible refine ab ?_ ?_ ?_ | with_reducible refine af ?_ ?_ | with_reducible refine ai ?_ ?_ | with_reducible refine ak ?_ _ | (intro _) | with_reducible exact aj _ | exact ah | (dsimp only))
def kh (a : App) (b : App) : Option Int :=
 (dV b.Prio a.Prio).bind fun x =>
 (dV a.Id b.Id).bind fun x1 =>
 (iz [x,x1]).bind fun x2 =>
 some x2
theorem tT (a : App) (b : App) : Lo (kh a b) (jK a b):=by
 unfold kh jK
 repeat' (first | with_reducible exact qR _ _ | with_reducible exact pN _ | with_reducible refine aa ?_ ?_ ?_ ?_ ?_ | with_reducible refine ad ?_ ?_ ?_ ?_ | with_reducible refine ab ?_ ?_ ?_ | with_reducible refine af ?_ ?_ | with_reducible refine ai ?_ ?_ | with_reducible refine ak ?_ _ | (intro _) | with_reducible exact aj _ | exact ah | (dsimp only))
def j8 (x2 : List App) (t1 : List Int × Int) : Option ((List Int × Int) ⊕ List Int) :=
 bif decide (t1.2 < (x2.length : Int)) then
 (inb t1.2 x2.length).bind fun i =>
 (x2[i]?).bind fun x3 =>
 (inb t1.2 t1.1.length).bind fun i1 =>
 (t1.1[i1]?).bind fun x4 =>
 some (.inl (List.set t1.1 i1 x3.Id,w64 (t1.2 + 1)))
 else
 some (.inr t1.1)
theorem tp (x2 : List App) (t1 : List Int × Int) : Lo (j8 x2 t1) (mh x2 t1):=by
 unfold j8 mh
 repeat' (first | with_reducible refine aa ?_ ?_ ?_ ?_ ?_ | with_reducible refine ad ?_ ?_ ?_ ?_ | with_reducible refine ab ?_ ?_ ?_ | with_reducible refine af ?_ ?_ | with_reducible refine ai ?_ ?_ | with_reducible refine ak ?_ _ | (intro _) | with_reducible exact aj _ | exact ah | (dsimp only))
def jO (s : State) (queue : List UInt8) (t : List App × Int) : Option ((List App × Int) ⊕ List App) :=
 bif decide (t.2 < (s.Apps.length : Int)) then
 (
  (idx s.Apps t.2).bind fun x =>
  (
  (li x).bind fun x1 =>
  bif x1 then
   some (x.Queue == queue)
  else
   some false).bind fun q =>
  bif q then
  (app 200 t.1 [x]).bind fun l =>
  some l
  else
  some t.1).bind fun l1 =>
 some (.inl (l1,w64 (t.2 + 1)))
 else
 some (.inr t.1)
theorem sO (s : State) (queue : List UInt8) (t : List App × Int) : Lo (jO s queue t) (lL s queue t):=by
 unfold jO lL
 repeat' (first | with_reducible exact rA _ | with_reducible refine aa ?_ ?_ ?_ ?_ ?_ | with_reducible refine ad ?_ ?_ ?_ ?_ | with_reducible refine ab ?_ ?_ ?_ | with_reducible refine af ?_ ?_ | with_reducible refine ai ?_ ?_ | with_reducible refine ak ?_ _ | (intro _) | with_reducible exact aj _ | exact ah | (dsimp only))
def nE (s : State) (queue : List UInt8) : Option (List Int) :=
 (itr 4096 (jO s queue) ([],0)).bind fun l2 =>
 (kU l2 (fun a' => kh a'.1 a'.2.1)).bind fun x2 =>
 (mkl 8 (x2.length : Int) (x2.length : Int) 0).bind fun l3 =>
 (itr 4096 (j8 x2) (l3,0)).bind fun out =>
 some out
theorem vT (s : State) (queue : List UInt8) : Lo (nE s queue) (mM s queue):=by
 unfold nE mM
 repeat' (first | with_reducible exact sO _ _ _ | with_reducible refine uc _ _ _ ?_ | with_reducible exact tT _ _ | with_reducible exact tp _ _ | with_reducible refine aa ?_ ?_ ?_ ?_ ?_ | with_reducible refine ad ?_ ?_ ?_ ?_ | with_reducible refine ab ?_ ?_ ?_ | with_reducible refine af ?_ ?_ | with_reducible refine ai ?_ ?_ | with_reducible refine ak ?_ _ | (intro _) | with_reducible exact aj _ | exact ah | (dsimp only))
def oZ (l : List Ask) (prio : Int) : Option (List Ask) :=
 (jV l).bind fun out =>
 (
 (oL out prio).bind fun i =>
 bif decide (i ≥ 0) then
  (inb i out.length).bind fun i1 =>
  (out[i1]?).bind fun x =>
  (inb i out.length).bind fun i2 =>
  (out[i2]?).bind fun x1 =>
  some (List.set out i2 (⟨x1.Prio,x1.Label,⟨x1.Size.Mem,x1.Size.Cores⟩,x1.Count,x1.Node,x1.Rack,imin (w64 (x.Missed + 1)) 100⟩ : Ask))
 else
  some out).bind fun out1 =>
 some out1
theorem wP (l : List Ask) (prio : Int) : Lo (oZ l prio) (ol l prio):=by
 unfold oZ ol
 repeat' (first | with_reducible exact oX _ | with_reducible exact tJ _ _ | with_reducible refine aa ?_ ?_ ?_ ?_ ?_ | with_reducible refine ad ?_ ?_ ?_ ?_ | with_reducible refine ab ?_ ?_ ?_ | with_reducible refine af ?_ ?_ | with_reducible refine ai ?_ ?_ | with_reducible refine ak ?_ _ | (intro _) | with_reducible exact aj _ | exact ah | (dsimp only))
def eQ (t : Attempt) (a : App) (prio : Int) : Option (App × Attempt) :=
 (oZ a.Asks prio).bind fun x =>
 (mO t.s (⟨a.Id,a.State,a.Queue,a.User,a.Prio,⟨a.Master.Mem,a.Master.Cores⟩,x,a.Seen,a.Beat,a.Grants,a.Kills,a.Told,a.Lost⟩ : App)).bind fun x1 =>
 some ((⟨a.Id,a.State,a.Queue,a.User,a.Prio,⟨a.Master.Mem,a.Master.Cores⟩,x,a.Seen,a.Beat,a.Grants,a.Kills,a.Told,a.Lost⟩ : App),(⟨⟨⟨x1.Conf.Labels,x1.Conf.Queues⟩,x1.Nodes,x1.Apps,x1.Conts,x1.Slots,x1.Plans,x1.Now,x1.Epoch,x1.Seq⟩,⟨t.n.Id,t.n.Label,t.n.Rack,⟨t.n.Cap.Mem,t.n.Cap.Cores⟩,t.n.Seen,t.n.Beat,t.n.Up⟩,⟨t.free.Mem,t.free.Cores⟩⟩ : Attempt))
theorem pc (t : Attempt) (a : App) (prio : Int) : Lo (eQ t a prio) (dt t a prio):=by
 unfold eQ dt
 repeat' (first | with_reducible exact wP _ _ | with_reducible exact sI _ _ | with_reducible refine aa ?_ ?_ ?_ ?_ ?_ | with_reducible refine ad ?_ ?_ ?_ ?_ | with_reducible refine ab ?_ ?_ ?_ | with_reducible refine af ?_ ?_ | with_reducible refine ai ?_ ?_ | with_reducible refine ak ?_ _ | (intro _) | with_reducible exact aj _ | exact ah | (dsimp only))
def jc (s : List Slot) (f : (TupT fam [.st 8] → Option Bool)) : Option Bool :=
 (gB s f).bind fun x =>
 some (decide (x ≥ 0))
theorem tk (s : List Slot) (f f_' : (TupT fam [.st 8] → Option Bool)) (h_f : ∀ a,Lo (f a) (f_' a)) : Lo (jc s f) (iA s f_'):=by
 unfold jc iA
 repeat' (first | with_reducible refine ox _ _ _ ?_ | exact h_f _ | with_reducible refine aa ?_ ?_ ?_ ?_ ?_ | with_reducible refine ad ?_ ?_ ?_ ?_ | with_reducible refine ab ?_ ?_ ?_ | with_reducible refine af ?_ ?_ | with_reducible refine ai ?_ ?_ | with_reducible refine ak ?_ _ | (intro _) | with_reducible exact aj _ | exact ah | (dsimp only))
def dz (x : Slot) (p : Int) (p1 : Int) : Option Bool :=
 bif x.App == p then
 some (x.Prio == p1)
 else
 some false
theorem ni (x : Slot) (p : Int) (p1 : Int) : Lo (dz x p p1) (cj x p p1):=by
 unfold dz cj
 repeat' (first | with_reducible refine aa ?_ ?_ ?_ ?_ ?_ | with_reducible refine ad ?_ ?_ ?_ ?_ | with_reducible refine ab ?_ ?_ ?_ | with_reducible refine af ?_ ?_ | with_reducible refine ai ?_ ?_ | with_reducible refine ak ?_ _ | (intro _) | with_reducible exact aj _ | exact ah | (dsimp only))
def jS (s : List Slot) (i : Int) (v : List Slot) : Option (List Slot):=ins s i v
theorem sU (s : List Slot) (i : Int) (v : List Slot) : Lo (jS s i v) (iw s i v):=by
 unfold jS iw
 repeat' (first | with_reducible refine aa ?_ ?_ ?_ ?_ ?_ | with_reducible refine ad ?_ ?_ ?_ ?_ | with_reducible refine ab ?_ ?_ ?_ | with_reducible refine af ?_ ?_ | with_reducible refine ai ?_ ?_ | with_reducible refine ak ?_ _ | (intro _) | with_reducible exact aj _ | exact ah | (dsimp only))
def da (t : Attempt) (k : Int) : Option (Int ⊕ Int) :=
 (
 bif decide (k < (t.s.Slots.length : Int)) then
  (inb k t.s.Slots.length).bind fun i =>
  (t.s.Slots[i]?).bind fun x1 =>
  some (decide (x1.Node < t.n.Id))
 else
  some false).bind fun q =>
 bif q then
 some (.inl (w64 (k + 1)))
 else
 some (.inr k)
theorem mr (t : Attempt) (k : Int) : Lo (da t k) (dX t k):=by
 unfold da dX
 repeat' (first | with_reducible refine aa ?_ ?_ ?_ ?_ ?_ | with_reducible refine ad ?_ ?_ ?_ ?_ | with_reducible refine ab ?_ ?_ ?_ | with_reducible refine af ?_ ?_ | with_reducible refine ai ?_ ?_ | with_reducible refine ak ?_ _ | (intro _) | with_reducible exact aj _ | exact ah | (dsimp only))
def eA (t : Attempt) (id_ : Int) (prio : Int) : Option (Bool × Attempt) :=
 (jc t.s.Slots (fun a' => dz a'.1 id_ prio)).bind fun x =>
 bif x then
 some (false,t)
 else
 (itr 4096 (da t) 0).bind fun k1 =>
 (jS t.s.Slots k1 [(⟨t.n.Id,id_,prio⟩ : Slot)]).bind fun x2 =>
 some (true,(⟨⟨⟨t.s.Conf.Labels,t.s.Conf.Queues⟩,t.s.Nodes,t.s.Apps,t.s.Conts,x2,t.s.Plans,t.s.Now,t.s.Epoch,t.s.Seq⟩,⟨t.n.Id,t.n.Label,t.n.Rack,⟨t.n.Cap.Mem,t.n.Cap.Cores⟩,t.n.Seen,t.n.Beat,t.n.Up⟩,⟨t.free.Mem,t.free.Cores⟩⟩ : Attempt))
theorem oT (t : Attempt) (id_ : Int) (prio : Int) : Lo (eA t id_ prio) (di t id_ prio):=by
 unfold eA di
 repeat' (first | with_reducible refine tk _ _ _ ?_ | with_reducible exact ni _ _ _ | with_reducible exact mr _ _ | with_reducible exact sU _ _ _ | with_reducible refine aa ?_ ?_ ?_ ?_ ?_ | with_reducible refine ad ?_ ?_ ?_ ?_ | with_reducible refine ab ?_ ?_ ?_ | with_reducible refine af ?_ ?_ | with_reducible refine ai ?_ ?_ | with_reducible refine ak ?_ _ | (intro _) | with_reducible exact aj _ | exact ah | (dsimp only))
def cJ (first : Bool) (may : (TupT fam [.st 5,.st 4] → Option Bool)) (x2 : Int) (x5 : List Ask) (t3 : Attempt × Cont × App × Int) : Option ((Attempt × Cont × App × Int) ⊕ ((Attempt × Int × Cont) ⊕ (Attempt × Cont))) :=
 bif decide (t3.2.2.2 < (x5.length : Int)) then
 (
  (inb t3.2.2.2 x5.length).bind fun i1 =>
  (x5[i1]?).bind fun x6 =>
  (cH t3.1 t3.2.2.1 x6).bind fun due =>
  (
  (bV t3.1 x6).bind fun x7 =>
  bif ! x7 then
   some true
  else
   bif first then
   some (! due)
   else
   some false).bind fun q =>
  bif q then
  some (.inl (t3.1,t3.2.1,t3.2.2.1))
  else
  (may (x6,t3.1.n,())).bind fun r =>
  bif ! r then
   bif first == due then
   (eQ t3.1 t3.2.2.1 x6.Prio).bind fun x8 =>
   some (.inl (x8.2,t3.2.1,x8.1))
   else
   some (.inl (t3.1,t3.2.1,t3.2.2.1))
  else
   (ci t3.1 t3.2.2.1 x6).bind fun x9 =>
   bif ! x9 then
   some (.inl (t3.1,t3.2.1,t3.2.2.1))
   else
   (cg t3.1 x6).bind fun x10 =>
   bif x10 then
    (bU t3.1 t3.2.2.1 x6).bind fun x11 =>
    some (.inr (x11.2,1,x11.1))
   else
    (
    bif first then
     (eA t3.1 x2 x6.Prio).bind fun x12 =>
     some (x12.2,x12.1)
    else
     some (t3.1,false)).bind fun q1 =>
    bif q1.2 then
    some (.inr (q1.1,2,(⟨0,0,0,⟨0,0⟩,0,0,false,0⟩ : Cont)))
    else
    some (.inl (q1.1,t3.2.1,t3.2.2.1)) : Option ((Attempt × Cont × App) ⊕ (Attempt × Int × Cont))).bind fun q0 =>
 match q0 with
 | .inl q2 =>
  some (.inl (q2.1,q2.2.1,q2.2.2,w64 (t3.2.2.2 + 1)))
 | .inr q3 =>
  some (.inr (.inl (q3.1,q3.2.1,q3.2.2)))
 else
 some (.inr (.inr (t3.1,t3.2.1)))
theorem lP (first : Bool) (may may_' : (TupT fam [.st 5,.st 4] → Option Bool)) (h_may : ∀ a,Lo (may a) (may_' a)) (x2 : Int) (x5 : List Ask) (t3 : Attempt × Cont × App × Int) : Lo (cJ first may x2 x5 t3) (dK first may_' x2 x5 t3):=by
 unfold cJ dK
 repeat' (first | with_reducible exact iS _ _ _ | with_reducible exact gO _ _ | with_reducible exact pc _ _ _ | with_reducible exact ie _ _ _ | with_reducible exact il _ _ | with_reducible exact gN _ _ _ | with_reducible exact oT _ _ _ | exact h_may _ | with_reducible refine aa ?_ ?_ ?_ ?_ ?_ | with_reducible refine ad ?_ ?_ ?_ ?_ | with_reducible refine ab ?_ ?_ ?_ | with_reducible refine af ?_ ?_ | with_reducible refine ai ?_ ?_ | with_reducible refine ak ?_ _ | (intro _) | with_reducible exact aj _ | exact ah | (dsimp only))
def cM (first : Bool) (may : (TupT fam [.st 5,.st 4] → Option Bool)) (x1 : List Int) (t2 : Attempt × Cont × Int) : Option ((Attempt × Cont × Int) ⊕ ((Attempt × Int × Cont) ⊕ (Attempt × Cont) ⊕ (Attempt × Cont))) :=
 bif decide (t2.2.2 < (x1.length : Int)) then
 (
  (inb t2.2.2 x1.length).bind fun i =>
  (x1[i]?).bind fun x2 =>
  (kV t2.1.s x2).bind fun x3 =>
  bif ! x3.2 then
  some (.inr (.inr (t2.1,t2.2.1)))
  else
  (ck t2.1 x3.1).bind fun x4 =>
  bif ! x4 then
   some (.inl (t2.1,t2.2.1))
  else
   (mH x3.1.Asks).bind fun x5 =>
   (itr 4096 (cJ first may x2 x5) (t2.1,t2.2.1,x3.1,0)).bind fun q0 =>
   match q0 with
   | .inl q4 =>
   some (.inr (.inl (q4.1,q4.2.1,q4.2.2)))
   | .inr q5 =>
   some (.inl (q5.1,q5.2)) : Option ((Attempt × Cont) ⊕ (Attempt × Int × Cont) ⊕ (Attempt × Cont))).bind fun q0 =>
 match q0 with
 | .inl q6 =>
  some (.inl (q6.1,q6.2,w64 (t2.2.2 + 1)))
 | .inr (.inl q7) =>
  some (.inr (.inl (q7.1,q7.2.1,q7.2.2)))
 | .inr (.inr q8) =>
  some (.inr (.inr (.inl (q8.1,q8.2))))
 else
 some (.inr (.inr (.inr (t2.1,t2.2.1))))
theorem l8 (first : Bool) (may may_' : (TupT fam [.st 5,.st 4] → Option Bool)) (h_may : ∀ a,Lo (may a) (may_' a)) (x1 : List Int) (t2 : Attempt × Cont × Int) : Lo (cM first may x1 t2) (dG first may_' x1 t2):=by
 unfold cM dG
 repeat' (first | with_reducible exact rP _ _ | with_reducible exact ic _ _ | with_reducible exact sE _ | with_reducible refine lP _ _ _ ?_ _ _ _ | exact h_may _ | with_reducible refine aa ?_ ?_ ?_ ?_ ?_ | with_reducible refine ad ?_ ?_ ?_ ?_ | with_reducible refine ab ?_ ?_ ?_ | with_reducible refine af ?_ ?_ | with_reducible refine ai ?_ ?_ | with_reducible refine ak ?_ _ | (intro _) | with_reducible exact aj _ | exact ah | (dsimp only))
def cS (leaves : List (List UInt8)) (first : Bool) (may : (TupT fam [.st 5,.st 4] → Option Bool)) (t1 : Attempt × Cont × Int) : Option ((Attempt × Cont × Int) ⊕ ((Attempt × Int × Cont) ⊕ (Attempt × Cont))) :=
 bif decide (t1.2.2 < (leaves.length : Int)) then
 (
  (idx leaves t1.2.2).bind fun x =>
  (nE t1.1.s x).bind fun x1 =>
  (itr 4096 (cM first may x1) (t1.1,t1.2.1,0)).bind fun q0 =>
  match q0 with
  | .inl q9 =>
  some (.inr (q9.1,q9.2.1,q9.2.2))
  | .inr (.inl q10) =>
  some (.inl (q10.1,q10.2))
  | .inr (.inr q11) =>
  some (.inl (q11.1,q11.2)) : Option ((Attempt × Cont) ⊕ (Attempt × Int × Cont))).bind fun q0 =>
 match q0 with
 | .inl q12 =>
  some (.inl (q12.1,q12.2,w64 (t1.2.2 + 1)))
 | .inr q13 =>
  some (.inr (.inl (q13.1,q13.2.1,q13.2.2)))
 else
 some (.inr (.inr (t1.1,t1.2.1)))
theorem ml (leaves : List (List UInt8)) (first : Bool) (may may_' : (TupT fam [.st 5,.st 4] → Option Bool)) (h_may : ∀ a,Lo (may a) (may_' a)) (t1 : Attempt × Cont × Int) : Lo (cS leaves first may t1) (dH leaves first may_' t1):=by
 unfold cS dH
 repeat' (first | with_reducible exact vT _ _ | with_reducible refine l8 _ _ _ ?_ _ _ | exact h_may _ | with_reducible refine aa ?_ ?_ ?_ ?_ ?_ | with_reducible refine ad ?_ ?_ ?_ ?_ | with_reducible refine ab ?_ ?_ ?_ | with_reducible refine af ?_ ?_ | with_reducible refine ai ?_ ?_ | with_reducible refine ak ?_ _ | (intro _) | with_reducible exact aj _ | exact ah | (dsimp only))
def bT (t : Attempt) (leaves : List (List UInt8)) (first : Bool) (may : (TupT fam [.st 5,.st 4] → Option Bool)) : Option (Int × Cont × Attempt) :=
 (itr 4096 (cS leaves first may) (t,(⟨0,0,0,⟨0,0⟩,0,0,false,0⟩ : Cont),0)).bind fun q0 =>
 match q0 with
 | .inl q14 =>
 some (q14.2.1,q14.2.2,q14.1)
 | .inr q15 =>
 some (0,(⟨0,0,0,⟨0,0⟩,0,0,false,0⟩ : Cont),q15.1)
theorem nS (t : Attempt) (leaves : List (List UInt8)) (first : Bool) (may may_' : (TupT fam [.st 5,.st 4] → Option Bool)) (h_may : ∀ a,Lo (may a) (may_' a)) : Lo (bT t leaves first may) (br t leaves first may_'):=by
 unfold bT br
 repeat' (first | with_reducible refine ml _ _ _ _ ?_ _ | exact h_may _ | with_reducible refine aa ?_ ?_ ?_ ?_ ?_ | with_reducible refine ad ?_ ?_ ?_ ?_ | with_reducible refine ab ?_ ?_ ?_ | with_reducible refine af ?_ ?_ | with_reducible refine ai ?_ ?_ | with_reducible refine ak ?_ _ | (intro _) | with_reducible exact aj _ | exact ah | (dsimp only))
def dB (t : Attempt) : Option (Int × Cont × Attempt) :=
 (kg t.s t.n.Label).bind fun leaves =>
 (bT t leaves true (fun a' => hU a'.1 a'.2.1)).bind fun x =>
 bif x.1 != 0 then
 some (x.1,x.2.1,x.2.2)
 else
 (bT x.2.2 leaves false (fun a' => hU a'.1 a'.2.1)).bind fun x1 =>
 some (x1.1,x1.2.1,x1.2.2)
theorem nH (t : Attempt) : Lo (dB t) (co t):=by
 unfold dB co
 repeat' (first | with_reducible exact uv _ _ | with_reducible refine nS _ _ _ _ _ ?_ | with_reducible exact qS _ _ | with_reducible refine aa ?_ ?_ ?_ ?_ ?_ | with_reducible refine ad ?_ ?_ ?_ ?_ | with_reducible refine ab ?_ ?_ ?_ | with_reducible refine af ?_ ?_ | with_reducible refine ai ?_ ?_ | with_reducible refine ak ?_ _ | (intro _) | with_reducible exact aj _ | exact ah | (dsimp only))
def bY (s : State) (node : Int) : Option (State × Int × Cont) :=
 (k_ s []).bind fun x =>
 (jv s node).bind fun x1 =>
 (
 bif ! x1.2 then
  some true
 else
  bif ! x1.1.Up then
  some true
  else
  bif decide ((s.Conts.length : Int) ≥ 200) then
   some true
  else
   some (decide (s.Seq ≥ 1048575))).bind fun q =>
 bif q then
 some (x,0,(⟨0,0,0,⟨0,0⟩,0,0,false,0⟩ : Cont))
 else
 (nj s node).bind fun x2 =>
 (eJ (⟨⟨⟨x.Conf.Labels,x.Conf.Queues⟩,x.Nodes,x.Apps,x.Conts,x.Slots,x.Plans,x.Now,x.Epoch,x.Seq⟩,⟨x1.1.Id,x1.1.Label,x1.1.Rack,⟨x1.1.Cap.Mem,x1.1.Cap.Cores⟩,x1.1.Seen,x1.1.Beat,x1.1.Up⟩,⟨x2.Mem,x2.Cores⟩⟩ : Attempt)).bind fun x3 =>
 (
  bif ! x3.2.2.1 then
  (dB x3.2.2.2).bind fun x4 =>
  some (x4.1,x4.2.1,x4.2.2)
  else
  some (x3.1,x3.2.1,x3.2.2.2)).bind fun q1 =>
 (k_ q1.2.2.s []).bind fun x5 =>
 some (x5,q1.1,q1.2.1)
theorem ma (s : State) (node : Int) : Lo (bY s node) (cQ s node):=by
 unfold bY cQ
 repeat' (first | with_reducible exact xQ _ _ | with_reducible exact qJ _ _ | with_reducible exact wh _ _ | with_reducible exact oN _ | with_reducible exact nH _ | with_reducible refine aa ?_ ?_ ?_ ?_ ?_ | with_reducible refine ad ?_ ?_ ?_ ?_ | with_reducible refine ab ?_ ?_ ?_ | with_reducible refine af ?_ ?_ | with_reducible refine ai ?_ ?_ | with_reducible refine ak ?_ _ | (intro _) | with_reducible exact aj _ | exact ah | (dsimp only))
def dn : Option State :=
 some (⟨⟨[([] : List UInt8)],[(⟨([114,111,111,116] : List UInt8),[(⟨10000,10000⟩ : Cap)],10000⟩ : Queue)]⟩,[],[],[],[],[],0,0,0⟩ : State)
theorem jt : Lo (dn) (cA):=by
 unfold dn cA
 repeat' (first | with_reducible refine aa ?_ ?_ ?_ ?_ ?_ | with_reducible refine ad ?_ ?_ ?_ ?_ | with_reducible refine ab ?_ ?_ ?_ | with_reducible refine af ?_ ?_ | with_reducible refine ai ?_ ?_ | with_reducible refine ak ?_ _ | (intro _) | with_reducible exact aj _ | exact ah | (dsimp only))
def dY (s : State) (id_ : Int) (t : Node × Int) : Option ((Node × Int) ⊕ ((Node × Bool) ⊕ Node)) :=
 bif decide (t.2 < (s.Nodes.length : Int)) then
 (idx s.Nodes t.2).bind fun x =>
 bif x.Id == id_ then
  (idx s.Nodes t.2).bind fun x1 =>
  some (.inr (.inl (x1,true)))
 else
  some (.inl (t.1,w64 (t.2 + 1)))
 else
 some (.inr (.inr (t.1)))
theorem nV (s : State) (id_ : Int) (t : Node × Int) : Lo (dY s id_ t) (fe s id_ t):=by
 unfold dY fe
 repeat' (first | with_reducible refine aa ?_ ?_ ?_ ?_ ?_ | with_reducible refine ad ?_ ?_ ?_ ?_ | with_reducible refine ab ?_ ?_ ?_ | with_reducible refine af ?_ ?_ | with_reducible refine ai ?_ ?_ | with_reducible refine ak ?_ _ | (intro _) | with_reducible exact aj _ | exact ah | (dsimp only))
def df (s : State) (id_ : Int) : Option (Node × Bool) :=
 (itr 4096 (dY s id_) ((⟨0,0,0,⟨0,0⟩,0,0,false⟩ : Node),0)).bind fun q0 =>
 match q0 with
 | .inl q =>
 some (q.1,q.2)
 | .inr q1 =>
 some ((⟨0,0,0,⟨0,0⟩,0,0,false⟩ : Node),false)
theorem jB (s : State) (id_ : Int) : Lo (df s id_) (cD s id_):=by
 unfold df cD
 repeat' (first | with_reducible exact nV _ _ _ | with_reducible refine aa ?_ ?_ ?_ ?_ ?_ | with_reducible refine ad ?_ ?_ ?_ ?_ | with_reducible refine ab ?_ ?_ ?_ | with_reducible refine af ?_ ?_ | with_reducible refine ai ?_ ?_ | with_reducible refine ak ?_ _ | (intro _) | with_reducible exact aj _ | exact ah | (dsimp only))
def dm (n : Int) : Option Bool :=
 bif decide (n ≥ 0) then
 some (decide (n ≤ 1073741824))
 else
 some false
theorem qi (n : Int) : Lo (dm n) (cy n):=by
 unfold dm cy
 repeat' (first | with_reducible refine aa ?_ ?_ ?_ ?_ ?_ | with_reducible refine ad ?_ ?_ ?_ ?_ | with_reducible refine ab ?_ ?_ ?_ | with_reducible refine af ?_ ?_ | with_reducible refine ai ?_ ?_ | with_reducible refine ak ?_ _ | (intro _) | with_reducible exact aj _ | exact ah | (dsimp only))
def eL (s : State) (n : Node) (k : Int) : Option (Int ⊕ Int) :=
 (
 bif decide (k < (s.Nodes.length : Int)) then
  (idx s.Nodes k).bind fun x =>
  some (decide (x.Id < n.Id))
 else
  some false).bind fun q =>
 bif q then
 some (.inl (w64 (k + 1)))
 else
 some (.inr k)
theorem oR (s : State) (n : Node) (k : Int) : Lo (eL s n k) (fV s n k):=by
 unfold eL fV
 repeat' (first | with_reducible refine aa ?_ ?_ ?_ ?_ ?_ | with_reducible refine ad ?_ ?_ ?_ ?_ | with_reducible refine ab ?_ ?_ ?_ | with_reducible refine af ?_ ?_ | with_reducible refine ai ?_ ?_ | with_reducible refine ak ?_ _ | (intro _) | with_reducible exact aj _ | exact ah | (dsimp only))
def f_ (s : State) (n : Node) : Option State :=
 (itr 4096 (eL s n) 0).bind fun k1 =>
 (slc s.Nodes 0 k1).bind fun l =>
 (app 64 [] l).bind fun l1 =>
 (app 64 l1 [n]).bind fun l2 =>
 (
 (
  bif decide (k1 < (s.Nodes.length : Int)) then
  (idx s.Nodes k1).bind fun x1 =>
  some (x1.Id == n.Id)
  else
  some false).bind fun q1 =>
 bif q1 then
  some (w64 (k1 + 1))
 else
  some k1).bind fun k2 =>
 (slc s.Nodes k2 (s.Nodes.length : Int)).bind fun l3 =>
 (app 64 l2 l3).bind fun l4 =>
 some (⟨⟨s.Conf.Labels,s.Conf.Queues⟩,l4,s.Apps,s.Conts,s.Slots,s.Plans,s.Now,s.Epoch,s.Seq⟩ : State)
theorem qQ (s : State) (n : Node) : Lo (f_ s n) (e_ s n):=by
 unfold f_ e_
 repeat' (first | with_reducible exact oR _ _ _ | with_reducible refine aa ?_ ?_ ?_ ?_ ?_ | with_reducible refine ad ?_ ?_ ?_ ?_ | with_reducible refine ab ?_ ?_ ?_ | with_reducible refine af ?_ ?_ | with_reducible refine ai ?_ ?_ | with_reducible refine ak ?_ _ | (intro _) | with_reducible exact aj _ | exact ah | (dsimp only))
def bL (s : State) (n : Node) : Option (State × Int) :=
 (
 bif decide (n.Id < 0) then
  some true
 else
  bif decide (n.Id > 999) then
  some true
  else
  bif decide (n.Label < 0) then
   some true
  else
   bif decide (n.Label ≥ (s.Conf.Labels.length : Int)) then
   some true
   else
   bif decide (n.Rack < 0) then
    some true
   else
    bif decide (n.Rack > 99) then
    some true
    else
    (dm n.Cap.Mem).bind fun x =>
    bif ! x then
     some true
    else
     (dm n.Cap.Cores).bind fun x1 =>
     some (! x1)).bind fun q =>
 bif q then
 some (s,1)
 else
 (df s n.Id).bind fun x2 =>
 (
  bif x2.2 then
  some x2.1.Up
  else
  some false).bind fun q1 =>
 bif q1 then
  some (s,7)
 else
  (
  bif ! x2.2 then
   some (decide ((s.Nodes.length : Int) ≥ 12))
  else
   some false).bind fun q2 =>
  bif q2 then
  some (s,4)
  else
  (f_ s (⟨n.Id,n.Label,n.Rack,⟨n.Cap.Mem,n.Cap.Cores⟩,s.Now,0,true⟩ : Node)).bind fun x3 =>
  some (x3,0)
theorem gr (s : State) (n : Node) : Lo (bL s n) (bi s n):=by
 unfold bL bi
 repeat' (first | with_reducible exact qi _ | with_reducible exact jB _ _ | with_reducible exact qQ _ _ | with_reducible refine aa ?_ ?_ ?_ ?_ ?_ | with_reducible refine ad ?_ ?_ ?_ ?_ | with_reducible refine ab ?_ ?_ ?_ | with_reducible refine af ?_ ?_ | with_reducible refine ai ?_ ?_ | with_reducible refine ak ?_ _ | (intro _) | with_reducible exact aj _ | exact ah | (dsimp only))
def dD (s : State) (id_ : Int) (t : App × Int) : Option ((App × Int) ⊕ ((App × Bool) ⊕ App)) :=
 bif decide (t.2 < (s.Apps.length : Int)) then
 (idx s.Apps t.2).bind fun x =>
 bif x.Id == id_ then
  (idx s.Apps t.2).bind fun x1 =>
  some (.inr (.inl (x1,true)))
 else
  some (.inl (t.1,w64 (t.2 + 1)))
 else
 some (.inr (.inr (t.1)))
theorem nQ (s : State) (id_ : Int) (t : App × Int) : Lo (dD s id_ t) (eH s id_ t):=by
 unfold dD eH
 repeat' (first | with_reducible refine aa ?_ ?_ ?_ ?_ ?_ | with_reducible refine ad ?_ ?_ ?_ ?_ | with_reducible refine ab ?_ ?_ ?_ | with_reducible refine af ?_ ?_ | with_reducible refine ai ?_ ?_ | with_reducible refine ak ?_ _ | (intro _) | with_reducible exact aj _ | exact ah | (dsimp only))
def cF (s : State) (id_ : Int) : Option (App × Bool) :=
 (itr 4096 (dD s id_) ((⟨0,0,[],0,0,⟨0,0⟩,[],0,0,[],[],[],[]⟩ : App),0)).bind fun q0 =>
 match q0 with
 | .inl q =>
 some (q.1,q.2)
 | .inr q1 =>
 some ((⟨0,0,[],0,0,⟨0,0⟩,[],0,0,[],[],[],[]⟩ : App),false)
theorem iX (s : State) (id_ : Int) : Lo (cF s id_) (bX s id_):=by
 unfold cF bX
 repeat' (first | with_reducible exact nQ _ _ _ | with_reducible refine aa ?_ ?_ ?_ ?_ ?_ | with_reducible refine ad ?_ ?_ ?_ ?_ | with_reducible refine ab ?_ ?_ ?_ | with_reducible refine af ?_ ?_ | with_reducible refine ai ?_ ?_ | with_reducible refine ak ?_ _ | (intro _) | with_reducible exact aj _ | exact ah | (dsimp only))
def cW (n : Int) : Option Bool :=
 bif decide (n ≥ 1) then
 some (decide (n ≤ 1073741824))
 else
 some false
theorem pm (n : Int) : Lo (cW n) (b_ n):=by
 unfold cW b_
 repeat' (first | with_reducible refine aa ?_ ?_ ?_ ?_ ?_ | with_reducible refine ad ?_ ?_ ?_ ?_ | with_reducible refine ab ?_ ?_ ?_ | with_reducible refine af ?_ ?_ | with_reducible refine ai ?_ ?_ | with_reducible refine ak ?_ _ | (intro _) | with_reducible exact aj _ | exact ah | (dsimp only))
def cO (a : App) : Option Bool :=
 bif a.State == 1 then
 some true
 else
 some (a.State == 2)
theorem iT (a : App) : Lo (cO a) (ce a):=by
 unfold cO ce
 repeat' (first | with_reducible refine aa ?_ ?_ ?_ ?_ ?_ | with_reducible refine ad ?_ ?_ ?_ ?_ | with_reducible refine ab ?_ ?_ ?_ | with_reducible refine af ?_ ?_ | with_reducible refine ai ?_ ?_ | with_reducible refine ak ?_ _ | (intro _) | with_reducible exact aj _ | exact ah | (dsimp only))
def d_ (c : Conf) (path : List UInt8) (t : Queue × Int) : Option ((Queue × Int) ⊕ ((Queue × Bool) ⊕ Queue)) :=
 bif decide (t.2 < (c.Queues.length : Int)) then
 (idx c.Queues t.2).bind fun x =>
 bif x.Path == path then
  (idx c.Queues t.2).bind fun x1 =>
  (app 16 [] x1.Caps).bind fun l =>
  some (.inr (.inl ((⟨x1.Path,l,x1.User⟩ : Queue),true)))
 else
  some (.inl (t.1,w64 (t.2 + 1)))
 else
 some (.inr (.inr (t.1)))
theorem n7 (c : Conf) (path : List UInt8) (t : Queue × Int) : Lo (d_ c path t) (eV c path t):=by
 unfold d_ eV
 repeat' (first | with_reducible refine aa ?_ ?_ ?_ ?_ ?_ | with_reducible refine ad ?_ ?_ ?_ ?_ | with_reducible refine ab ?_ ?_ ?_ | with_reducible refine af ?_ ?_ | with_reducible refine ai ?_ ?_ | with_reducible refine ak ?_ _ | (intro _) | with_reducible exact aj _ | exact ah | (dsimp only))
def fR (c : Conf) (path : List UInt8) : Option (Queue × Bool) :=
 (itr 4096 (d_ c path) ((⟨[],[],0⟩ : Queue),0)).bind fun q0 =>
 match q0 with
 | .inl q =>
 some (q.1,q.2)
 | .inr q1 =>
 some ((⟨[],[],0⟩ : Queue),false)
theorem qt (c : Conf) (path : List UInt8) : Lo (fR c path) (et c path):=by
 unfold fR et
 repeat' (first | with_reducible exact n7 _ _ _ | with_reducible refine aa ?_ ?_ ?_ ?_ ?_ | with_reducible refine ad ?_ ?_ ?_ ?_ | with_reducible refine ab ?_ ?_ ?_ | with_reducible refine af ?_ ?_ | with_reducible refine ai ?_ ?_ | with_reducible refine ak ?_ _ | (intro _) | with_reducible exact aj _ | exact ah | (dsimp only))
def dJ (path : List UInt8) (k1 : Int) : Option (Int ⊕ Int) :=
 (
 bif decide (k1 ≥ 0) then
  (idx path k1).bind fun ch =>
  some ((ch.toNat : Int) != 46)
 else
  some false).bind fun q =>
 bif q then
 some (.inl (w64 (k1 - 1)))
 else
 some (.inr k1)
theorem mW (path : List UInt8) (k1 : Int) : Lo (dJ path k1) (eN path k1):=by
 unfold dJ eN
 repeat' (first | with_reducible refine aa ?_ ?_ ?_ ?_ ?_ | with_reducible refine ad ?_ ?_ ?_ ?_ | with_reducible refine ab ?_ ?_ ?_ | with_reducible refine af ?_ ?_ | with_reducible refine ai ?_ ?_ | with_reducible refine ak ?_ _ | (intro _) | with_reducible exact aj _ | exact ah | (dsimp only))
def eT (path : List UInt8) : Option (List UInt8) :=
 let k:=w64 ((path.length : Int) - 1)
 (itr 4096 (dJ path) k).bind fun k2 =>
 bif decide (k2 < 0) then
 some ([] : List UInt8)
 else
 (slc path 0 k2).bind fun s =>
 some s
theorem pO (path : List UInt8) : Lo (eT path) (dP path):=by
 unfold eT dP
 repeat' (first | with_reducible exact mW _ _ | with_reducible refine aa ?_ ?_ ?_ ?_ ?_ | with_reducible refine ad ?_ ?_ ?_ ?_ | with_reducible refine ab ?_ ?_ ?_ | with_reducible refine af ?_ ?_ | with_reducible refine ai ?_ ?_ | with_reducible refine ak ?_ _ | (intro _) | with_reducible exact aj _ | exact ah | (dsimp only))
def dZ (c : Conf) (path : List UInt8) (t : List (List UInt8) × Int) : Option ((List (List UInt8) × Int) ⊕ List (List UInt8)) :=
 bif decide (t.2 < (c.Queues.length : Int)) then
 (
  (
  bif ! (path == ([] : List UInt8)) then
   (idx c.Queues t.2).bind fun x =>
   (eT x.Path).bind fun x1 =>
   some (x1 == path)
  else
   some false).bind fun q =>
  bif q then
  (idx c.Queues t.2).bind fun x2 =>
  (app 16 t.1 [x2.Path]).bind fun l =>
  some l
  else
  some t.1).bind fun l1 =>
 some (.inl (l1,w64 (t.2 + 1)))
 else
 some (.inr t.1)
theorem nY (c : Conf) (path : List UInt8) (t : List (List UInt8) × Int) : Lo (dZ c path t) (fp c path t):=by
 unfold dZ fp
 repeat' (first | with_reducible exact pO _ | with_reducible refine aa ?_ ?_ ?_ ?_ ?_ | with_reducible refine ad ?_ ?_ ?_ ?_ | with_reducible refine ab ?_ ?_ ?_ | with_reducible refine af ?_ ?_ | with_reducible refine ai ?_ ?_ | with_reducible refine ak ?_ _ | (intro _) | with_reducible exact aj _ | exact ah | (dsimp only))
def fJ (c : Conf) (path : List UInt8) : Option (List (List UInt8)) :=
 (itr 4096 (dZ c path) ([],0)).bind fun l2 =>
 some l2
theorem qd (c : Conf) (path : List UInt8) : Lo (fJ c path) (em c path):=by
 unfold fJ em
 repeat' (first | with_reducible exact nY _ _ _ | with_reducible refine aa ?_ ?_ ?_ ?_ ?_ | with_reducible refine ad ?_ ?_ ?_ ?_ | with_reducible refine ab ?_ ?_ ?_ | with_reducible refine af ?_ ?_ | with_reducible refine ai ?_ ?_ | with_reducible refine ak ?_ _ | (intro _) | with_reducible exact aj _ | exact ah | (dsimp only))
def fP (c : Conf) (path : List UInt8) : Option Bool :=
 (fR c path).bind fun x =>
 bif x.2 then
 (fJ c path).bind fun x1 =>
 some ((x1.length : Int) == 0)
 else
 some false
theorem pU (c : Conf) (path : List UInt8) : Lo (fP c path) (en c path):=by
 unfold fP en
 repeat' (first | with_reducible exact qt _ _ | with_reducible exact qd _ _ | with_reducible refine aa ?_ ?_ ?_ ?_ ?_ | with_reducible refine ad ?_ ?_ ?_ ?_ | with_reducible refine ab ?_ ?_ ?_ | with_reducible refine af ?_ ?_ | with_reducible refine ai ?_ ?_ | with_reducible refine ak ?_ _ | (intro _) | with_reducible exact aj _ | exact ah | (dsimp only))
def cP (s : State) (t : List App × Bool × Int) : Option ((List App × Bool × Int) ⊕ List App) :=
 bif decide (t.2.2 < (s.Apps.length : Int)) then
 (
  (
  bif ! t.2.1 then
   (idx s.Apps t.2.2).bind fun x =>
   (cO x).bind fun x1 =>
   some (! x1)
  else
   some false).bind fun q =>
  bif q then
  some (t.1,true)
  else
  (idx s.Apps t.2.2).bind fun x2 =>
  (app 200 t.1 [x2]).bind fun l =>
  some (l,t.2.1)).bind fun q1 =>
 some (.inl (q1.1,q1.2,w64 (t.2.2 + 1)))
 else
 some (.inr t.1)
theorem mj (s : State) (t : List App × Bool × Int) : Lo (cP s t) (dI s t):=by
 unfold cP dI
 repeat' (first | with_reducible exact iT _ | with_reducible refine aa ?_ ?_ ?_ ?_ ?_ | with_reducible refine ad ?_ ?_ ?_ ?_ | with_reducible refine ab ?_ ?_ ?_ | with_reducible refine af ?_ ?_ | with_reducible refine ai ?_ ?_ | with_reducible refine ak ?_ _ | (intro _) | with_reducible exact aj _ | exact ah | (dsimp only))
def d6 (s : State) : Option State :=
 (itr 4096 (cP s) ([],false,0)).bind fun l1 =>
 some (⟨⟨s.Conf.Labels,s.Conf.Queues⟩,s.Nodes,l1,s.Conts,s.Slots,s.Plans,s.Now,s.Epoch,s.Seq⟩ : State)
theorem nX (s : State) : Lo (d6 s) (cK s):=by
 unfold d6 cK
 repeat' (first | with_reducible exact mj _ _ | with_reducible refine aa ?_ ?_ ?_ ?_ ?_ | with_reducible refine ad ?_ ?_ ?_ ?_ | with_reducible refine ab ?_ ?_ ?_ | with_reducible refine af ?_ ?_ | with_reducible refine ai ?_ ?_ | with_reducible refine ak ?_ _ | (intro _) | with_reducible exact aj _ | exact ah | (dsimp only))
def d9 (s : State) (a : App) (k : Int) : Option (Int ⊕ Int) :=
 (
 bif decide (k < (s.Apps.length : Int)) then
  (idx s.Apps k).bind fun x =>
  some (decide (x.Id < a.Id))
 else
  some false).bind fun q =>
 bif q then
 some (.inl (w64 (k + 1)))
 else
 some (.inr k)
theorem nW (s : State) (a : App) (k : Int) : Lo (d9 s a k) (fd s a k):=by
 unfold d9 fd
 repeat' (first | with_reducible refine aa ?_ ?_ ?_ ?_ ?_ | with_reducible refine ad ?_ ?_ ?_ ?_ | with_reducible refine ab ?_ ?_ ?_ | with_reducible refine af ?_ ?_ | with_reducible refine ai ?_ ?_ | with_reducible refine ak ?_ _ | (intro _) | with_reducible exact aj _ | exact ah | (dsimp only))
def fT (s : State) (a : App) : Option State :=
 (itr 4096 (d9 s a) 0).bind fun k1 =>
 (slc s.Apps 0 k1).bind fun l =>
 (app 200 [] l).bind fun l1 =>
 (app 200 l1 [a]).bind fun l2 =>
 (
 (
  bif decide (k1 < (s.Apps.length : Int)) then
  (idx s.Apps k1).bind fun x1 =>
  some (x1.Id == a.Id)
  else
  some false).bind fun q1 =>
 bif q1 then
  some (w64 (k1 + 1))
 else
  some k1).bind fun k2 =>
 (slc s.Apps k2 (s.Apps.length : Int)).bind fun l3 =>
 (app 200 l2 l3).bind fun l4 =>
 some (⟨⟨s.Conf.Labels,s.Conf.Queues⟩,s.Nodes,l4,s.Conts,s.Slots,s.Plans,s.Now,s.Epoch,s.Seq⟩ : State)
theorem pY (s : State) (a : App) : Lo (fT s a) (ef s a):=by
 unfold fT ef
 repeat' (first | with_reducible exact nW _ _ _ | with_reducible refine aa ?_ ?_ ?_ ?_ ?_ | with_reducible refine ad ?_ ?_ ?_ ?_ | with_reducible refine ab ?_ ?_ ?_ | with_reducible refine af ?_ ?_ | with_reducible refine ai ?_ ?_ | with_reducible refine ak ?_ _ | (intro _) | with_reducible exact aj _ | exact ah | (dsimp only))
def eO (a : App) : Option (List Ask) :=
 some [(⟨0,0,⟨a.Master.Mem,a.Master.Cores⟩,1,(-1),(-1),0⟩ : Ask)]
theorem pe (a : App) : Lo (eO a) (dw a):=by
 unfold eO dw
 repeat' (first | with_reducible refine aa ?_ ?_ ?_ ?_ ?_ | with_reducible refine ad ?_ ?_ ?_ ?_ | with_reducible refine ab ?_ ?_ ?_ | with_reducible refine af ?_ ?_ | with_reducible refine ai ?_ ?_ | with_reducible refine ak ?_ _ | (intro _) | with_reducible exact aj _ | exact ah | (dsimp only))
def cN (s : State) (t : Int × Int) : Option ((Int × Int) ⊕ Int) :=
 bif decide (t.2 < (s.Apps.length : Int)) then
 (
  (idx s.Apps t.2).bind fun x3 =>
  (cO x3).bind fun x4 =>
  bif x4 then
  some (w64 (t.1 + 1))
  else
  some t.1).bind fun live =>
 some (.inl (live,w64 (t.2 + 1)))
 else
 some (.inr t.1)
theorem lW (s : State) (t : Int × Int) : Lo (cN s t) (dF s t):=by
 unfold cN dF
 repeat' (first | with_reducible exact iT _ | with_reducible refine aa ?_ ?_ ?_ ?_ ?_ | with_reducible refine ad ?_ ?_ ?_ ?_ | with_reducible refine ab ?_ ?_ ?_ | with_reducible refine af ?_ ?_ | with_reducible refine ai ?_ ?_ | with_reducible refine ak ?_ _ | (intro _) | with_reducible exact aj _ | exact ah | (dsimp only))
def d5 (s : State) (a : App) : Option (State × Int) :=
 (
 bif decide (a.Id < 0) then
  some true
 else
  bif decide (a.Id > 9999) then
  some true
  else
  bif decide (a.User < 0) then
   some true
  else
   bif decide (a.User > 99) then
   some true
   else
   bif decide (a.Prio < 0) then
    some true
   else
    bif decide (a.Prio > 9) then
    some true
    else
    (cW a.Master.Mem).bind fun x =>
    bif ! x then
     some true
    else
     (cW a.Master.Cores).bind fun x1 =>
     some (! x1)).bind fun q =>
 bif q then
 some (s,1)
 else
 (cF s a.Id).bind fun x2 =>
 bif x2.2 then
  some (s,7)
 else
  (itr 4096 (cN s) (0,0)).bind fun live1 =>
  bif decide (live1 ≥ 16) then
  some (s,4)
  else
  (fP s.Conf a.Queue).bind fun x5 =>
  bif ! x5 then
   some (s,19)
  else
   (
   bif decide ((s.Apps.length : Int) ≥ 16) then
    (d6 s).bind fun x6 =>
    some x6
   else
    some s).bind fun s1 =>
   (eO a).bind fun x7 =>
   (fT s1 (⟨a.Id,1,a.Queue,a.User,a.Prio,⟨a.Master.Mem,a.Master.Cores⟩,x7,s1.Now,0,[],[],[],[]⟩ : App)).bind fun x8 =>
   some (x8,0)
theorem nU (s : State) (a : App) : Lo (d5 s a) (cL s a):=by
 unfold d5 cL
 repeat' (first | with_reducible exact pm _ | with_reducible exact iX _ _ | with_reducible exact lW _ _ | with_reducible exact pU _ _ | with_reducible exact nX _ | with_reducible exact pe _ | with_reducible exact pY _ _ | with_reducible refine aa ?_ ?_ ?_ ?_ ?_ | with_reducible refine ad ?_ ?_ ?_ ?_ | with_reducible refine ab ?_ ?_ ?_ | with_reducible refine af ?_ ?_ | with_reducible refine ai ?_ ?_ | with_reducible refine ak ?_ _ | (intro _) | with_reducible exact aj _ | exact ah | (dsimp only))
def eM : Option Bool :=
 (dn).bind fun x =>
 (bL x (⟨1,0,0,⟨4,4⟩,0,0,false⟩ : Node)).bind fun x1 =>
 (d5 x1.1 (⟨7,0,([114,111,111,116] : List UInt8),0,0,⟨2,1⟩,[],0,0,[],[],[],[]⟩ : App)).bind fun x2 =>
 (bY x2.1 1).bind fun x3 =>
 (cF x3.1 7).bind fun x4 =>
 bif x3.2.1 == 1 then
 bif x3.2.2.Id == 1 then
  bif x3.2.2.Master then
  bif x3.2.2.App == 7 then
   bif x4.1.State == 2 then
   some ((x3.1.Conts.length : Int) == 1)
   else
   some false
  else
   some false
  else
  some false
 else
  some false
 else
 some false
theorem pa : Lo (eM) (dl):=by
 unfold eM dl
 repeat' (first | with_reducible exact jt  | with_reducible exact gr _ _ | with_reducible exact nU _ _ | with_reducible exact ma _ _ | with_reducible exact iX _ _ | with_reducible refine aa ?_ ?_ ?_ ?_ ?_ | with_reducible refine ad ?_ ?_ ?_ ?_ | with_reducible refine ab ?_ ?_ ?_ | with_reducible refine af ?_ ?_ | with_reducible refine ai ?_ ?_ | with_reducible refine ak ?_ _ | (intro _) | with_reducible exact aj _ | exact ah | (dsimp only))
def ba (at_ : Int) (n : Int) : Option Int :=
 (nz n).bind fun _ =>
 (
 bif decide ((Int.tmod at_ n) < 0) then
  let k:=w64 ((Int.tmod at_ n) + n)
  some k
 else
  some (Int.tmod at_ n)).bind fun k1 =>
 some k1
theorem gP (at_ : Int) (n : Int) : Lo (ba at_ n) (aA at_ n):=by
 unfold ba aA
 repeat' (first | with_reducible refine aa ?_ ?_ ?_ ?_ ?_ | with_reducible refine ad ?_ ?_ ?_ ?_ | with_reducible refine ab ?_ ?_ ?_ | with_reducible refine af ?_ ?_ | with_reducible refine ai ?_ ?_ | with_reducible refine ak ?_ _ | (intro _) | with_reducible exact aj _ | exact ah | (dsimp only))
def d8 (racks : List Int) (units : Int) (t : State × Int) : Option ((State × Int) ⊕ State) :=
 bif decide (t.2 < (racks.length : Int)) then
 (idx racks t.2).bind fun x2 =>
 (bL t.1 (⟨t.2,0,x2,⟨units,units⟩,0,0,false⟩ : Node)).bind fun x3 =>
 some (.inl (x3.1,w64 (t.2 + 1)))
 else
 some (.inr t.1)
theorem nZ (racks : List Int) (units : Int) (t : State × Int) : Lo (d8 racks units t) (eZ racks units t):=by
 unfold d8 eZ
 repeat' (first | with_reducible exact gr _ _ | with_reducible refine aa ?_ ?_ ?_ ?_ ?_ | with_reducible refine ad ?_ ?_ ?_ ?_ | with_reducible refine ab ?_ ?_ ?_ | with_reducible refine af ?_ ?_ | with_reducible refine ai ?_ ?_ | with_reducible refine ak ?_ _ | (intro _) | with_reducible exact aj _ | exact ah | (dsimp only))
def fK (racks : List Int) (units : Int) (x : Ask) : Option State :=
 (dn).bind fun x1 =>
 (itr 4096 (d8 racks units) (x1,0)).bind fun s =>
 some (⟨⟨s.Conf.Labels,s.Conf.Queues⟩,s.Nodes,[(⟨5,2,([114,111,111,116] : List UInt8),0,0,⟨1,1⟩,[x],0,0,[],[],[],[]⟩ : App)],[(⟨1,5,0,⟨1,1⟩,0,0,true,0⟩ : Cont)],s.Slots,s.Plans,s.Now,s.Epoch,1⟩ : State)
theorem p8 (racks : List Int) (units : Int) (x : Ask) : Lo (fK racks units x) (ep racks units x):=by
 unfold fK ep
 repeat' (first | with_reducible exact jt  | with_reducible exact nZ _ _ _ | with_reducible refine aa ?_ ?_ ?_ ?_ ?_ | with_reducible refine ad ?_ ?_ ?_ ?_ | with_reducible refine ab ?_ ?_ ?_ | with_reducible refine af ?_ ?_ | with_reducible refine ai ?_ ?_ | with_reducible refine ak ?_ _ | (intro _) | with_reducible exact aj _ | exact ah | (dsimp only))
def dA (s : State) (id_ : Int) (t : List Cont × Int) : Option ((List Cont × Int) ⊕ List Cont) :=
 bif decide (t.2 < (s.Conts.length : Int)) then
 (
  (idx s.Conts t.2).bind fun x =>
  bif x.Id != id_ then
  (idx s.Conts t.2).bind fun x1 =>
  (app 72 t.1 [x1]).bind fun l =>
  some l
  else
  some t.1).bind fun l1 =>
 some (.inl (l1,w64 (t.2 + 1)))
 else
 some (.inr t.1)
theorem mU (s : State) (id_ : Int) (t : List Cont × Int) : Lo (dA s id_ t) (eI s id_ t):=by
 unfold dA eI
 repeat' (first | with_reducible refine aa ?_ ?_ ?_ ?_ ?_ | with_reducible refine ad ?_ ?_ ?_ ?_ | with_reducible refine ab ?_ ?_ ?_ | with_reducible refine af ?_ ?_ | with_reducible refine ai ?_ ?_ | with_reducible refine ak ?_ _ | (intro _) | with_reducible exact aj _ | exact ah | (dsimp only))
def cI (s : State) (id_ : Int) : Option State :=
 (itr 4096 (dA s id_) ([],0)).bind fun l2 =>
 some (⟨⟨s.Conf.Labels,s.Conf.Queues⟩,s.Nodes,s.Apps,l2,s.Slots,s.Plans,s.Now,s.Epoch,s.Seq⟩ : State)
theorem pE (s : State) (id_ : Int) : Lo (cI s id_) (bZ s id_):=by
 unfold cI bZ
 repeat' (first | with_reducible exact mU _ _ _ | with_reducible refine aa ?_ ?_ ?_ ?_ ?_ | with_reducible refine ad ?_ ?_ ?_ ?_ | with_reducible refine ab ?_ ?_ ?_ | with_reducible refine af ?_ ?_ | with_reducible refine ai ?_ ?_ | with_reducible refine ak ?_ _ | (intro _) | with_reducible exact aj _ | exact ah | (dsimp only))
def fQ (a : Vec) (b : Vec) : Option Vec :=
 some (⟨imax (w64 (a.Mem - b.Mem)) 0,imax (w64 (a.Cores - b.Cores)) 0⟩ : Vec)
theorem qD (a : Vec) (b : Vec) : Lo (fQ a b) (eg a b):=by
 unfold fQ eg
 repeat' (first | with_reducible refine aa ?_ ?_ ?_ ?_ ?_ | with_reducible refine ad ?_ ?_ ?_ ?_ | with_reducible refine ab ?_ ?_ ?_ | with_reducible refine af ?_ ?_ | with_reducible refine ai ?_ ?_ | with_reducible refine ak ?_ _ | (intro _) | with_reducible exact aj _ | exact ah | (dsimp only))
def fS (a : Vec) (b : Vec) : Option Vec :=
 some (⟨w64 (a.Mem + b.Mem),w64 (a.Cores + b.Cores)⟩ : Vec)
theorem qb (a : Vec) (b : Vec) : Lo (fS a b) (eo a b):=by
 unfold fS eo
 repeat' (first | with_reducible refine aa ?_ ?_ ?_ ?_ ?_ | with_reducible refine ad ?_ ?_ ?_ ?_ | with_reducible refine ab ?_ ?_ ?_ | with_reducible refine af ?_ ?_ | with_reducible refine ai ?_ ?_ | with_reducible refine ak ?_ _ | (intro _) | with_reducible exact aj _ | exact ah | (dsimp only))
def d4 (s : State) (id_ : Int) (t : Vec × Int) : Option ((Vec × Int) ⊕ Vec) :=
 bif decide (t.2 < (s.Conts.length : Int)) then
 (
  (idx s.Conts t.2).bind fun x =>
  bif x.Node == id_ then
  (idx s.Conts t.2).bind fun x1 =>
  (fS t.1 x1.Size).bind fun x2 =>
  some x2
  else
  some t.1).bind fun v =>
 some (.inl (v,w64 (t.2 + 1)))
 else
 some (.inr t.1)
theorem nT (s : State) (id_ : Int) (t : Vec × Int) : Lo (d4 s id_ t) (fb s id_ t):=by
 unfold d4 fb
 repeat' (first | with_reducible exact qb _ _ | with_reducible refine aa ?_ ?_ ?_ ?_ ?_ | with_reducible refine ad ?_ ?_ ?_ ?_ | with_reducible refine ab ?_ ?_ ?_ | with_reducible refine af ?_ ?_ | with_reducible refine ai ?_ ?_ | with_reducible refine ak ?_ _ | (intro _) | with_reducible exact aj _ | exact ah | (dsimp only))
def fM (s : State) (id_ : Int) : Option Vec :=
 (itr 4096 (d4 s id_) ((⟨0,0⟩ : Vec),0)).bind fun v1 =>
 some v1
theorem qy (s : State) (id_ : Int) : Lo (fM s id_) (eu s id_):=by
 unfold fM eu
 repeat' (first | with_reducible exact nT _ _ _ | with_reducible refine aa ?_ ?_ ?_ ?_ ?_ | with_reducible refine ad ?_ ?_ ?_ ?_ | with_reducible refine ab ?_ ?_ ?_ | with_reducible refine af ?_ ?_ | with_reducible refine ai ?_ ?_ | with_reducible refine ak ?_ _ | (intro _) | with_reducible exact aj _ | exact ah | (dsimp only))
def dv (s : State) (id_ : Int) : Option Vec :=
 (df s id_).bind fun x =>
 (
 bif ! x.2 then
  some true
 else
  some (! x.1.Up)).bind fun q =>
 bif q then
 some (⟨0,0⟩ : Vec)
 else
 (fM s id_).bind fun x1 =>
 (fQ x.1.Cap x1).bind fun x2 =>
 some x2
theorem qf (s : State) (id_ : Int) : Lo (dv s id_) (cx s id_):=by
 unfold dv cx
 repeat' (first | with_reducible exact jB _ _ | with_reducible exact qy _ _ | with_reducible exact qD _ _ | with_reducible refine aa ?_ ?_ ?_ ?_ ?_ | with_reducible refine ad ?_ ?_ ?_ ?_ | with_reducible refine ab ?_ ?_ ?_ | with_reducible refine af ?_ ?_ | with_reducible refine ai ?_ ?_ | with_reducible refine ak ?_ _ | (intro _) | with_reducible exact aj _ | exact ah | (dsimp only))
def bE (waits : Int) (t : State × State × Int) : Option ((State × State × Int) ⊕ (Bool ⊕ (State × State))) :=
 (ba waits 4).bind fun x11 =>
 bif decide (t.2.2 < (w64 (2 + x11))) then
 (bY t.1 0).bind fun x12 =>
 (
  bif t.2.2 == 0 then
  some 2
  else
  some 3).bind fun want1 =>
 (
  bif x12.2.1 != want1 then
  some true
  else
  bif (x12.1.Slots.length : Int) != 1 then
   some true
  else
   (inb 0 x12.1.Slots.length).bind fun i4 =>
   (x12.1.Slots[i4]?).bind fun x13 =>
   some (! ((x13.Node == 0) && ((x13.App == 5) && (x13.Prio == 1))))).bind fun q1 =>
 bif q1 then
  some (.inr (.inl false))
 else
  some (.inl (x12.1,x12.1,w64 (t.2.2 + 1)))
 else
 some (.inr (.inr (t.1,t.2.1)))
theorem iZ (waits : Int) (t : State × State × Int) : Lo (bE waits t) (aG waits t):=by
 unfold bE aG
 repeat' (first | with_reducible exact gP _ _ | with_reducible exact ma _ _ | with_reducible refine aa ?_ ?_ ?_ ?_ ?_ | with_reducible refine ad ?_ ?_ ?_ ?_ | with_reducible refine ab ?_ ?_ ?_ | with_reducible refine af ?_ ?_ | with_reducible refine ai ?_ ?_ | with_reducible refine ak ?_ _ | (intro _) | with_reducible exact aj _ | exact ah | (dsimp only))
def au (units : Int) (waits : Int) : Option Bool :=
 (eM).bind fun x =>
 bif ! x then
 some false
 else
 (ba units 10).bind fun x1 =>
 (fK [0] (w64 (4 + x1)) (⟨1,0,⟨w64 ((w64 (4 + x1)) - 1),1⟩,1,(-1),(-1),0⟩ : Ask)).bind fun x2 =>
 (app 72 x2.Conts [(⟨2,5,0,⟨1,1⟩,0,0,false,0⟩ : Cont)]).bind fun l =>
 (bY (⟨⟨x2.Conf.Labels,x2.Conf.Queues⟩,x2.Nodes,x2.Apps,l,x2.Slots,x2.Plans,x2.Now,x2.Epoch,3⟩ : State) 0).bind fun x3 =>
 bif x3.2.1 != 0 then
  some false
 else
  bif (x3.1.Slots.length : Int) != 0 then
  some false
  else
  (inb 0 x2.Apps.length).bind fun i =>
  (x2.Apps[i]?).bind fun x4 =>
  (x2.Apps[i]?).bind fun x5 =>
  (inb 0 x5.Asks.length).bind fun i1 =>
  (x2.Apps[i]?).bind fun x6 =>
  (x6.Asks[i1]?).bind fun y =>
  (inb 1 l.length).bind fun i2 =>
  (l[i2]?).bind fun x7 =>
  (app 64 [] x2.Nodes).bind fun l1 =>
  (app 64 l1 [(⟨1,0,0,⟨1,1⟩,0,0,true⟩ : Node)]).bind fun l2 =>
  (app 72 (List.set l i2 (⟨x7.Id,x7.App,x7.Node,⟨1,x7.Size.Cores⟩,x7.Prio,x7.Label,x7.Master,x7.Notice⟩ : Cont)) [(⟨3,5,0,⟨1,1⟩,0,0,false,0⟩ : Cont)]).bind fun l3 =>
  (ba waits 4).bind fun x8 =>
  bif decide (0 < (w64 (2 + x8))) then
   (bY (⟨⟨x2.Conf.Labels,x2.Conf.Queues⟩,l2,List.set x2.Apps i (⟨x6.Id,x6.State,x6.Queue,x6.User,x6.Prio,⟨x6.Master.Mem,x6.Master.Cores⟩,List.set x6.Asks i1 (⟨y.Prio,y.Label,⟨w64 ((w64 (4 + x1)) - 2),y.Size.Cores⟩,y.Count,y.Node,y.Rack,y.Missed⟩ : Ask),x6.Seen,x6.Beat,x6.Grants,x6.Kills,x6.Told,x6.Lost⟩ : App),l3,x2.Slots,x2.Plans,x2.Now,x2.Epoch,3⟩ : State) 0).bind fun x9 =>
   (
   bif 0 == 0 then
    some 2
   else
    some 3).bind fun want =>
   (
   bif x9.2.1 != want then
    some true
   else
    bif (x9.1.Slots.length : Int) != 1 then
    some true
    else
    (inb 0 x9.1.Slots.length).bind fun i3 =>
    (x9.1.Slots[i3]?).bind fun x10 =>
    some (! ((x10.Node == 0) && ((x10.App == 5) && (x10.Prio == 1))))).bind fun q =>
   bif q then
   some false
   else
   (itr 4096 (bE waits) (x9.1,x9.1,w64 (0 + 1))).bind fun q0 =>
   match q0 with
   | .inl q2 =>
    some q2
   | .inr q3 =>
    (cI q3.1 3).bind fun x17 =>
    (bY x17 0).bind fun x18 =>
    bif x18.2.1 == 1 then
    bif x18.2.2.Size.Mem == (w64 ((w64 (4 + x1)) - 2)) then
     bif (x18.1.Slots.length : Int) == 0 then
     (dv x18.1 0).bind fun x19 =>
     some (x19.Mem == 0)
     else
     some false
    else
     some false
    else
    some false
  else
   (cI (⟨⟨x2.Conf.Labels,x2.Conf.Queues⟩,l2,List.set x2.Apps i (⟨x6.Id,x6.State,x6.Queue,x6.User,x6.Prio,⟨x6.Master.Mem,x6.Master.Cores⟩,List.set x6.Asks i1 (⟨y.Prio,y.Label,⟨w64 ((w64 (4 + x1)) - 2),y.Size.Cores⟩,y.Count,y.Node,y.Rack,y.Missed⟩ : Ask),x6.Seen,x6.Beat,x6.Grants,x6.Kills,x6.Told,x6.Lost⟩ : App),l3,x2.Slots,x2.Plans,x2.Now,x2.Epoch,3⟩ : State) 3).bind fun x14 =>
   (bY x14 0).bind fun x15 =>
   bif x15.2.1 == 1 then
   bif x15.2.2.Size.Mem == (w64 ((w64 (4 + x1)) - 2)) then
    bif (x15.1.Slots.length : Int) == 0 then
    (dv x15.1 0).bind fun x16 =>
    some (x16.Mem == 0)
    else
    some false
   else
    some false
   else
   some false
theorem kf (units : Int) (waits : Int) : Lo (au units waits) (az units waits):=by
 unfold au az
 repeat' (first | with_reducible exact pa  | with_reducible exact gP _ _ | with_reducible exact p8 _ _ _ | with_reducible exact ma _ _ | with_reducible exact iZ _ _ | with_reducible exact pE _ _ | with_reducible exact qf _ _ | with_reducible refine aa ?_ ?_ ?_ ?_ ?_ | with_reducible refine ad ?_ ?_ ?_ ?_ | with_reducible refine ab ?_ ?_ ?_ | with_reducible refine af ?_ ?_ | with_reducible refine ai ?_ ?_ | with_reducible refine ak ?_ _ | (intro _) | with_reducible exact aj _ | exact ah | (dsimp only))
end Go.Fx.D
