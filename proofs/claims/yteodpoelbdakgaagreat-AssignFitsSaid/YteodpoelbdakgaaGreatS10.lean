/-
  The reference manager: what holds of its state after every script. Conditions: none.
-/
import Derived.Test.YteodpoelbdakgaaGreatS9
namespace Go.Fx.D
open Go Go.Fx
set_option linter.unusedVariables false
set_option linter.unusedSimpArgs false
theorem uK {α : Type} [Inhabited α] {m : Option α} (h : Gv m fun _ => True) (z : α) : m = some (m.getD z):=by
 obtain ⟨a,rfl,_⟩:=h
 rfl
theorem vU (x y : Frac) : Gv (bn x y) fun _ => True:=by
 unfold bn
 repeat' (first | exact ⟨_,rfl,trivial⟩ | refine ae (fun _ => ?_) (fun _ => ?_) | refine ad (P:=fun _ => True) ?_ (fun _ _ => ?_))
theorem yU (a p : Vec) : Gv (b7 a p) fun _ => True:=by
 unfold b7
 refine ad (vU _ _) fun _ _ => ?_
 repeat' (first | exact ⟨_,rfl,trivial⟩ | refine ae (fun _ => ?_) (fun _ => ?_))
theorem DG (a p b q : Vec) : Gv (br a p b q) fun _ => True:=by
 unfold br
 refine ad (P:=fun _ => True) ?_ fun _ _ => ae (fun _ => aa trivial) (fun _ => ?_)
 ·rw [pO,pO,pO,pO]
  repeat' (first | exact ⟨_,rfl,trivial⟩ | refine ae (fun _ => ?_) (fun _ => ?_) | refine ad (P:=fun _ => True) ?_ (fun _ _ => ?_))
 ·exact ad (yU _ _) fun _ _ => ad (yU _ _) fun _ _ => ad (vU _ _) fun _ _ => aa trivial
def pOrder (a p b q : Vec) : Int:=(br a p b q).getD 0
theorem wF (a p b q : Vec) : br a p b q = some (pOrder a p b q):=uK (DG a p b q) 0
def e_ (s : State) (a b : Str) (label : Int) : Bool :=
 let o:=pOrder (pUsed s a label true 0) (pDown s a label true) (pUsed s b label true 0) (pDown s b label true)
 decide (o < 0) || (o == 0 && Op.bytesLess a b)
theorem Et {s : State} (h : SC s) {a b : Str} (ha : a.length ≤ 1000000) (hb : b.length ≤ 1000000) (label : Int) : iz s a b label = some (e_ s a b label):=by
 unfold iz e_
 rw [kw h.b,Gp,m9 h ha,Gp,kw h.b,Gp,m9 h hb,Gp,wF,Gp]
 dsimp only
 generalize pOrder _ _ _ _ = o
 cases decide (o < 0) <;> cases (o == 0) <;> rfl
def insB {α : Type} (f : α → α → Bool) (out : List α) (x : α) : List α:=(out.takeWhile fun y => !f x y) ++ x :: out.dropWhile fun y => !f x y
theorem xk {α : Type} (f : α → α → Bool) (out : List α) (x : α) : (insB f out x).length = out.length + 1:=by
 unfold insB
 have:=congrArg List.length (List.takeWhile_append_dropWhile (p:=fun y => !f x y) (l:=out))
 rw [Gs] at this ⊢
 rw [List.length_cons]
 omega
theorem vA {α : Type} (f : α → α → Bool) (out : List α) (x : α) : (insB f out x).Perm (x :: out):=by
 unfold insB
 refine List.perm_middle.trans ?_
 rw [List.takeWhile_append_dropWhile]
theorem qv {α : Type} {f : α → α → Bool} {out : List α} {x y : α} : y ∈ insB f out x ↔ y = x ∨ y ∈ out:=by
 rw [(vA f out x).mem_iff,List.mem_cons]
def pOKids (s : State) (path : Str) (label : Int) : List Str:=(pKids s.Conf path).foldl (insB fun a b => e_ s a b label) []
theorem qd {α : Type} (f : α → α → Bool) : ∀ (l out : List α),(l.foldl (insB f) out).Perm (l.reverse ++ out)
 | [],out => .refl _
 | x :: l,out => by
  rw [List.foldl_cons,List.reverse_cons,List.append_assoc]
  exact (qd f l _).trans (List.Perm.append_left _ (vA f out x))
theorem nh {α : Type} (f : α → α → Bool) (l : List α) : (l.foldl (insB f) []).Perm l:=by
 have:=qd f l []
 rw [List.append_nil] at this
 exact this.trans l.reverse_perm
theorem kD (s : State) (path : Str) (label : Int) : (pOKids s path label).Perm (pKids s.Conf path):=nh _ _
theorem kT {c : Conf} (h : ConfOk c) {q : Queue} (hq : q ∈ c.Queues) : PathOk q.Path:=by
 obtain ⟨i,hi,rfl⟩:=List.getElem_of_mem hq
 exact (h.q i hi).path
theorem BE {c : Conf} (h : ConfOk c) {p x : Str} (hx : x ∈ pKids c p) : PathOk x:=by
 obtain ⟨_,q,hq,rfl,_⟩:=fh hx
 exact kT h hq
theorem wl {s : State} (h : SC s) (path : Str) (label : Int) : ji s path label = some (pOKids s path label):=by
 unfold ji
 rw [m_ h.b.cf,Gp]
 have hkl:=kW s.Conf path
 have hq:=h.c.qs
 have e:=(dD (fun (out : List Str) i => (out,i)) (pKids s.Conf path) (insB fun a b => e_ s a b label) (fun k out => out.length = k ∧ ∀ y ∈ out,y.length ≤ 1000000) (fun out => out)
  (step:=fL s label (pKids s.Conf path)) (by omega) ?_ ?_ (s:=[]) ⟨rfl,by simp⟩).1
 ·rw [e,Gp]; rfl
 ·rintro k hk out ⟨hl,hm⟩
  have hx : ((pKids s.Conf path)[k]).length ≤ 1000000:=by
   have:=(BE h.c (List.getElem_mem hk)).len
   omega
  refine ⟨?_,by rw [xk,hl],fun y hy => ?_⟩
  ·unfold fL
   rw [ah hk,cond_true]
   have ew:=gE out (fun y => !e_ s (pKids s.Conf path)[k] y label) (step:=fI s label (pKids s.Conf path) (out,(k : Int))) (by omega) ?_ ?_
   ·have htw:=jP (fun y => !e_ s (pKids s.Conf path)[k] y label) out
    obtain ⟨t1,t2⟩:=kR (fun y => !e_ s (pKids s.Conf path)[k] y label) out
    rw [ew,Gp]
    generalize hn : (out.takeWhile fun y => !e_ s (pKids s.Conf path)[k] y label).length = n at htw t1 t2 ⊢
    have hdw : (out.dropWhile fun y => !e_ s (pKids s.Conf path)[k] y label).length = out.length - n:=by rw [← t2,List.length_drop]
    have i1 : inS 0 (n : Int) out.length = some (0,n):=by unfold inS; rw [if_pos ⟨by omega,by omega,by omega⟩]; simp
    have i2 : inS (n : Int) (out.length : Int) out.length = some (n,out.length - n):=by unfold inS; rw [if_pos ⟨by omega,by omega,by omega⟩]; simp
    have s1 : sub out 0 n = out.takeWhile fun y => !e_ s (pKids s.Conf path)[k] y label:=by unfold sub; rw [List.drop_zero,t1]
    have s2 : sub out n (out.length - n) = out.dropWhile fun y => !e_ s (pKids s.Conf path)[k] y label:=by unfold sub; rw [List.take_of_length_le (by rw [List.length_drop]; exact Nat.le_refl _),t2]
    simp only [i1,i2,Gp,s1,s2]
    rw [am (by simp; omega) (by omega),Gp,ay hk,Gp,Gq hk,Gp,am (by simp; omega) (by omega),Gp,
     am (by simp; omega) (by omega),Gp]
    simp only [List.nil_append,List.append_assoc,List.singleton_append]
    rfl
   ·intro j hj
    unfold fI
    dsimp only
    rw [ah hj,cond_true,ay hk,Gp,Gq hk,Gp,ay hj,Gp,Gq hj,Gp,
     Et h hx (hm _ (List.getElem_mem hj)),Gp,Gp]
    cases e_ s (pKids s.Conf path)[k] out[j] label <;> rfl
   ·unfold fI
    dsimp only
    rw [ao]
    rfl
  ·rcases qv.1 hy with rfl | hy
   ·exact hx
   ·exact hm y hy
 ·rintro out _
  unfold fL
  rw [ao]
  rfl
def pLeavesN : Nat → State → Str → Int → List Str
 | 0,_,path,_ => [path]
 | d + 1,s,path,label => if pKids s.Conf path = [] then [path] else (pOKids s path label).flatMap fun x => pLeavesN d s x label
theorem yf {α : Type} {p : α → Bool} {x : α} : ∀ {l : List α},x ∈ l.takeWhile p → p x = true
 | [],h => by simp at h
 | y :: l,h => by
  rw [List.takeWhile_cons] at h
  split at h
  ·rename_i hy
   rcases List.mem_cons.1 h with rfl | h
   ·exact hy
   ·exact yf h
  ·simp at h
theorem g9 {x p : Str} (hp : p ≠ []) (h : aR x = p) : x.count 46 = p.count 46 + 1:=by
 subst h
 have hd:=List.takeWhile_append_dropWhile (p:=fun y : UInt8 => y != 46) (l:=x.reverse)
 cases he : x.reverse.dropWhile (· != 46) with
 | nil => exact absurd (by unfold aR; rw [he]; rfl) hp
 | cons y r =>
  have hy : y = 46:=by
   have:=List.head?_dropWhile_not (fun y : UInt8 => y != 46) x.reverse
   rw [he] at this
   simpa using this
  subst hy
  have h1 : (x.reverse.takeWhile fun y => y != 46).count 46 = 0:=by
   rw [List.count_eq_zero]
   intro hm
   have:=yf hm
   simp at this
  have h2 : x.count 46 = x.reverse.count 46:=(List.count_reverse).symm
  rw [h2,← hd,List.count_append,h1,he]
  unfold aR
  rw [he]
  simp
theorem qw {s : State} (h : SC s) (label : Int) : ∀ (d n : Nat) (path : Str),3 ≤ path.count 46 + d → d ≤ n → d ≤ 3 →
  bf (n + 1) s path label = some (pLeavesN d s path label) ∧ (pLeavesN d s path label).length ≤ 16 ^ d:=by
 intro d
 induction d with
 | zero =>
  intro n path hc _ _
  have hk : pKids s.Conf path = []:=by
   cases hk : pKids s.Conf path with
   | nil => rfl
   | cons x l =>
    have hx : x ∈ pKids s.Conf path:=by rw [hk]; simp
    obtain ⟨hp,q,hq,rfl,ha⟩:=fh hx
    have h1:=g9 hp ha
    have h2:=(kT h.c hq).deep
    omega
  refine ⟨?_,by simp [pLeavesN]⟩
  show cu _ s path label = _
  unfold cu
  have hp : pOKids s path label = []:=by have:=kD s path label; rw [hk] at this; exact this.eq_nil
  rw [wl h,Gp,hp]
  rfl
 | succ d ih =>
  intro n path hc hn hd3
  obtain ⟨n,rfl⟩ : ∃ m,n = m + 1:=⟨n - 1,by omega⟩
  have hperm:=kD s path label
  have hlen:=hperm.length_eq
  have hkl:=kW s.Conf path
  have hq:=h.c.qs
  have e0 : (pKids s.Conf path = []) ↔ pOKids s path label = []:=⟨fun e => by rw [e] at hperm; exact hperm.eq_nil,fun e => by rw [e] at hperm; exact hperm.symm.eq_nil⟩
  have hkid : ∀ x ∈ pOKids s path label,bf (n + 1) s x label = some (pLeavesN d s x label) ∧ (pLeavesN d s x label).length ≤ 16 ^ d:=by
   intro x hx
   obtain ⟨hp,q,hq',rfl,ha⟩:=fh (hperm.mem_iff.1 hx)
   have h1:=g9 hp ha
   exact ih n q.Path (by omega) (by omega) (by omega)
  have hfl : ∀ (l : List Str),(∀ x ∈ l,(pLeavesN d s x label).length ≤ 16 ^ d) → (l.flatMap fun x => pLeavesN d s x label).length ≤ l.length * 16 ^ d:=by
   intro l
   induction l with
   | nil => intro _; simp
   | cons x l ihl =>
    intro hh
    have h1:=hh x (by simp)
    have h2:=ihl (fun y hy => hh y (by simp [hy]))
    rw [List.flatMap_cons,Gs,List.length_cons,Nat.succ_mul]
    omega
  refine ⟨?_,?_⟩
  ·show cu (bf (n + 1)) s path label = _
   unfold cu
   rw [wl h,Gp]
   unfold pLeavesN
   by_cases hk : pKids s.Conf path = []
   ·rw [if_pos hk,e0.1 hk]; rfl
   ·rw [if_neg hk]
    have hne : pOKids s path label ≠ []:=fun e => hk (e0.2 e)
    have hpos : 0 < (pOKids s path label).length:=List.length_pos_iff.2 hne
    have e1 : (((pOKids s path label).length : Int) == 0) = false:=by
     rw [beq_eq_false_iff_ne]; omega
    rw [e1,cond_false]
    have hpow : 16 ^ d ≤ 16 ^ 3:=Nat.pow_le_pow_right (by omega) (by omega)
    have e:=(dD (fun (out : List Str) i => (out,i)) (pOKids s path label) (fun out x => out ++ pLeavesN d s x label) (fun k out => out.length ≤ k * 16 ^ d) (fun out => out)
     (step:=cY s label (bf (n + 1)) (pOKids s path label)) (by omega) ?_ ?_ (s:=[]) (by simp)).1
    ·rw [e,Gp]
     have gen : ∀ (l z : List Str),l.foldl (fun out x => out ++ pLeavesN d s x label) z = z ++ l.flatMap fun x => pLeavesN d s x label:=by
      intro l
      induction l with
      | nil => intro z; simp
      | cons x l ihl => intro z; rw [List.foldl_cons,ihl,List.flatMap_cons,List.append_assoc]
     rw [gen]
     rfl
    ·intro k hk out ho
     obtain ⟨k1,k2⟩:=hkid _ (List.getElem_mem hk)
     have hmul : k * 16 ^ d ≤ 16 * 16 ^ 3:=Nat.mul_le_mul (by omega) hpow
     refine ⟨?_,by rw [Gs,Nat.succ_mul]; omega⟩
     unfold cY
     rw [ah hk,cond_true]
     dsimp only
     rw [ay hk,Gp,Gq hk,Gp,k1,Gp,am (by omega) (by omega),Gp]
    ·intro out _
     unfold cY
     rw [ao]
     rfl
  ·unfold pLeavesN
   split
   ·simp; exact Nat.one_le_pow _ _ (by omega)
   ·have:=hfl _ (fun x hx => (hkid x hx).2)
    have h2 : (pOKids s path label).length * 16 ^ d ≤ 16 * 16 ^ d:=Nat.mul_le_mul_right _ (by omega)
    rw [Nat.pow_succ,Nat.mul_comm (16 ^ d)]
    omega
def bB (s : State) (label : Int) : List Str:=pLeavesN 3 s root label
theorem pA {s : State} (h : SC s) (label : Int) : gR s label = some (bB s label):=by
 unfold gR j8
 rw [(qw h label 3 63 root (by decide) (by omega) (by omega)).1]
 rfl
theorem qD {s : State} (h : SC s) (label : Int) : (bB s label).length ≤ 4096:=(qw h label 3 63 root (by decide) (by omega) (by omega)).2
theorem wa {s : State} (h : SC s) (label : Int) : ∀ (d : Nat) (path : Str),3 ≤ path.count 46 + d → (pFind s.Conf path).isSome = true → ∀ x ∈ pLeavesN d s path label,pLeaf s.Conf x = true:=by
 intro d
 induction d with
 | zero =>
  intro path hc hf x hx
  have hx : x = path:=by simpa [pLeavesN] using hx
  subst hx
  have hk : pKids s.Conf x = []:=by
   cases hk : pKids s.Conf x with
   | nil => rfl
   | cons y l =>
    have hy : y ∈ pKids s.Conf x:=by rw [hk]; simp
    obtain ⟨hp,q,hq,rfl,ha⟩:=fh hy
    have h1:=g9 hp ha
    have h2:=(kT h.c hq).deep
    omega
  unfold pLeaf
  rw [hf,hk]
  rfl
 | succ d ih =>
  intro path hc hf x hx
  unfold pLeavesN at hx
  split at hx
  ·rename_i hk
   have hx : x = path:=by simpa using hx
   subst hx
   unfold pLeaf
   rw [hf,hk]
   rfl
  ·obtain ⟨y,hy,hx⟩:=List.mem_flatMap.1 hx
   obtain ⟨hp,q,hq,rfl,ha⟩:=fh ((kD s path label).mem_iff.1 hy)
   have h1:=g9 hp ha
   obtain ⟨q',e,_⟩:=o_ hq
   exact ih q.Path (by omega) (by rw [e]; rfl) x hx
theorem qB {c : Conf} (h : ConfOk c) : (pFind c root).isSome = true:=by
 obtain ⟨q,h1,h2,_⟩:=h.root
 have hq : q ∈ c.Queues:=List.mem_of_getElem? h1
 obtain ⟨q',e,_⟩:=o_ hq
 rw [← h2,e]; rfl
theorem sO {s : State} (h : SC s) (label : Int) {x : Str} (hx : x ∈ bB s label) : pLeaf s.Conf x = true:=wa h label 3 root (by decide) (qB h.c) x hx
theorem pg {c : Conf} (h : ConfOk c) {x : Str} (hx : pLeaf c x = true) : PathOk x:=by
 unfold pLeaf at hx
 simp only [Bool.and_eq_true] at hx
 cases hf : pFind c x with
 | none => rw [hf] at hx; simp at hx
 | some q =>
  obtain ⟨h1,h2⟩:=kZ hf
  rw [← h2]
  exact kT h h1
def pLive (a : App) : Bool:=a.State == 1 || a.State == 2
def pV (out : List App) (x : App) : List App:=insB (fun x y => !decide (y.Prio ≥ x.Prio)) out x
def kS (s : State) (queue : Str) : List App:=(s.Apps.filter fun a => pLive a && a.Queue == queue).foldl pV []
def pApps (s : State) (queue : Str) : List Int:=(kS s queue).map (·.Id)
theorem pM (s : State) (queue : Str) : (kS s queue).Perm (s.Apps.filter fun a => pLive a && a.Queue == queue):=nh _ _
theorem hU (a : App) : aF a = some (pLive a):=by
 unfold aF pLive
 cases a.State == 1 <;> rfl
theorem qJ {α β : Type} (p : α → Bool) (f : β → α → β) : ∀ (l : List α) (z : β),l.foldl (fun s x => if p x = true then f s x else s) z = (l.filter p).foldl f z
 | [],z => rfl
 | x :: l,z => by
  rw [List.foldl_cons,qJ p f l,List.filter_cons]
  split <;> rfl
theorem sf {s : State} (h : SSmall s) (queue : Str) : eZ s queue = some (pApps s queue):=by
 unfold eZ
 have hn:=h.a
 have e:=(dD (fun (out : List App) i => (out,i)) s.Apps (fun out x => if (pLive x && x.Queue == queue) = true then pV out x else out) (fun k out => out.length ≤ k) (fun out => out)
  (step:=fW s queue) (by omega) ?_ ?_ (s:=[]) (by simp))
 ·obtain ⟨e,hl⟩:=e
  rw [qJ] at e hl
  rw [e,Gp]
  have e2:=bb (fun (l : List Int) i => (l,i)) (kS s queue) (fun _ => true) (·.Id) (step:=cL (kS s queue)) (by unfold kS; omega) ?_ ?_
  ·show (loop (cL (kS s queue)) ([],0)).bind _ = _
   rw [e2]
   rw [List.filter_eq_self.2 (by simp)]
   rfl
  ·intro k hk l hl2
   have : (kS s queue).length ≤ 100000:=by unfold kS; omega
   unfold cL
   rw [ah hk,cond_true]
   dsimp only
   rw [ay hk,Gp,Gq hk,Gp,am (by simp; omega) (by omega)]
   rfl
  ·intro l
   unfold cL
   rw [ao]
   rfl
 ·intro k hk out ho
  unfold fW
  rw [ah hk,cond_true]
  dsimp only
  rw [ai hk,Gp,hU,Gp]
  generalize hx : s.Apps[k] = x
  have hq : (bif !pLive x then some true else some (!(x.Queue == queue))) = some (!(pLive x && x.Queue == queue)):=by cases pLive x <;> rfl
  rw [hq,Gp]
  cases hp : (pLive x && x.Queue == queue) with
  | false =>
   refine ⟨?_,by simp; omega⟩
   simp
  | true =>
   refine ⟨?_,by simp only [if_true]; unfold pV; rw [xk]; omega⟩
   simp only [Bool.not_true,cond_false,if_true]
   have ew:=gE out (fun y => !(!decide (y.Prio ≥ x.Prio))) (step:=fJ (out,(k : Int)) x) (by omega) ?_ ?_
   ·obtain ⟨t1,t2⟩:=kR (fun y : App => !(!decide (y.Prio ≥ x.Prio))) out
    have htw:=jP (fun y : App => !(!decide (y.Prio ≥ x.Prio))) out
    rw [ew,Gp]
    generalize hn : (out.takeWhile fun y : App => !(!decide (y.Prio ≥ x.Prio))).length = n at htw t1 t2 ⊢
    have hdw : (out.dropWhile fun y : App => !(!decide (y.Prio ≥ x.Prio))).length = out.length - n:=by rw [← t2,List.length_drop]
    have i1 : inS 0 (n : Int) out.length = some (0,n):=by unfold inS; rw [if_pos ⟨by omega,by omega,by omega⟩]; simp
    have i2 : inS (n : Int) (out.length : Int) out.length = some (n,out.length - n):=by unfold inS; rw [if_pos ⟨by omega,by omega,by omega⟩]; simp
    have s1 : sub out 0 n = out.takeWhile fun y : App => !(!decide (y.Prio ≥ x.Prio)):=by unfold sub; rw [List.drop_zero,t1]
    have s2 : sub out n (out.length - n) = out.dropWhile fun y : App => !(!decide (y.Prio ≥ x.Prio)):=by unfold sub; rw [List.take_of_length_le (by rw [List.length_drop]; exact Nat.le_refl _),t2]
    simp only [i1,i2,Gp,s1,s2]
    rw [am (by simp only [Gs,List.length_nil,List.length_cons,List.nil_append]; omega) (by omega),Gp,am (by simp only [Gs,List.length_nil,List.length_cons,List.nil_append]; omega) (by omega),Gp,am (by simp only [Gs,List.length_nil,List.length_cons,List.nil_append]; omega) (by omega),Gp]
    simp only [List.nil_append,List.append_assoc,List.singleton_append]
    rfl
   ·intro j hj
    unfold fJ
    dsimp only
    rw [ah hj,cond_true,ay hj,Gp,Gq hj,Gp,Gp]
    cases decide (out[j].Prio ≥ x.Prio) <;> rfl
   ·unfold fJ
    dsimp only
    rw [ao]
    rfl
 ·intro out _
  unfold fW
  rw [ao]
  rfl
theorem sZ {s : State} {queue : Str} {i : Int} (h : i ∈ pApps s queue) : ∃ a ∈ s.Apps,a.Id = i ∧ pLive a = true ∧ a.Queue = queue:=by
 unfold pApps at h
 obtain ⟨a,ha,rfl⟩:=List.mem_map.1 h
 have:=List.mem_filter.1 ((pM s queue).mem_iff.1 ha)
 simp only [Bool.and_eq_true,beq_iff_eq] at this
 exact ⟨a,this.1,rfl,this.2.1,this.2.2⟩
theorem sX {s : State} (queue : Str) : (pApps s queue).length ≤ s.Apps.length:=by
 unfold pApps
 rw [List.length_map,(pM s queue).length_eq]
 exact List.length_filter_le _ _
end Go.Fx.D
