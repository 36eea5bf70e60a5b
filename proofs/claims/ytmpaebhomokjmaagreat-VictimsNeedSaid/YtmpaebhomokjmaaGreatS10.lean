/-
  The reference manager: what holds of its state after every script. Conditions: none.
-/
import Derived.Test.YtmpaebhomokjmaaGreatS9
namespace Go.Fx.D
open Go Go.Fx
set_option linter.unusedVariables false
set_option linter.unusedSimpArgs false
theorem yf {α : Type} [Inhabited α] {m : Option α} (h : Gv m fun _ => True) (z : α) : m = some (m.getD z):=by
 obtain ⟨a,rfl,_⟩:=h
 rfl
theorem yN (x y : Frac) : Gv (fx x y) fun _ => True:=by
 unfold fx
 repeat' (first | exact ⟨_,rfl,trivial⟩ | refine ae (fun _ => ?_) (fun _ => ?_) | refine ad (P:=fun _ => True) ?_ (fun _ _ => ?_))
theorem BT (a p : Vec) : Gv (gU a p) fun _ => True:=by
 unfold gU
 refine ad (yN _ _) fun _ _ => ?_
 repeat' (first | exact ⟨_,rfl,trivial⟩ | refine ae (fun _ => ?_) (fun _ => ?_))
theorem FE (a p b q : Vec) : Gv (de a p b q) fun _ => True:=by
 unfold de
 refine ad (P:=fun _ => True) ?_ fun _ _ => ae (fun _ => aa trivial) (fun _ => ?_)
 ·rw [tp,tp,tp,tp]
  repeat' (first | exact ⟨_,rfl,trivial⟩ | refine ae (fun _ => ?_) (fun _ => ?_) | refine ad (P:=fun _ => True) ?_ (fun _ _ => ?_))
 ·exact ad (BT _ _) fun _ _ => ad (BT _ _) fun _ _ => ad (yN _ _) fun _ _ => aa trivial
def pOrder (a p b q : Vec) : Int:=(de a p b q).getD 0
theorem FP (a p b q : Vec) : de a p b q = some (pOrder a p b q):=yf (FE a p b q) 0
def lL (s : State) (a b : Str) (label : Int) : Bool :=
 let o:=pOrder (pUsed s a label true 0) (pDown s a label true) (pUsed s b label true 0) (pDown s b label true)
 decide (o < 0) || (o == 0 && Op.bytesLess a b)
theorem GW {s : State} (h : SC s) {a b : Str} (ha : a.length ≤ 1000000) (hb : b.length ≤ 1000000) (label : Int) : ji s a b label = some (lL s a b label):=by
 unfold ji lL
 rw [jw h.b,Jw,mI h ha,Jw,jw h.b,Jw,mI h hb,Jw,FP,Jw]
 dsimp only
 generalize pOrder _ _ _ _ = o
 cases decide (o < 0) <;> cases (o == 0) <;> rfl
def insB {α : Type} (f : α → α → Bool) (out : List α) (x : α) : List α:=(out.takeWhile fun y => !f x y) ++ x :: out.dropWhile fun y => !f x y
theorem zX {α : Type} (f : α → α → Bool) (out : List α) (x : α) : (insB f out x).length = out.length + 1:=by
 unfold insB
 have:=congrArg List.length (List.takeWhile_append_dropWhile (p:=fun y => !f x y) (l:=out))
 rw [Jz] at this ⊢
 rw [List.length_cons]
 omega
theorem yt {α : Type} (f : α → α → Bool) (out : List α) (x : α) : (insB f out x).Perm (x :: out):=by
 unfold insB
 refine List.perm_middle.trans ?_
 rw [List.takeWhile_append_dropWhile]
theorem FZ {α : Type} {f : α → α → Bool} {out : List α} {x y : α} : y ∈ insB f out x ↔ y = x ∨ y ∈ out:=by
 rw [(yt f out x).mem_iff,List.mem_cons]
def pOKids (s : State) (path : Str) (label : Int) : List Str:=(pKids s.Conf path).foldl (insB fun a b => lL s a b label) []
theorem sJ {α : Type} (f : α → α → Bool) : ∀ (l out : List α),(l.foldl (insB f) out).Perm (l.reverse ++ out)
 | [],out => .refl _
 | x :: l,out => by
  rw [List.foldl_cons,List.reverse_cons,List.append_assoc]
  exact (sJ f l _).trans (List.Perm.append_left _ (yt f out x))
theorem tj {α : Type} (f : α → α → Bool) (l : List α) : (l.foldl (insB f) []).Perm l:=by
 have:=sJ f l []
 rw [List.append_nil] at this
 exact this.trans l.reverse_perm
theorem sw (s : State) (path : Str) (label : Int) : (pOKids s path label).Perm (pKids s.Conf path):=tj _ _
theorem lE {c : Conf} (h : ConfOk c) {q : Queue} (hq : q ∈ c.Queues) : PathOk q.Path:=by
 obtain ⟨i,hi,rfl⟩:=List.getElem_of_mem hq
 exact (h.q i hi).path
theorem I0 {c : Conf} (h : ConfOk c) {p x : Str} (hx : x ∈ pKids c p) : PathOk x:=by
 obtain ⟨_,q,hq,rfl,_⟩:=d5 hx
 exact lE h hq
theorem zZ {s : State} (h : SC s) (path : Str) (label : Int) : jT s path label = some (pOKids s path label):=by
 unfold jT
 rw [ot h.b.cf,Jw]
 have hkl:=oz s.Conf path
 have hq:=h.c.qs
 have e:=(fE (fun (out : List Str) i => (out,i)) (pKids s.Conf path) (insB fun a b => lL s a b label) (fun k out => out.length = k ∧ ∀ y ∈ out,y.length ≤ 1000000) (fun out => out)
  (step:=gz s label (pKids s.Conf path)) (by omega) ?_ ?_ (s:=[]) ⟨rfl,by simp⟩).1
 ·rw [e,Jw]; rfl
 ·rintro k hk out ⟨hl,hm⟩
  have hx : ((pKids s.Conf path)[k]).length ≤ 1000000:=by
   have:=(I0 h.c (List.getElem_mem hk)).len
   omega
  refine ⟨?_,by rw [zX,hl],fun y hy => ?_⟩
  ·unfold gz
   rw [aj hk,cond_true]
   have ew:=jz out (fun y => !lL s (pKids s.Conf path)[k] y label) (step:=gg s label (pKids s.Conf path) (out,(k : Int))) (by omega) ?_ ?_
   ·have htw:=mM (fun y => !lL s (pKids s.Conf path)[k] y label) out
    obtain ⟨t1,t2⟩:=o0 (fun y => !lL s (pKids s.Conf path)[k] y label) out
    rw [ew,Jw]
    generalize hn : (out.takeWhile fun y => !lL s (pKids s.Conf path)[k] y label).length = n at htw t1 t2 ⊢
    have hdw : (out.dropWhile fun y => !lL s (pKids s.Conf path)[k] y label).length = out.length - n:=by rw [← t2,List.length_drop]
    have i1 : inS 0 (n : Int) out.length = some (0,n):=by unfold inS; rw [if_pos ⟨by omega,by omega,by omega⟩]; simp
    have i2 : inS (n : Int) (out.length : Int) out.length = some (n,out.length - n):=by unfold inS; rw [if_pos ⟨by omega,by omega,by omega⟩]; simp
    have s1 : sub out 0 n = out.takeWhile fun y => !lL s (pKids s.Conf path)[k] y label:=by unfold sub; rw [List.drop_zero,t1]
    have s2 : sub out n (out.length - n) = out.dropWhile fun y => !lL s (pKids s.Conf path)[k] y label:=by unfold sub; rw [List.take_of_length_le (by rw [List.length_drop]; exact Nat.le_refl _),t2]
    simp only [i1,i2,Jw,s1,s2]
    rw [am (by simp; omega) (by omega),Jw,aM hk,Jw,Jx hk,Jw,am (by simp; omega) (by omega),Jw,
     am (by simp; omega) (by omega),Jw]
    simp only [List.nil_append,List.append_assoc,List.singleton_append]
    rfl
   ·intro j hj
    unfold gg
    dsimp only
    rw [aj hj,cond_true,aM hk,Jw,Jx hk,Jw,aM hj,Jw,Jx hj,Jw,
     GW h hx (hm _ (List.getElem_mem hj)),Jw,Jw]
    cases lL s (pKids s.Conf path)[k] out[j] label <;> rfl
   ·unfold gg
    dsimp only
    rw [ar]
    rfl
  ·rcases FZ.1 hy with rfl | hy
   ·exact hx
   ·exact hm y hy
 ·rintro out _
  unfold gz
  rw [ar]
  rfl
def pLeavesN : Nat → State → Str → Int → List Str
 | 0,_,path,_ => [path]
 | d + 1,s,path,label => if pKids s.Conf path = [] then [path] else (pOKids s path label).flatMap fun x => pLeavesN d s x label
theorem Fc {α : Type} {p : α → Bool} {x : α} : ∀ {l : List α},x ∈ l.takeWhile p → p x = true
 | [],h => by simp at h
 | y :: l,h => by
  rw [List.takeWhile_cons] at h
  split at h
  ·rename_i hy
   rcases List.mem_cons.1 h with rfl | h
   ·exact hy
   ·exact Fc h
  ·simp at h
theorem kg {x p : Str} (hp : p ≠ []) (h : aV x = p) : x.count 46 = p.count 46 + 1:=by
 subst h
 have hd:=List.takeWhile_append_dropWhile (p:=fun y : UInt8 => y != 46) (l:=x.reverse)
 cases he : x.reverse.dropWhile (· != 46) with
 | nil => exact absurd (by unfold aV; rw [he]; rfl) hp
 | cons y r =>
  have hy : y = 46:=by
   have:=List.head?_dropWhile_not (fun y : UInt8 => y != 46) x.reverse
   rw [he] at this
   simpa using this
  subst hy
  have h1 : (x.reverse.takeWhile fun y => y != 46).count 46 = 0:=by
   rw [List.count_eq_zero]
   intro hm
   have:=Fc hm
   simp at this
  have h2 : x.count 46 = x.reverse.count 46:=(List.count_reverse).symm
  rw [h2,← hd,List.count_append,h1,he]
  unfold aV
  rw [he]
  simp
theorem wN {s : State} (h : SC s) (label : Int) : ∀ (d n : Nat) (path : Str),3 ≤ path.count 46 + d → d ≤ n → d ≤ 3 →
  br (n + 1) s path label = some (pLeavesN d s path label) ∧ (pLeavesN d s path label).length ≤ 16 ^ d:=by
 intro d
 induction d with
 | zero =>
  intro n path hc _ _
  have hk : pKids s.Conf path = []:=by
   cases hk : pKids s.Conf path with
   | nil => rfl
   | cons x l =>
    have hx : x ∈ pKids s.Conf path:=by rw [hk]; simp
    obtain ⟨hp,q,hq,rfl,ha⟩:=d5 hx
    have h1:=kg hp ha
    have h2:=(lE h.c hq).deep
    omega
  refine ⟨?_,by simp [pLeavesN]⟩
  show cS _ s path label = _
  unfold cS
  have hp : pOKids s path label = []:=by have:=sw s path label; rw [hk] at this; exact this.eq_nil
  rw [zZ h,Jw,hp]
  rfl
 | succ d ih =>
  intro n path hc hn hd3
  obtain ⟨n,rfl⟩ : ∃ m,n = m + 1:=⟨n - 1,by omega⟩
  have hperm:=sw s path label
  have hlen:=hperm.length_eq
  have hkl:=oz s.Conf path
  have hq:=h.c.qs
  have e0 : (pKids s.Conf path = []) ↔ pOKids s path label = []:=⟨fun e => by rw [e] at hperm; exact hperm.eq_nil,fun e => by rw [e] at hperm; exact hperm.symm.eq_nil⟩
  have hkid : ∀ x ∈ pOKids s path label,br (n + 1) s x label = some (pLeavesN d s x label) ∧ (pLeavesN d s x label).length ≤ 16 ^ d:=by
   intro x hx
   obtain ⟨hp,q,hq',rfl,ha⟩:=d5 (hperm.mem_iff.1 hx)
   have h1:=kg hp ha
   exact ih n q.Path (by omega) (by omega) (by omega)
  have hfl : ∀ (l : List Str),(∀ x ∈ l,(pLeavesN d s x label).length ≤ 16 ^ d) → (l.flatMap fun x => pLeavesN d s x label).length ≤ l.length * 16 ^ d:=by
   intro l
   induction l with
   | nil => intro _; simp
   | cons x l ihl =>
    intro hh
    have h1:=hh x (by simp)
    have h2:=ihl (fun y hy => hh y (by simp [hy]))
    rw [List.flatMap_cons,Jz,List.length_cons,Nat.succ_mul]
    omega
  refine ⟨?_,?_⟩
  ·show cS (br (n + 1)) s path label = _
   unfold cS
   rw [zZ h,Jw]
   unfold pLeavesN
   by_cases hk : pKids s.Conf path = []
   ·rw [if_pos hk,e0.1 hk]; rfl
   ·rw [if_neg hk]
    have hne : pOKids s path label ≠ []:=fun e => hk (e0.2 e)
    have hpos : 0 < (pOKids s path label).length:=List.length_pos_iff.2 hne
    have e1 : (((pOKids s path label).length : Int) == 0) = false:=by
     rw [beq_eq_false_iff_ne]; omega
    rw [e1,cond_false]
    have hpow : 16 ^ d ≤ 16 ^ 3:=Nat.pow_le_pow_right (by omega) (by omega)
    have e:=(fE (fun (out : List Str) i => (out,i)) (pOKids s path label) (fun out x => out ++ pLeavesN d s x label) (fun k out => out.length ≤ k * 16 ^ d) (fun out => out)
     (step:=dw s label (br (n + 1)) (pOKids s path label)) (by omega) ?_ ?_ (s:=[]) (by simp)).1
    ·rw [e,Jw]
     have gen : ∀ (l z : List Str),l.foldl (fun out x => out ++ pLeavesN d s x label) z = z ++ l.flatMap fun x => pLeavesN d s x label:=by
      intro l
      induction l with
      | nil => intro z; simp
      | cons x l ihl => intro z; rw [List.foldl_cons,ihl,List.flatMap_cons,List.append_assoc]
     rw [gen]
     rfl
    ·intro k hk out ho
     obtain ⟨k1,k2⟩:=hkid _ (List.getElem_mem hk)
     have hmul : k * 16 ^ d ≤ 16 * 16 ^ 3:=Nat.mul_le_mul (by omega) hpow
     refine ⟨?_,by rw [Jz,Nat.succ_mul]; omega⟩
     unfold dw
     rw [aj hk,cond_true]
     dsimp only
     rw [aM hk,Jw,Jx hk,Jw,k1,Jw,am (by omega) (by omega),Jw]
    ·intro out _
     unfold dw
     rw [ar]
     rfl
  ·unfold pLeavesN
   split
   ·simp; exact Nat.one_le_pow _ _ (by omega)
   ·have:=hfl _ (fun x hx => (hkid x hx).2)
    have h2 : (pOKids s path label).length * 16 ^ d ≤ 16 * 16 ^ d:=Nat.mul_le_mul_right _ (by omega)
    rw [Nat.pow_succ,Nat.mul_comm (16 ^ d)]
    omega
def pA (s : State) (label : Int) : List Str:=pLeavesN 3 s root label
theorem E2 {s : State} (h : SC s) (label : Int) : hU s label = some (pA s label):=by
 unfold hU lr
 rw [(wN h label 3 63 root (by decide) (by omega) (by omega)).1]
 rfl
theorem Dn {s : State} (h : SC s) (label : Int) : (pA s label).length ≤ 4096:=(wN h label 3 63 root (by decide) (by omega) (by omega)).2
theorem zr {s : State} (h : SC s) (label : Int) : ∀ (d : Nat) (path : Str),3 ≤ path.count 46 + d → (pFind s.Conf path).isSome = true → ∀ x ∈ pLeavesN d s path label,pLeaf s.Conf x = true:=by
 intro d
 induction d with
 | zero =>
  intro path hc hf x hx
  have hx : x = path:=by simpa [pLeavesN] using hx
  subst hx
  have hk : pKids s.Conf x = []:=by
   cases hk : pKids s.Conf x with
   | nil => rfl
   | cons y l =>
    have hy : y ∈ pKids s.Conf x:=by rw [hk]; simp
    obtain ⟨hp,q,hq,rfl,ha⟩:=d5 hy
    have h1:=kg hp ha
    have h2:=(lE h.c hq).deep
    omega
  unfold pLeaf
  rw [hf,hk]
  rfl
 | succ d ih =>
  intro path hc hf x hx
  unfold pLeavesN at hx
  split at hx
  ·rename_i hk
   have hx : x = path:=by simpa using hx
   subst hx
   unfold pLeaf
   rw [hf,hk]
   rfl
  ·obtain ⟨y,hy,hx⟩:=List.mem_flatMap.1 hx
   obtain ⟨hp,q,hq,rfl,ha⟩:=d5 ((sw s path label).mem_iff.1 hy)
   have h1:=kg hp ha
   obtain ⟨q',e,_⟩:=pz hq
   exact ih q.Path (by omega) (by rw [e]; rfl) x hx
theorem xp {c : Conf} (h : ConfOk c) : (pFind c root).isSome = true:=by
 obtain ⟨q,h1,h2,_⟩:=h.root
 have hq : q ∈ c.Queues:=List.mem_of_getElem? h1
 obtain ⟨q',e,_⟩:=pz hq
 rw [← h2,e]; rfl
theorem BI {s : State} (h : SC s) (label : Int) {x : Str} (hx : x ∈ pA s label) : pLeaf s.Conf x = true:=zr h label 3 root (by decide) (xp h.c) x hx
theorem r_ {c : Conf} (h : ConfOk c) {x : Str} (hx : pLeaf c x = true) : PathOk x:=by
 unfold pLeaf at hx
 simp only [Bool.and_eq_true] at hx
 cases hf : pFind c x with
 | none => rw [hf] at hx; simp at hx
 | some q =>
  obtain ⟨h1,h2⟩:=mv hf
  rw [← h2]
  exact lE h h1
def pLive (a : App) : Bool:=a.State == 1 || a.State == 2
def AO (out : List App) (x : App) : List App:=insB (fun x y => !decide (y.Prio ≥ x.Prio)) out x
def qi (s : State) (queue : Str) : List App:=(s.Apps.filter fun a => pLive a && a.Queue == queue).foldl AO []
def pApps (s : State) (queue : Str) : List Int:=(qi s queue).map (·.Id)
theorem v5 (s : State) (queue : Str) : (qi s queue).Perm (s.Apps.filter fun a => pLive a && a.Queue == queue):=tj _ _
theorem lT (a : App) : aT a = some (pLive a):=by
 unfold aT pLive
 cases a.State == 1 <;> rfl
theorem ub {α β : Type} (p : α → Bool) (f : β → α → β) : ∀ (l : List α) (z : β),l.foldl (fun s x => if p x = true then f s x else s) z = (l.filter p).foldl f z
 | [],z => rfl
 | x :: l,z => by
  rw [List.foldl_cons,ub p f l,List.filter_cons]
  split <;> rfl
theorem HW {s : State} (h : SSmall s) (queue : Str) : jZ s queue = some (pApps s queue):=by
 unfold jZ
 have hn:=h.a
 have e:=(fE (fun (out : List App) i => (out,i)) s.Apps (fun out x => if (pLive x && x.Queue == queue) = true then AO out x else out) (fun k out => out.length ≤ k) (fun out => out)
  (step:=gB s queue) (by omega) ?_ ?_ (s:=[]) (by simp))
 ·obtain ⟨e,hl⟩:=e
  rw [ub] at e hl
  rw [e,Jw]
  have e2:=bS (fun (l : List Int) i => (l,i)) (qi s queue) (fun _ => true) (·.Id) (step:=da (qi s queue)) (by unfold qi; omega) ?_ ?_
  ·show (loop (da (qi s queue)) ([],0)).bind _ = _
   rw [e2]
   rw [List.filter_eq_self.2 (by simp)]
   rfl
  ·intro k hk l hl2
   have : (qi s queue).length ≤ 100000:=by unfold qi; omega
   unfold da
   rw [aj hk,cond_true]
   dsimp only
   rw [aM hk,Jw,Jx hk,Jw,am (by simp; omega) (by omega)]
   rfl
  ·intro l
   unfold da
   rw [ar]
   rfl
 ·intro k hk out ho
  unfold gB
  rw [aj hk,cond_true]
  dsimp only
  rw [ai hk,Jw,lT,Jw]
  generalize hx : s.Apps[k] = x
  have hq : (bif !pLive x then some true else some (!(x.Queue == queue))) = some (!(pLive x && x.Queue == queue)):=by cases pLive x <;> rfl
  rw [hq,Jw]
  cases hp : (pLive x && x.Queue == queue) with
  | false =>
   refine ⟨?_,by simp; omega⟩
   simp
  | true =>
   refine ⟨?_,by simp only [if_true]; unfold AO; rw [zX]; omega⟩
   simp only [Bool.not_true,cond_false,if_true]
   have ew:=jz out (fun y => !(!decide (y.Prio ≥ x.Prio))) (step:=fY (out,(k : Int)) x) (by omega) ?_ ?_
   ·obtain ⟨t1,t2⟩:=o0 (fun y : App => !(!decide (y.Prio ≥ x.Prio))) out
    have htw:=mM (fun y : App => !(!decide (y.Prio ≥ x.Prio))) out
    rw [ew,Jw]
    generalize hn : (out.takeWhile fun y : App => !(!decide (y.Prio ≥ x.Prio))).length = n at htw t1 t2 ⊢
    have hdw : (out.dropWhile fun y : App => !(!decide (y.Prio ≥ x.Prio))).length = out.length - n:=by rw [← t2,List.length_drop]
    have i1 : inS 0 (n : Int) out.length = some (0,n):=by unfold inS; rw [if_pos ⟨by omega,by omega,by omega⟩]; simp
    have i2 : inS (n : Int) (out.length : Int) out.length = some (n,out.length - n):=by unfold inS; rw [if_pos ⟨by omega,by omega,by omega⟩]; simp
    have s1 : sub out 0 n = out.takeWhile fun y : App => !(!decide (y.Prio ≥ x.Prio)):=by unfold sub; rw [List.drop_zero,t1]
    have s2 : sub out n (out.length - n) = out.dropWhile fun y : App => !(!decide (y.Prio ≥ x.Prio)):=by unfold sub; rw [List.take_of_length_le (by rw [List.length_drop]; exact Nat.le_refl _),t2]
    simp only [i1,i2,Jw,s1,s2]
    rw [am (by simp only [Jz,List.length_nil,List.length_cons,List.nil_append]; omega) (by omega),Jw,am (by simp only [Jz,List.length_nil,List.length_cons,List.nil_append]; omega) (by omega),Jw,am (by simp only [Jz,List.length_nil,List.length_cons,List.nil_append]; omega) (by omega),Jw]
    simp only [List.nil_append,List.append_assoc,List.singleton_append]
    rfl
   ·intro j hj
    unfold fY
    dsimp only
    rw [aj hj,cond_true,aM hj,Jw,Jx hj,Jw,Jw]
    cases decide (out[j].Prio ≥ x.Prio) <;> rfl
   ·unfold fY
    dsimp only
    rw [ar]
    rfl
 ·intro out _
  unfold gB
  rw [ar]
  rfl
theorem GF {s : State} {queue : Str} {i : Int} (h : i ∈ pApps s queue) : ∃ a ∈ s.Apps,a.Id = i ∧ pLive a = true ∧ a.Queue = queue:=by
 unfold pApps at h
 obtain ⟨a,ha,rfl⟩:=List.mem_map.1 h
 have:=List.mem_filter.1 ((v5 s queue).mem_iff.1 ha)
 simp only [Bool.and_eq_true,beq_iff_eq] at this
 exact ⟨a,this.1,rfl,this.2.1,this.2.2⟩
theorem G6 {s : State} (queue : Str) : (pApps s queue).length ≤ s.Apps.length:=by
 unfold pApps
 rw [List.length_map,(v5 s queue).length_eq]
 exact List.length_filter_le _ _
end Go.Fx.D
