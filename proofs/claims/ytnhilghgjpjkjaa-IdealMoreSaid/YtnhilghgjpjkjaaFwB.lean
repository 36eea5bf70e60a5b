/-
  The framework, second half: regions in any order, the rules for code, contracts, the words for functions, arguments as data. Conditions: none.
-/
import Derived.Test.YtnhilghgjpjkjaaFwA
import Derived.Eval
import Derived.Carry
import Derived.ChangeSlices
import Derived.OpenShut
import Derived.ProofKit
import Derived.WalkKit
/-
  The framework, part 12: a run of the evaluator as a trace; one operation of it, wherever it stands in the order.
-/
namespace Go.Fw
open Go

section
variable (P : Program) (T : TypeId → Option TI) (n : Nat) (ops : List Oper)

structure TR where
  o : Oper
  s : LS
  val : Dat
  mw : List (Nat × Option Blk)
  nu : List Nat
  run : Option (Orc × Eff)
  anc : Nat

def TR.next (t : TR) : LS := ⟨putE t.s.E t.o.dst t.val, setM t.s.M t.mw, t.nu ++ t.s.U⟩

/-- a guard that lets by ('b': the operation is wanted) -/
def Grd (o : Oper) (s : LS) (b : Bool) : Prop :=
  ∃ j want d, o.guard = some (j, want) ∧ dstOf ops j = some d ∧ look s.E d = some (.c (.im (.b (if b then want else !want))))

/-- a guard that does not: it says otherwise, or its own operation was passed over -/
def Skp (o : Oper) (s : LS) : Prop :=
  ∃ j want d, o.guard = some (j, want) ∧ dstOf ops j = some d ∧ (look s.E d = some (.c (.im (.b (!want)))) ∨ look s.E d = some (.tup []))

def TR.gs (t : TR) : List Nat := match t.o.guard with | some (j, _) => (dstOf ops j).toList | none => []
def TR.rs (t : TR) : List Nat := match t.run with
  | some _ => t.gs ops ++ tmpsOf t.o.op.operands.toList
  | none => t.gs ops
def TR.tm (t : TR) : List Nat := match t.run with
  | some _ => touchOf t.o.op (t.o.op.operands.toList.map (opd (look t.s.E)))
  | none => []
def TR.rc (t : TR) : Rec := ⟨t.rs ops, t.o.dst, t.tm, t.mw.map (·.1), t.anc⟩

structure TR.ok (t : TR) : Prop where
  dst : ∀ d, t.o.dst = some d → d < n
  fresh : freshOk t.s.U t.nu = true
  ran : ∀ orc f, t.run = some (orc, f) → effAt P T t.o (look t.s.E) (look t.s.M) orc = some f ∧ All f.vc ∧ t.val = f.val ∧ t.mw = f.mw ∧ t.nu = f.nu ∧ (t.o.guard = none ∨ Grd ops t.o t.s true)
  skipped : t.run = none → t.val = .tup [] ∧ t.mw = [] ∧ t.nu = [] ∧ Skp ops t.o t.s

/-- from one state to another -/
def Chain : LS → List TR → LS → Prop
  | s, [], s' => s' = s
  | s, t :: l, s' => t.s = s ∧ Chain t.next l s'

def recsOf : List Rec → List TR → Prop
  | _, [] => True
  | rs, t :: l => t.anc = ancOf rs (edgesOn t.o.after.toList) ∧ recsOf (rs ++ [t.rc ops]) l

def DecInv (z : EvS) : Prop := ∀ d g, look z.dec d = some g → ∃ x, look z.s.E d = some (.c (.im (.b x))) ∧ (All z.vc → x = g)

theorem look_cons {α : Type} (x y : Nat) (a : α) (l : List (Nat × α)) : look ((y, a) :: l) x = if Nat.beq y x then some a else look l x := rfl

theorem look_putE (E : List (Nat × Dat)) (dst : Option Nat) (d : Dat) (x : Nat) : look (putE E dst d) x = if dst = some x then some d else look E x := by
  cases dst with
  | none => simp [putE]
  | some y =>
    simp only [putE, look_cons]
    by_cases h : y = x
    · subst h; simp
    · rw [beq_false_of_ne h]
      simp [h]

variable {P T n ops}

theorem decInv_step {z : EvS} {dec : List (Nat × Bool)} {vc vc' : List Prop} {o : Oper} {val : Dat} {M : List (Nat × Blk)} {U : List Nat} {orcs : List Orc} {recs : List Rec}
    (h : ∀ d g, look dec d = some g → ∃ x, look z.s.E d = some (.c (.im (.b x))) ∧ (All vc → x = g)) (hf : decFree dec o.dst = true) (hvc : All vc' → All vc) :
    DecInv ⟨⟨putE z.s.E o.dst val, M, U⟩, dec, orcs, vc', recs⟩ := by
  intro d g hd
  obtain ⟨x, hx, hg⟩ := h d g hd
  refine ⟨x, ?_, fun a => hg (hvc a)⟩
  show look (putE z.s.E o.dst val) d = _
  rw [look_putE]
  split
  · rename_i hdst
    rw [hdst] at hf
    simp only [decFree] at hf
    have hd' : look dec d = some g := hd
    rw [hd'] at hf
    cases hf
  · exact hx

theorem evStep_trace {o : Oper} {z z' : EvS} (h : evStep P T n ops o z = some z') (hdi : DecInv z) :
    (∃ l, z'.vc = z.vc ++ l) ∧ DecInv z' ∧ (All z'.vc → ∃ t : TR, t.o = o ∧ t.s = z.s ∧ t.next = z'.s ∧ t.ok P T n ops ∧ t.anc = ancOf z.recs (edgesOn o.after.toList) ∧ z'.recs = z.recs ++ [t.rc ops]) := by
  have runs : ∀ {gs : List Nat} {dec : List (Nat × Bool)} {orcs : List Orc} {vc : List Prop},
      ((effAt P T o (look z.s.E) (look z.s.M) (orcs.headD {})).bind fun f =>
        if freshOk z.s.U f.nu && (o.dst.all fun d => Nat.blt d n) && decFree dec o.dst then
          some ({ s := ⟨putE z.s.E o.dst f.val, setM z.s.M f.mw, f.nu ++ z.s.U⟩, dec, orcs := if f.use then orcs.tail else orcs, vc := vc ++ f.vc, recs := z.recs ++ [⟨gs ++ tmpsOf o.op.operands.toList, o.dst, touchOf o.op (o.op.operands.toList.map (opd (look z.s.E))), f.mw.map (·.1), ancOf z.recs (edgesOn o.after.toList)⟩] } : EvS)
        else none) = some z' → (∀ d g, look dec d = some g → ∃ x, look z.s.E d = some (.c (.im (.b x))) ∧ (All vc → x = g)) → (∃ l, vc = z.vc ++ l) →
      gs = (match o.guard with | some (j, _) => (dstOf ops j).toList | none => []) → (All vc → o.guard = none ∨ Grd ops o z.s true) →
      (∃ l, z'.vc = z.vc ++ l) ∧ DecInv z' ∧ (All z'.vc → ∃ t : TR, t.o = o ∧ t.s = z.s ∧ t.next = z'.s ∧ t.ok P T n ops ∧ t.anc = ancOf z.recs (edgesOn o.after.toList) ∧ z'.recs = z.recs ++ [t.rc ops]) := by
    intro gs dec orcs vc h hd hl hgs hgrd
    rw [Option.bind_eq_some_iff] at h
    obtain ⟨f, hf, h⟩ := h
    split at h
    · rename_i hc
      simp only [Bool.and_eq_true] at hc
      obtain ⟨⟨hc1, hc2⟩, hc3⟩ := hc
      obtain ⟨l, rfl⟩ := hl
      cases h
      refine ⟨⟨l ++ f.vc, by simp⟩, decInv_step hd hc3 (fun a => (All.app a).1), ?_⟩
      intro hall
      obtain ⟨ha, hb⟩ := All.app hall
      refine ⟨⟨o, z.s, f.val, f.mw, f.nu, some (orcs.headD {}, f), ancOf z.recs (edgesOn o.after.toList)⟩, rfl, rfl, rfl, ⟨?_, hc1, ?_, ?_⟩, rfl, ?_⟩
      · intro d hd'
        dsimp only at hd'
        rw [hd'] at hc2
        simpa using hc2
      · intro orc f' e
        cases e
        exact ⟨hf, hb, rfl, rfl, rfl, hgrd ha⟩
      · intro e; cases e
      · simp only [TR.rc, TR.rs, TR.tm, TR.gs, hgs]
    · cases h
  unfold evStep at h
  dsimp only at h
  split at h
  · rename_i hg
    exact runs h hdi ⟨[], by simp⟩ (by rw [hg]) (fun _ => .inl hg)
  · rename_i j want hg
    rw [Option.bind_eq_some_iff] at h
    obtain ⟨d, hd, h⟩ := h
    split at h
    · rename_i x hx
      have go : ∀ {gb : Bool} {dec : List (Nat × Bool)} {orcs : List Orc} {vc : List Prop},
          (if gb = want then
            ((effAt P T o (look z.s.E) (look z.s.M) (orcs.headD {})).bind fun f =>
              if freshOk z.s.U f.nu && (o.dst.all fun d => Nat.blt d n) && decFree dec o.dst then
                some ({ s := ⟨putE z.s.E o.dst f.val, setM z.s.M f.mw, f.nu ++ z.s.U⟩, dec, orcs := if f.use then orcs.tail else orcs, vc := vc ++ f.vc, recs := z.recs ++ [⟨[d] ++ tmpsOf o.op.operands.toList, o.dst, touchOf o.op (o.op.operands.toList.map (opd (look z.s.E))), f.mw.map (·.1), ancOf z.recs (edgesOn o.after.toList)⟩] } : EvS)
              else none)
          else if (o.dst.all fun d => Nat.blt d n) && decFree dec o.dst then some ({ s := ⟨putE z.s.E o.dst (.tup []), z.s.M, z.s.U⟩, dec, orcs, vc, recs := z.recs ++ [⟨[d], o.dst, [], [], ancOf z.recs (edgesOn o.after.toList)⟩] } : EvS)
          else none) = some z' →
          (∀ d g, look dec d = some g → ∃ x, look z.s.E d = some (.c (.im (.b x))) ∧ (All vc → x = g)) → (∃ l, vc = z.vc ++ l) → (All vc → x = gb) →
          (∃ l, z'.vc = z.vc ++ l) ∧ DecInv z' ∧ (All z'.vc → ∃ t : TR, t.o = o ∧ t.s = z.s ∧ t.next = z'.s ∧ t.ok P T n ops ∧ t.anc = ancOf z.recs (edgesOn o.after.toList) ∧ z'.recs = z.recs ++ [t.rc ops]) := by
        intro gb dec orcs vc h hdd hl hxg
        split at h
        · rename_i hw
          refine runs h hdd hl (by rw [hg]; simp [hd]) ?_
          intro ha
          refine .inr ⟨j, want, d, hg, hd, ?_⟩
          rw [hx, hxg ha, hw]
          rfl
        · rename_i hw
          split at h
          · rename_i hc
            simp only [Bool.and_eq_true] at hc
            obtain ⟨hc2, hc3⟩ := hc
            obtain ⟨l, rfl⟩ := hl
            cases h
            refine ⟨⟨l, rfl⟩, decInv_step hdd hc3 (fun a => a), ?_⟩
            intro hall
            refine ⟨⟨o, z.s, .tup [], [], [], none, ancOf z.recs (edgesOn o.after.toList)⟩, rfl, rfl, rfl, ⟨?_, rfl, ?_, ?_⟩, rfl, ?_⟩
            · intro d' hd'
              dsimp only at hd'
              rw [hd'] at hc2
              simpa using hc2
            · intro orc f' e; cases e
            · intro _
              refine ⟨rfl, rfl, rfl, j, want, d, hg, hd, .inl ?_⟩
              rw [hx, hxg hall]
              cases gb <;> cases want <;> simp_all
            · simp only [TR.rc, TR.rs, TR.tm, TR.gs, hg, hd]
              rfl
          · cases h
      split at h
      · rename_i gb hgb
        refine go h hdi ⟨[], by simp⟩ ?_
        intro ha
        obtain ⟨x', hx', hg'⟩ := hdi d gb hgb
        rw [hx] at hx'
        cases hx'
        exact hg' ha
      · refine go h ?_ ⟨_, rfl⟩ (fun a => (All.app a).2.1)
        intro d' g' hd'
        rw [look_cons] at hd'
        split at hd'
        · rename_i hb
          have := Nat.eq_of_beq_eq_true hb
          subst this
          cases hd'
          exact ⟨x, hx, fun a => (All.app a).2.1⟩
        · obtain ⟨x', hx', hg'⟩ := hdi d' g' hd'
          exact ⟨x', hx', fun a => hg' (All.app a).1⟩
    · rename_i hx
      split at h
      · rename_i hc
        simp only [Bool.and_eq_true] at hc
        obtain ⟨hc2, hc3⟩ := hc
        cases h
        refine ⟨⟨[], by simp⟩, decInv_step hdi hc3 (fun a => a), ?_⟩
        intro hall
        refine ⟨⟨o, z.s, .tup [], [], [], none, ancOf z.recs (edgesOn o.after.toList)⟩, rfl, rfl, rfl, ⟨?_, rfl, ?_, ?_⟩, rfl, ?_⟩
        · intro d' hd'
          dsimp only at hd'
          rw [hd'] at hc2
          simpa using hc2
        · intro orc f' e; cases e
        · intro _
          exact ⟨rfl, rfl, rfl, j, want, d, hg, hd, .inr hx⟩
        · simp only [TR.rc, TR.rs, TR.tm, TR.gs, hg, hd]
          rfl
      · cases h
    · cases h

theorem evOps_trace : ∀ {l : List Oper} {z z' : EvS} (_ : evOps P T n ops l z = some z') (_ : DecInv z),
    (∃ r, z'.vc = z.vc ++ r) ∧ (All z'.vc → ∃ tr : List TR, tr.map (·.o) = l ∧ Chain z.s tr z'.s ∧ (∀ t ∈ tr, t.ok P T n ops) ∧ recsOf ops z.recs tr ∧ z'.recs = z.recs ++ tr.map (·.rc ops))
  | [], z, z', h, _ => by
    simp only [evOps, Option.some.injEq] at h
    subst h
    exact ⟨⟨[], by simp⟩, fun _ => ⟨[], rfl, rfl, by simp, trivial, by simp⟩⟩
  | o :: l, z, z', h, hd => by
    simp only [evOps, Option.bind_eq_some_iff] at h
    obtain ⟨z1, h1, h2⟩ := h
    obtain ⟨⟨r1, e1⟩, hd1, ht⟩ := evStep_trace h1 hd
    obtain ⟨⟨r2, e2⟩, ih⟩ := evOps_trace h2 hd1
    refine ⟨⟨r1 ++ r2, by rw [e2, e1]; simp⟩, ?_⟩
    intro hall
    obtain ⟨t, t1, t2, t3, t4, t5, t6⟩ := ht (by rw [e2] at hall; exact (All.app hall).1)
    obtain ⟨tr, r1', r2', r3, r4, r5⟩ := ih hall
    refine ⟨t :: tr, by simp [t1, r1'], ⟨t2, by rw [t3]; exact r2'⟩, ?_, ⟨by rw [t1]; exact t5, by rw [← t6]; exact r4⟩, by rw [r5, t6]; simp⟩
    intro x hx
    rcases List.mem_cons.1 hx with rfl | hx
    · exact t4
    · exact r3 x hx
end

end Go.Fw

/-
  The framework, part 13: an operation of a trace at any state that agrees where it reads; the text's order.
-/
namespace Go.Fw
open Go

def St.upd (s : St) (t : TR) : St := ⟨fun x => if t.o.dst = some x then some t.val else s.e x, updM s.m t.mw, fun id => memN id t.nu || s.u id⟩

theorem look_dropKey {α : Type} (x y : Nat) : ∀ (l : List (Nat × α)), look (dropKey x l) y = if Nat.beq x y then none else look l y
  | [] => by simp [dropKey, look]
  | (z, a) :: l => by
    simp only [dropKey]
    by_cases h : z = x
    · subst h
      rw [beq_self, if_pos rfl, look_dropKey z y l, look_cons]
      by_cases h2 : z = y
      · subst h2; simp
      · rw [beq_false_of_ne h2]; simp
    · rw [beq_false_of_ne h]
      simp only [Bool.false_eq_true, if_false, look_cons, look_dropKey x y l]
      by_cases h2 : z = y
      · subst h2
        rw [beq_self, beq_false_of_ne (fun e => h e.symm)]
        simp
      · rw [beq_false_of_ne h2]
        simp

theorem updM_congr : ∀ (mw : List (Nat × Option Blk)) {m m' : Nat → Option Blk}, (∀ x, m x = m' x) → ∀ x, updM m mw x = updM m' mw x
  | [], _, _, h, x => h x
  | (id, B) :: r, m, m', h, x => by
    simp only [updM]
    exact updM_congr r (fun y => by rw [h y]) x

theorem look_setM : ∀ (mw : List (Nat × Option Blk)) (M : List (Nat × Blk)) (x : Nat), look (setM M mw) x = updM (look M) mw x
  | [], M, x => rfl
  | (id, none) :: r, M, x => by
    simp only [setM, updM]
    rw [look_setM r]
    refine updM_congr r (fun y => ?_) x
    rw [look_dropKey]
  | (id, some B) :: r, M, x => by
    simp only [setM, updM]
    rw [look_setM r]
    refine updM_congr r (fun y => ?_) x
    rw [look_cons, look_dropKey]
    by_cases h : id = y
    · subst h; simp
    · rw [beq_false_of_ne h]; simp

theorem next_st (t : TR) : t.next.st = t.s.st.upd t := by
  simp only [TR.next, LS.st, St.upd, St.mk.injEq]
  refine ⟨funext fun x => look_putE _ _ _ _, funext fun x => look_setM _ _ _, funext fun x => memN_append _ _ _⟩

section
variable {P : Program} {T : TypeId → Option TI} {n : Nat} {ops : List Oper} {own : Ow} {W0 : World}

theorem tmpsOf_mem {x : Nat} : ∀ {l : List Operand}, Operand.tmp x ∈ l → x ∈ tmpsOf l
  | [], h => by simp at h
  | y :: l, h => by
    rcases List.mem_cons.1 h with rfl | h
    · simp [tmpsOf]
    · have := tmpsOf_mem h
      cases y <;> simp [tmpsOf, this]

theorem effAt_congr {o : Oper} {e e' : Nat → Option Dat} {m m' : Nat → Option Blk} {orc : Orc} (h1 : ∀ x ∈ tmpsOf o.op.operands.toList, e' x = e x)
    (h2 : ∀ id, memN id (touchOf o.op (o.op.operands.toList.map (opd e))) = true → m' id = m id) : effAt P T o e' m' orc = effAt P T o e m orc := by
  have ev : o.op.operands.toList.map (opd e') = o.op.operands.toList.map (opd e) := by
    apply List.map_congr_left
    intro x hx
    cases x with
    | tmp t => simp only [opd]; rw [h1 t (tmpsOf_mem hx)]
    | _ => rfl
  unfold effAt
  rw [ev]
  have er : restr m' (touchOf o.op (o.op.operands.toList.map (opd e))) = restr m (touchOf o.op (o.op.operands.toList.map (opd e))) := by
    funext id
    unfold restr
    split
    · rename_i h; exact h2 id h
    · rfl
  dsimp only
  rw [er]

theorem good_put {s : St} {g g' : G} {a : Act} {w w' : World} {t : TR} {v : Value} (h : Good own W0 n s g a w) (hd : ∀ d, t.o.dst = some d → d < n) (hv : RepD g' w' t.val v)
    (hm : MemOk own g' w' (updM s.m t.mw)) (hst : Stp s.m g w g' w') (hu : ∀ id, s.u id = false → memN id t.nu = false → g'.ids id = none) : Good own W0 n (s.upd t) g' (a.put t.o.dst v) w' := by
  have htm : (a.put t.o.dst v).tmps.size = n := by
    rw [← h.tsz]
    cases t.o.dst <;> simp [Act.put]
  have hdf : (a.put t.o.dst v).defers = [] := by
    rw [← h.dfr]
    cases t.o.dst <;> rfl
  refine ⟨hdf, htm, ?_, hm, ?_, fun b hb => hst.le.imm b (h.ini b hb), h.frm.stp h.mem hst⟩
  · intro x d hx
    simp only [St.upd] at hx
    split at hx
    · rename_i hdst
      cases hx
      have hlt := hd x hdst
      rw [hdst]
      simp only [Act.put]
      rw [Array.getD_eq_getD_getElem?, Array.getElem?_setIfInBounds]
      rw [if_pos rfl, if_pos (by rw [h.tsz]; exact hlt)]
      exact hv
    · rename_i hdst
      have := (h.env x d hx).le hst.le
      cases hdd : t.o.dst with
      | none => exact this
      | some y =>
        have hne : y ≠ x := fun e => hdst (by rw [hdd, e])
        simp only [Act.put]
        rw [Array.getD_eq_getD_getElem?, Array.getElem?_setIfInBounds, if_neg hne, ← Array.getD_eq_getD_getElem?]
        exact this
  · intro id hid
    simp only [St.upd, Bool.or_eq_false_iff] at hid
    exact hu id hid.2 hid.1

theorem yields {opsA : Array Oper} (hops : opsA.toList = ops) {s : St} {g : G} {a : Act} {w : World} (h : Good own W0 n s g a w) {j d : Nat} {b : Bool} (hd : dstOf ops j = some d) (he : s.e d = some (.c (.im (.b b)))) :
    yielded opsA a.tmps j = some b := by
  have hv := inv_b (h.env d _ he)
  have hj : (opsA[j]?).bind (·.dst) = some d := by
    rw [← hd]
    simp only [dstOf, ← hops]
    simp
  have ht : a.tmps[d]? = some (.bool b) := by
    rw [Array.getD_eq_getD_getElem?] at hv
    cases hx : a.tmps[d]? with
    | none => rw [hx] at hv; simp [undef] at hv
    | some x => rw [hx] at hv; simp only [Option.getD_some] at hv; rw [hv]
  simp only [yielded, hj, Option.bind_some, ht]

theorem yieldsN {opsA : Array Oper} (hops : opsA.toList = ops) {s : St} {g : G} {a : Act} {w : World} (h : Good own W0 n s g a w) {j d : Nat} (hd : dstOf ops j = some d) (he : s.e d = some (.tup [])) :
    yielded opsA a.tmps j = none := by
  obtain ⟨vs, hv, hl, _⟩ := inv_tup (h.env d _ he)
  have hj : (opsA[j]?).bind (·.dst) = some d := by
    rw [← hd]
    simp only [dstOf, ← hops]
    simp
  simp only [yielded, hj, Option.bind_some]
  rw [Array.getD_eq_getD_getElem?] at hv
  cases hx : a.tmps[d]? with
  | none => rfl
  | some x =>
    rw [hx] at hv
    simp only [Option.getD_some] at hv
    rw [hv]

theorem tr_step (hT : TblOk P T) {t : TR} (ok : t.ok P T n ops) {s : St} (hge : ∀ x ∈ t.rs ops, s.e x = look t.s.E x) (hgm : ∀ id, memN id t.tm = true → s.m id = look t.s.M id)
    (hfr : ∀ id, memN id t.nu = true → s.u id = false) {g : G} {a : Act} {w : World} (hgood : Good own W0 n s g a w) {opsA : Array Oper} (hops : opsA.toList = ops) {i : Nat} (hi : opsA[i]? = some t.o)
    {K : Act → World → Prop} {Q : Exit → Act → World → Prop} (hK : ∀ g' a' w', Good own W0 n (s.upd t) g' a' w' → K a' w') : wpOp P opsA Q i K a w := by
  unfold wpOp
  rw [hi]
  dsimp only
  cases hrun : t.run with
  | none =>
    obtain ⟨h1, h2, h3, j, want, d, hgd, hdd, hlk⟩ := ok.skipped hrun
    have hmem : d ∈ t.rs ops := by simp [TR.rs, hrun, TR.gs, hgd, hdd]
    have hw : Region.wanted t.o (yielded opsA a.tmps) = false := by
      rcases hlk with hlk | hlk
      · have he : s.e d = some (.c (.im (.b (!want)))) := by rw [hge d hmem, hlk]
        have hy := yields hops hgood hdd he
        simp only [Region.wanted, hgd, hy]
        cases want <;> rfl
      · have he : s.e d = some (.tup []) := by rw [hge d hmem, hlk]
        have hy := yieldsN hops hgood hdd he
        simp only [Region.wanted, hgd, hy]
        rfl
    rw [hw]
    simp only [Bool.false_eq_true, if_false]
    refine hK g _ w (good_put hgood ok.dst (by rw [h1]; exact .tup rfl (by simp)) (by rw [h2]; exact hgood.mem) (.refl _ _ _) ?_)
    intro id hu _
    exact hgood.dom id hu
  | some p =>
    obtain ⟨orc, f⟩ := p
    obtain ⟨h1, h2, h3, h4, h5, h6⟩ := ok.ran orc f hrun
    have hw : Region.wanted t.o (yielded opsA a.tmps) = true := by
      rcases h6 with h6 | ⟨j, want, d, hgd, hdd, hlk⟩
      · simp [Region.wanted, h6]
      · have hmem : d ∈ t.rs ops := by simp [TR.rs, hrun, TR.gs, hgd, hdd]
        have he : s.e d = some (.c (.im (.b want))) := by rw [hge d hmem, hlk]; rfl
        have hy := yields hops hgood hdd he
        simp [Region.wanted, hgd, hy]
    rw [hw, if_pos rfl]
    left
    have hc : effAt P T t.o s.e s.m orc = some f := by
      rw [← h1]
      refine effAt_congr ?_ ?_
      · intro x hx
        exact hge x (by simp [TR.rs, hrun, hx])
      · intro id hid
        exact hgm id (by simp only [TR.tm, hrun]; exact hid)
    refine op_sound hT hgood.mem hgood.dom (fun b hb => hgood.frm.fresh b (Nat.le_trans hgood.frm.size hb)) (fun id hid => hfr id (by rw [h5]; exact hid)) hgood.env hc h2 K Q ?_
    intro v w' g' k1 k2 k3 k4
    exact hK g' _ w' (good_put hgood ok.dst (by rw [h3]; exact k1) (by rw [h4]; exact k2) k3 (fun id a b => k4 id a (by rw [← h5]; exact b)))

theorem freshOk_spec {U : List Nat} : ∀ {l : List Nat}, freshOk U l = true → ∀ id, memN id l = true → memN id U = false
  | [], _, id, h => by simp [memN] at h
  | x :: l, hf, id, h => by
    simp only [freshOk, Bool.and_eq_true, Bool.not_eq_true'] at hf
    simp only [memN] at h
    split at h
    · rename_i hb
      have := Nat.eq_of_beq_eq_true hb
      subst this
      exact hf.1.1
    · exact freshOk_spec hf.2 id h

/-- the text's order -/
theorem seq_sound (hT : TblOk P T) {opsA : Array Oper} (hops : opsA.toList = ops) {Q : Exit → Act → World → Prop} : ∀ (tr : List TR) (k : Nat) (s s' : LS), (∀ j, tr[j]?.map (·.o) = opsA[k + j]?) → Chain s tr s' → (∀ t ∈ tr, t.ok P T n ops) →
    ∀ {g : G} {a : Act} {w : World}, Good own W0 n s.st g a w → (∀ g' a' w', Good own W0 n s'.st g' a' w' → Q .normal a' w') → wpOps P opsA Q (List.range' k tr.length) a w
  | [], k, s, s', _, hc, _, g, a, w, hgood, hQ => by
    have hc' : s' = s := hc
    subst hc'
    exact hQ g a w hgood
  | t :: tr, k, s, s', ho, hc, hok, g, a, w, hgood, hQ => by
    obtain ⟨hts, hc⟩ := hc
    simp only [List.length_cons, List.range'_succ]
    rw [wpOps_cons]
    have hi : opsA[k]? = some t.o := by have := ho 0; simpa using this.symm
    refine tr_step hT (hok t (by simp)) (s := s.st) ?_ ?_ ?_ hgood hops hi ?_
    · intro x _; rw [hts]; rfl
    · intro id _; rw [hts]; rfl
    · intro id hid
      have := freshOk_spec (hok t (by simp)).fresh id hid
      rw [hts] at this
      exact this
    · intro g' a' w' hg'
      rw [← hts, ← next_st] at hg'
      refine seq_sound hT hops tr (k + 1) t.next s' ?_ hc (fun x hx => hok x (by simp [hx])) hg' hQ
      intro j
      have := ho (j + 1)
      simpa [Nat.add_assoc, Nat.add_comm 1 j] using this
end
end Go.Fw

/-
  The framework, part 14: any order.
-/
namespace Go.Fw
open Go

/-- What is known when just the operations of 'on' have been done. -/
def foldS (on : Nat → Bool) : Nat → List TR → St → St
  | _, [], s => s
  | k, t :: l, s => foldS on (k + 1) l (if on k then s.upd t else s)

theorem updM_notin : ∀ (mw : List (Nat × Option Blk)) (m : Nat → Option Blk) (x : Nat), x ∉ mw.map (·.1) → updM m mw x = m x
  | [], m, x, _ => rfl
  | (id, B) :: r, m, x, h => by
    simp only [List.map_cons, List.mem_cons, not_or] at h
    simp only [updM]
    rw [updM_notin r _ x h.2, beq_false_of_ne (fun e => h.1 e.symm)]
    rfl

theorem updM_in : ∀ (mw : List (Nat × Option Blk)) (m m' : Nat → Option Blk) (x : Nat), x ∈ mw.map (·.1) → updM m mw x = updM m' mw x
  | [], m, m', x, h => by simp at h
  | (id, B) :: r, m, m', x, h => by
    simp only [updM]
    by_cases hr : x ∈ r.map (·.1)
    · exact updM_in r _ _ x hr
    · rw [updM_notin r _ x hr, updM_notin r _ x hr]
      simp only [List.map_cons, List.mem_cons] at h
      rcases h with rfl | h
      · simp
      · exact absurd h hr

/-- two sets that agree on whoever writes a slot -/
theorem foldS_e (on on' : Nat → Bool) (x : Nat) : ∀ (l : List TR) (k : Nat) (s s' : St), s.e x = s'.e x → (∀ j t, l[j]? = some t → t.o.dst = some x → on (k + j) = on' (k + j)) → (foldS on k l s).e x = (foldS on' k l s').e x
  | [], k, s, s', h, _ => h
  | t :: l, k, s, s', h, hw => by
    simp only [foldS]
    refine foldS_e on on' x l (k + 1) _ _ ?_ (fun j t' hj hd => by have := hw (j + 1) t' (by simpa using hj) hd; simpa [Nat.add_assoc, Nat.add_comm 1 j] using this)
    by_cases hd : t.o.dst = some x
    · have := hw 0 t rfl hd
      simp only [Nat.add_zero] at this
      rw [this]
      split
      · simp [St.upd, hd]
      · exact h
    · have e1 : ∀ s : St, (s.upd t).e x = s.e x := fun s => by simp [St.upd, hd]
      split <;> split <;> simp only [e1, h]

theorem foldS_m (on on' : Nat → Bool) (x : Nat) : ∀ (l : List TR) (k : Nat) (s s' : St), s.m x = s'.m x → (∀ j t, l[j]? = some t → x ∈ t.mw.map (·.1) → on (k + j) = on' (k + j)) → (foldS on k l s).m x = (foldS on' k l s').m x
  | [], k, s, s', h, _ => h
  | t :: l, k, s, s', h, hw => by
    simp only [foldS]
    refine foldS_m on on' x l (k + 1) _ _ ?_ (fun j t' hj hd => by have := hw (j + 1) t' (by simpa using hj) hd; simpa [Nat.add_assoc, Nat.add_comm 1 j] using this)
    by_cases hd : x ∈ t.mw.map (·.1)
    · have := hw 0 t rfl hd
      simp only [Nat.add_zero] at this
      rw [this]
      split
      · exact updM_in _ _ _ x hd
      · exact h
    · have e1 : ∀ s : St, (s.upd t).m x = s.m x := fun s => updM_notin _ _ x hd
      split <;> split <;> simp only [e1, h]

/-- nobody that writes is done -/
theorem foldS_e_none (on : Nat → Bool) (x : Nat) (l : List TR) (k : Nat) (s : St) (h : ∀ j t, l[j]? = some t → t.o.dst = some x → on (k + j) = false) : (foldS on k l s).e x = s.e x := by
  have : ∀ (l : List TR) (k : Nat) (s : St), (foldS (fun _ => false) k l s) = s := by
    intro l
    induction l with
    | nil => intro k s; rfl
    | cons t l ih => intro k s; simp only [foldS]; exact ih (k + 1) s
  rw [foldS_e on (fun _ => false) x l k s s rfl h, this]
theorem foldS_m_none (on : Nat → Bool) (x : Nat) (l : List TR) (k : Nat) (s : St) (h : ∀ j t, l[j]? = some t → x ∈ t.mw.map (·.1) → on (k + j) = false) : (foldS on k l s).m x = s.m x := by
  have : ∀ (l : List TR) (k : Nat) (s : St), (foldS (fun _ => false) k l s) = s := by
    intro l
    induction l with
    | nil => intro k s; rfl
    | cons t l ih => intro k s; simp only [foldS]; exact ih (k + 1) s
  rw [foldS_m on (fun _ => false) x l k s s rfl h, this]

theorem foldS_u (on : Nat → Bool) (x : Nat) : ∀ (l : List TR) (k : Nat) (s : St), (foldS on k l s).u x = true ↔ s.u x = true ∨ ∃ j t, l[j]? = some t ∧ on (k + j) = true ∧ memN x t.nu = true
  | [], k, s => by simp [foldS]
  | t :: l, k, s => by
    simp only [foldS]
    rw [foldS_u on x l (k + 1)]
    constructor
    · rintro (h | ⟨j, t', h1, h2, h3⟩)
      · split at h
        · rename_i hk
          simp only [St.upd, Bool.or_eq_true] at h
          rcases h with h | h
          · exact .inr ⟨0, t, rfl, by simpa using hk, h⟩
          · exact .inl h
        · exact .inl h
      · exact .inr ⟨j + 1, t', by simpa using h1, by rw [← h2]; congr 1; omega, h3⟩
    · rintro (h | ⟨j, t', h1, h2, h3⟩)
      · left
        split
        · simp [St.upd, h]
        · exact h
      · cases j with
        | zero =>
          left
          simp only [List.getElem?_cons_zero, Option.some.injEq] at h1
          subst h1
          rw [if_pos (by simpa using h2)]
          simp [St.upd, h3]
        | succ j => exact .inr ⟨j, t', by simpa using h1, by rw [← h2]; congr 1; omega, h3⟩

/-- behind one more -/
theorem foldS_more (on : Nat → Bool) (i : Nat) : ∀ (l : List TR) (k : Nat) (s : St) (t : TR), l[i]? = some t → on (k + i) = false →
    (∀ j t', l[j]? = some t' → i < j → on (k + j) = true → (∀ x, t.o.dst = some x → t'.o.dst ≠ some x) ∧ (∀ x, x ∈ t.mw.map (·.1) → x ∉ t'.mw.map (·.1))) →
    foldS (fun j => on j || j == k + i) k l s = (foldS on k l s).upd t := by
  intro l k s t hi hoff hlate
  have hon : ∀ j, j ≠ i → (fun j => on j || j == k + i) (k + j) = on (k + j) := by
    intro j hj
    have : (k + j == k + i) = false := by simp; exact hj
    simp [this]
  have e1 : ∀ x, (foldS (fun j => on j || j == k + i) k l s).e x = ((foldS on k l s).upd t).e x := by
    intro x
    by_cases hd : t.o.dst = some x
    · -- split the list at i
      have key : ∀ (l : List TR) (k i : Nat) (s : St) (on : Nat → Bool), l[i]? = some t → on (k + i) = true → (∀ j t', l[j]? = some t' → i < j → on (k + j) = true → t'.o.dst ≠ some x) → (foldS on k l s).e x = some t.val := by
        intro l
        induction l with
        | nil => intro k i s on h; simp at h
        | cons t0 l ih =>
          intro k i s on h1 h2 h3
          cases i with
          | zero =>
            simp only [List.getElem?_cons_zero, Option.some.injEq] at h1
            subst h1
            simp only [foldS]
            rw [if_pos (by simpa using h2), foldS_e_none]
            · simp [St.upd, hd]
            · intro j t' hj hdd
              cases hon : on (k + 1 + j) with
              | false => rfl
              | true => exact absurd hdd (h3 (j + 1) t' (by simpa using hj) (by omega) (by rw [← hon]; congr 1; omega))
          | succ i =>
            simp only [foldS]
            exact ih (k + 1) i _ on (by simpa using h1) (by rw [← h2]; congr 1; omega) (fun j t' hj hij ho => h3 (j + 1) t' (by simpa using hj) (by omega) (by rw [← ho]; congr 1; omega))
      rw [key l k i s _ hi (by simp) (fun j t' hj hij ho => (hlate j t' hj hij (by rw [← hon j (by omega)]; exact ho)).1 x hd)]
      simp [St.upd, hd]
    · rw [foldS_e _ on x l k s s rfl]
      · simp [St.upd, hd]
      · intro j t' hj hdd
        refine hon j (fun e => hd ?_)
        subst e
        rw [hi] at hj
        cases hj
        exact hdd
  have e2 : ∀ x, (foldS (fun j => on j || j == k + i) k l s).m x = ((foldS on k l s).upd t).m x := by
    intro x
    by_cases hd : x ∈ t.mw.map (·.1)
    · have key : ∀ (l : List TR) (k i : Nat) (s : St) (on : Nat → Bool), l[i]? = some t → on (k + i) = true → (∀ j t', l[j]? = some t' → i < j → on (k + j) = true → x ∉ t'.mw.map (·.1)) → (foldS on k l s).m x = updM (fun _ => none) t.mw x := by
        intro l
        induction l with
        | nil => intro k i s on h; simp at h
        | cons t0 l ih =>
          intro k i s on h1 h2 h3
          cases i with
          | zero =>
            simp only [List.getElem?_cons_zero, Option.some.injEq] at h1
            subst h1
            simp only [foldS]
            rw [if_pos (by simpa using h2), foldS_m_none]
            · exact updM_in _ _ _ x hd
            · intro j t' hj hdd
              cases hon : on (k + 1 + j) with
              | false => rfl
              | true => exact absurd hdd (h3 (j + 1) t' (by simpa using hj) (by omega) (by rw [← hon]; congr 1; omega))
          | succ i =>
            simp only [foldS]
            exact ih (k + 1) i _ on (by simpa using h1) (by rw [← h2]; congr 1; omega) (fun j t' hj hij ho => h3 (j + 1) t' (by simpa using hj) (by omega) (by rw [← ho]; congr 1; omega))
      rw [key l k i s _ hi (by simp) (fun j t' hj hij ho => (hlate j t' hj hij (by rw [← hon j (by omega)]; exact ho)).2 x hd)]
      exact updM_in _ _ _ x hd
    · rw [foldS_m _ on x l k s s rfl]
      · exact (updM_notin _ _ x hd).symm
      · intro j t' hj hdd
        refine hon j (fun e => hd ?_)
        subst e
        rw [hi] at hj
        cases hj
        exact hdd
  have e3 : ∀ x, (foldS (fun j => on j || j == k + i) k l s).u x = ((foldS on k l s).upd t).u x := by
    intro x
    rw [Bool.eq_iff_iff, foldS_u]
    simp only [St.upd, Bool.or_eq_true]
    rw [foldS_u]
    constructor
    · rintro (h | ⟨j, t', h1, h2, h3⟩)
      · exact .inr (.inl h)
      · by_cases hj : j = i
        · subst hj
          rw [hi] at h1
          cases h1
          exact .inl h3
        · have h2' : on (k + j) = true := by
            rw [← hon j hj]
            simpa using h2
          exact .inr (.inr ⟨j, t', h1, h2', h3⟩)
    · rintro (h | h | ⟨j, t', h1, h2, h3⟩)
      · exact .inr ⟨i, t, hi, by simp, h⟩
      · exact .inl h
      · exact .inr ⟨j, t', h1, by simp [h2], h3⟩
  cases hA : foldS (fun j => on j || j == k + i) k l s
  cases hB : (foldS on k l s).upd t
  rw [hA, hB] at e1 e2 e3
  simp only [St.mk.injEq]
  exact ⟨funext e1, funext e2, funext e3⟩

/-- all of them, and none -/
theorem foldS_chain : ∀ (l : List TR) (k : Nat) (s s' : LS) (on : Nat → Bool), Chain s l s' → (∀ j, j < l.length → on (k + j) = true) → foldS on k l s.st = s'.st
  | [], k, s, s', on, h, _ => by have h' : s' = s := h; subst h'; rfl
  | t :: l, k, s, s', on, h, ho => by
    obtain ⟨h1, h2⟩ := h
    simp only [foldS]
    rw [if_pos (by simpa using ho 0 (by simp)), ← h1, ← next_st]
    exact foldS_chain l (k + 1) t.next s' on h2 (fun j hj => by have := ho (j + 1) (by simp; omega); rw [← this]; congr 1; omega)

/-- what the i-th found, in the text's order -/
theorem chain_at : ∀ (l : List TR) (k : Nat) (s s' : LS) (i : Nat) (t : TR), Chain s l s' → l[i]? = some t → t.s.st = foldS (fun j => decide (j < k + i)) k l s.st
  | [], k, s, s', i, t, _, hi => by simp at hi
  | t0 :: l, k, s, s', i, t, h, hi => by
    obtain ⟨h1, h2⟩ := h
    cases i with
    | zero =>
      simp only [List.getElem?_cons_zero, Option.some.injEq] at hi
      subst hi
      have : ∀ (l : List TR) (k' : Nat) (s : St), k ≤ k' → (foldS (fun j => decide (j < k + 0)) k' l s) = s := by
        intro l
        induction l with
        | nil => intro k' s _; rfl
        | cons t l ih => intro k' s hk; simp only [foldS]; rw [if_neg (by simp; omega)]; exact ih (k' + 1) s (by omega)
      rw [this _ k _ (Nat.le_refl _), h1]
    | succ i =>
      simp only [foldS]
      rw [if_pos (by simp), ← h1, ← next_st]
      have := chain_at l (k + 1) t0.next s' i t h2 (by simpa using hi)
      rw [this]
      congr 1
      funext j
      congr 1
      apply propext
      constructor <;> intro h <;> omega

end Go.Fw

/-
  The framework, part 15: a region, in whatever order.
-/
namespace Go.Fw
open Go

section
variable {P : Program} {T : TypeId → Option TI} {n : Nat} {ops : List Oper} {own : Ow} {W0 : World}

def onOf (listed : Array Bool) : Nat → Bool := fun k => listed.getD k false

theorem edgesOn_mem {l : List Edge} {e : Edge} (h : e ∈ l) (hb : Region.binds .any e = true) : e.on ∈ edgesOn l := by
  induction l with
  | nil => simp at h
  | cons x l ih =>
    simp only [edgesOn]
    rcases List.mem_cons.1 h with rfl | h
    · rw [if_pos hb]; simp
    · split
      · exact List.mem_cons_of_mem _ (ih h)
      · exact ih h
theorem mem_edgesOn {l : List Edge} {k : Nat} (h : k ∈ edgesOn l) : ∃ e ∈ l, Region.binds .any e = true ∧ e.on = k := by
  induction l with
  | nil => simp [edgesOn] at h
  | cons x l ih =>
    simp only [edgesOn] at h
    split at h
    · rename_i hb
      rcases List.mem_cons.1 h with rfl | h
      · exact ⟨x, by simp, hb, rfl⟩
      · obtain ⟨e, h1, h2⟩ := ih h
        exact ⟨e, by simp [h1], h2⟩
    · obtain ⟨e, h1, h2⟩ := ih h
      exact ⟨e, by simp [h1], h2⟩

/-- the ancestors are done -/
theorem anc_on (on : Nat → Bool) (tr : List TR) (hrec : ∀ i t, tr[i]? = some t → t.anc = ancOf ((tr.map (·.rc ops)).take i) (edgesOn t.o.after.toList))
    (hedge : ∀ i t, tr[i]? = some t → ∀ k ∈ edgesOn t.o.after.toList, k < i) (hclosed : ∀ i t, tr[i]? = some t → on i = true → ∀ k ∈ edgesOn t.o.after.toList, on k = true) :
    ∀ (i : Nat) (t : TR), tr[i]? = some t → (∀ k ∈ edgesOn t.o.after.toList, on k = true) → ∀ k, Nat.testBit t.anc k = true → on k = true := by
  intro i
  induction i using Nat.strongRecOn with
  | _ i ih =>
    intro t hi hon k hk
    rw [hrec i t hi] at hk
    have hedg := hedge i t hi
    have key : ∀ (es : List Nat), (∀ k ∈ es, k < i ∧ on k = true) → ∀ k, Nat.testBit (ancOf ((tr.map (·.rc ops)).take i) es) k = true → on k = true := by
      intro es
      induction es with
      | nil => intro _ k hk; simp [ancOf] at hk
      | cons d es ihe =>
        intro hes k hk
        rw [ancOf, show ∀ a b : Nat, Nat.lor a b = a ||| b from fun _ _ => rfl, show ∀ a b : Nat, Nat.lor a b = a ||| b from fun _ _ => rfl, Nat.testBit_or, Nat.testBit_or, Nat.testBit_two_pow] at hk
        simp only [Bool.or_eq_true, decide_eq_true_eq, or_assoc] at hk
        obtain ⟨hd1, hd2⟩ := hes d (by simp)
        rcases hk with rfl | hk | hk
        · exact hd2
        · rw [List.getElem?_take, if_pos hd1, List.getElem?_map] at hk
          cases ht : tr[d]? with
          | none => rw [ht] at hk; simp at hk
          | some td =>
            rw [ht] at hk
            simp only [Option.map_some, Option.elim_some] at hk
            exact ih d hd1 td ht (hclosed d td ht hd2) k hk
        · exact ihe (fun k hk => hes k (by simp [hk])) k hk
    exact key _ (fun k hk => ⟨hedg k hk, hon k hk⟩) k hk

theorem ordFrom_spec {b : Rec} : ∀ {l : List Rec} {i : Nat}, ordFrom b i l = true → ∀ j a, l[j]? = some a → Nat.testBit b.anc (i + j) = true ∨ a.conflict b = false
  | [], _, _, j, a, h => by simp at h
  | x :: l, i, ho, j, a, h => by
    simp only [ordFrom, Bool.and_eq_true, Bool.or_eq_true, Bool.not_eq_true'] at ho
    cases j with
    | zero =>
      simp only [List.getElem?_cons_zero, Option.some.injEq] at h
      subst h
      exact ho.1
    | succ j =>
      have := ordFrom_spec ho.2 j a (by simpa using h)
      rw [show i + (j + 1) = i + 1 + j by omega]
      exact this

theorem ordAll_spec (all : List Rec) : ∀ {l : List Rec} {k : Nat}, all.drop k = l → k ≤ all.length → ordAll all l = true → ∀ j b, l[j]? = some b → ordFrom b 0 (all.take (k + j)) = true
  | [], _, _, _, _, j, b, h => by simp at h
  | x :: l, k, hd, hk, ho, j, b, h => by
    simp only [ordAll, Bool.and_eq_true] at ho
    have hlen : all.length = k + (x :: l).length := by
      have := congrArg List.length hd
      rw [List.length_drop] at this
      omega
    cases j with
    | zero =>
      simp only [List.getElem?_cons_zero, Option.some.injEq] at h
      subst h
      have h1 := ho.1
      rw [show all.length - (x :: l).length = k + 0 by omega] at h1
      exact h1
    | succ j =>
      have hd' : all.drop (k + 1) = l := by
        rw [← List.drop_drop, hd]
        rfl
      have := ordAll_spec all hd' (by simp at hlen; omega) ho.2 j b (by simpa using h)
      rw [show k + (j + 1) = k + 1 + j by omega]
      exact this

theorem edgesOk_spec : ∀ {l : List Oper} {i : Nat}, edgesOk i l = true → ∀ j o, l[j]? = some o → ∀ k ∈ edgesOn o.after.toList, k < i + j
  | [], _, _, j, o, h => by simp at h
  | x :: l, i, he, j, o, h => by
    simp only [edgesOk, Bool.and_eq_true] at he
    cases j with
    | zero =>
      simp only [List.getElem?_cons_zero, Option.some.injEq] at h
      subst h
      intro k hk
      have := List.all_eq_true.1 he.1 k hk
      simpa using this
    | succ j =>
      have := edgesOk_spec he.2 j o (by simpa using h)
      intro k hk
      have := this k hk
      omega

theorem recs_spec : ∀ {tr : List TR} {rs : List Rec}, recsOf ops rs tr → ∀ i t, tr[i]? = some t → t.anc = ancOf (rs ++ (tr.map (·.rc ops)).take i) (edgesOn t.o.after.toList)
  | [], _, _, i, t, h => by simp at h
  | x :: tr, rs, hr, i, t, h => by
    obtain ⟨h1, h2⟩ := hr
    cases i with
    | zero =>
      simp only [List.getElem?_cons_zero, Option.some.injEq] at h
      subst h
      simpa using h1
    | succ i =>
      have := recs_spec h2 i t (by simpa using h)
      rw [this]
      congr 1
      simp

theorem meets_mem {a b : List Nat} (h : meets a b = false) {x : Nat} (ha : x ∈ a) : x ∉ b := by
  induction a with
  | nil => simp at ha
  | cons y a ih =>
    simp only [meets, Bool.or_eq_false_iff] at h
    rcases List.mem_cons.1 ha with rfl | ha
    · intro hb
      rw [memN_mem.2 hb] at h
      cases h.1
    · exact ih h.2 ha

theorem conflict_spec {a b : Rec} (h : a.conflict b = false) : (∀ x, a.d = some x → x ∉ b.rs ∧ b.d ≠ some x) ∧ (∀ x, b.d = some x → x ∉ a.rs) ∧ (∀ x, x ∈ a.wm → x ∉ b.tm ∧ x ∉ b.wm) ∧ (∀ x, x ∈ b.wm → x ∉ a.tm) := by
  simp only [Rec.conflict, Bool.or_eq_false_iff] at h
  obtain ⟨⟨⟨⟨h1, h2⟩, h3⟩, h4⟩, h5⟩ := h
  refine ⟨?_, ?_, fun x hx => ⟨meets_mem h3 hx, meets_mem h4 hx⟩, fun x hx => meets_mem h5 hx⟩
  · intro x hx
    rw [hx] at h1
    simp only [Bool.or_eq_false_iff] at h1
    refine ⟨fun hb => ?_, fun hb => ?_⟩
    · rw [memN_mem.2 hb] at h1; cases h1.1
    · rw [hb] at h1
      simp at h1
  · intro x hx ha
    rw [hx] at h2
    simp only at h2
    rw [memN_mem.2 ha] at h2
    cases h2

theorem draw_sound (hT : TblOk P T) {opsA : Array Oper} (hops : opsA.toList = ops) {Q : Exit → Act → World → Prop} {tr : List TR} {s s' : LS} (htr : tr.map (·.o) = ops) (hc : Chain s tr s') (hok : ∀ t ∈ tr, t.ok P T n ops)
    (hrec : recsOf ops [] tr) (hedges : edgesOk 0 ops = true) (hord : ordAll (tr.map (·.rc ops)) (tr.map (·.rc ops)) = true) {g : G} {a : Act} {w : World} (hgood : Good own W0 n s.st g a w)
    (hQ : ∀ g' a' w', Good own W0 n s'.st g' a' w' → Q .normal a' w') : wpAny P .any opsA Q opsA.size (Array.replicate opsA.size false) a w := by
  have hsize : opsA.size = tr.length := by rw [← Array.length_toList, hops, ← htr, List.length_map]
  have hat : ∀ (i : Nat) (t : TR), tr[i]? = some t → opsA[i]? = some t.o := by
    intro i t hi
    have : ops[i]? = some t.o := by rw [← htr, List.getElem?_map, hi]; rfl
    rw [← hops] at this
    simpa using this
  have hrec' : ∀ (i : Nat) (t : TR), tr[i]? = some t → t.anc = ancOf ((tr.map (·.rc ops)).take i) (edgesOn t.o.after.toList) := by
    intro i t hi
    simpa using recs_spec hrec i t hi
  have hedge' : ∀ (i : Nat) (t : TR), tr[i]? = some t → ∀ k ∈ edgesOn t.o.after.toList, k < i := by
    intro i t hi k hk
    have : ops[i]? = some t.o := by rw [← htr, List.getElem?_map, hi]; rfl
    have := edgesOk_spec hedges i t.o this k hk
    omega
  have hconf : ∀ (i j : Nat) (t u : TR), tr[i]? = some t → tr[j]? = some u → j < i → Nat.testBit t.anc j = true ∨ (u.rc ops).conflict (t.rc ops) = false := by
    intro i j t u hi hj hji
    have h1 := ordAll_spec (tr.map (·.rc ops)) (l := tr.map (·.rc ops)) (k := 0) rfl (Nat.zero_le _) hord i (t.rc ops) (by rw [List.getElem?_map, hi]; rfl)
    have := ordFrom_spec h1 j (u.rc ops) (by rw [Nat.zero_add, List.getElem?_take, if_pos hji, List.getElem?_map, hj]; rfl)
    rwa [Nat.zero_add] at this
  -- the induction
  have main : ∀ (fuel : Nat) (listed : Array Bool), listed.size = tr.length → (List.range tr.length).countP (fun k => !onOf listed k) ≤ fuel →
      (∀ (i : Nat) (t : TR), tr[i]? = some t → onOf listed i = true → ∀ k ∈ edgesOn t.o.after.toList, onOf listed k = true) →
      ∀ {g : G} {a : Act} {w : World}, Good own W0 n (foldS (onOf listed) 0 tr s.st) g a w → wpAny P .any opsA Q fuel listed a w := by
    intro fuel
    induction fuel with
    | zero =>
      intro listed hls hcnt hcl g a w hg
      have hall : ∀ k, k < tr.length → onOf listed k = true := by
        intro k hk
        cases hon : onOf listed k with
        | true => rfl
        | false =>
          have : 0 < (List.range tr.length).countP (fun k => !onOf listed k) := List.countP_pos_iff.2 ⟨k, by simpa using hk, by simp [hon]⟩
          omega
      refine ⟨?_, ?_⟩
      · cases hr : Region.ready .any opsA listed with
        | nil => rfl
        | cons i l =>
          have hi : i ∈ Region.ready .any opsA listed := by rw [hr]; simp
          obtain ⟨h1, o, ho, _⟩ := mem_ready.1 hi
          have hlt : i < tr.length := by rw [← hsize]; exact (Array.getElem?_eq_some_iff.1 ho).1
          have h2 := hall i hlt
          simp only [onOf, Array.getD_eq_getD_getElem?] at h1 h2
          rw [Array.getElem?_eq_getElem (by rw [hls]; exact hlt)] at h1 h2
          simp only [Option.getD_some] at h1 h2
          rw [h1] at h2
          cases h2
      · rw [foldS_chain tr 0 s s' (onOf listed) hc (fun j hj => by rw [Nat.zero_add]; exact hall j hj)] at hg
        exact hQ g a w hg
    | succ fuel ih =>
      intro listed hls hcnt hcl g a w hg
      refine ⟨?_, ?_⟩
      · intro hr
        have hall : ∀ k, k < tr.length → onOf listed k = true := by
          intro k
          induction k using Nat.strongRecOn with
          | _ k ihk =>
            intro hk
            cases hon : onOf listed k with
            | true => rfl
            | false =>
              exfalso
              have hk' := List.getElem?_eq_getElem hk
              have : k ∈ Region.ready .any opsA listed := by
                refine mem_ready.2 ⟨?_, tr[k].o, hat k _ hk', ?_⟩
                · simp only [onOf, Array.getD_eq_getD_getElem?] at hon ⊢
                  rw [Array.getElem?_eq_getElem (by rw [hls]; exact hk)] at hon ⊢
                  exact hon
                · intro e he hb
                  have hmem : e.on ∈ edgesOn tr[k].o.after.toList := edgesOn_mem (by simpa using he) hb
                  have hlt := hedge' k _ hk' e.on hmem
                  exact ihk e.on hlt (by omega)
              rw [hr] at this
              simp at this
        rw [foldS_chain tr 0 s s' (onOf listed) hc (fun j hj => by rw [Nat.zero_add]; exact hall j hj)] at hg
        exact hQ g a w hg
      · intro i hi
        obtain ⟨h1, o, ho, hdeps⟩ := mem_ready.1 hi
        have hlt : i < tr.length := by rw [← hsize]; exact (Array.getElem?_eq_some_iff.1 ho).1
        have hti := List.getElem?_eq_getElem hlt
        generalize htdef : tr[i] = t at hti
        have hoo : opsA[i]? = some t.o := hat i t hti
        rw [ho] at hoo
        cases hoo
        have hoff : onOf listed i = false := by
          simp only [onOf, Array.getD_eq_getD_getElem?] at h1 ⊢
          rw [Array.getElem?_eq_getElem (by rw [hls]; exact hlt)] at h1 ⊢
          exact h1
        have hdep : ∀ k ∈ edgesOn t.o.after.toList, onOf listed k = true := by
          intro k hk
          obtain ⟨e, he, hb, rfl⟩ := mem_edgesOn hk
          exact hdeps e (by simpa using he) hb
        have hanc := anc_on (ops := ops) (onOf listed) tr hrec' hedge' hcl i t hti hdep
        have hancOf : ∀ (j : Nat) (u : TR), tr[j]? = some u → onOf listed j = true → ∀ k, Nat.testBit u.anc k = true → onOf listed k = true := fun j u hj hon => anc_on (ops := ops) (onOf listed) tr hrec' hedge' hcl j u hj (hcl j u hj hon)
        -- whoever is at odds with the i-th is done, if it stands ahead; is not, if it stands behind
        have ahead : ∀ (j : Nat) (u : TR), tr[j]? = some u → j < i → (u.rc ops).conflict (t.rc ops) = true → onOf listed j = true := by
          intro j u hj hji hcf
          rcases hconf i j t u hti hj hji with h | h
          · exact hanc j h
          · rw [hcf] at h; cases h
        have behind : ∀ (j : Nat) (u : TR), tr[j]? = some u → i < j → (t.rc ops).conflict (u.rc ops) = true → onOf listed j = false := by
          intro j u hj hij hcf
          cases hon : onOf listed j with
          | false => rfl
          | true =>
            rcases hconf j i u t hj hti hij with h | h
            · have := hancOf j u hj hon i h
              rw [hoff] at this
              cases this
            · rw [hcf] at h; cases h
        have okt := hok t (List.mem_of_getElem? hti)
        have hst := chain_at tr 0 s s' i t hc hti
        simp only [Nat.zero_add] at hst
        have agree : ∀ (j : Nat) (u : TR), tr[j]? = some u → ((u.rc ops).conflict (t.rc ops) = true ∨ (t.rc ops).conflict (u.rc ops) = true) → j ≠ i → onOf listed j = decide (j < i) := by
          intro j u hj hcf hne
          -- conflict is symmetric in its effect
          have symm : ∀ a b : Rec, a.conflict b = true → b.conflict a = true := by
            intro a b h
            cases hba : b.conflict a with
            | true => rfl
            | false =>
              obtain ⟨k1, k2, k3, k4⟩ := conflict_spec hba
              exfalso
              have : a.conflict b = false := by
                simp only [Rec.conflict, Bool.or_eq_false_iff]
                have mt : ∀ l r : List Nat, (∀ x ∈ l, x ∉ r) → meets l r = false := by
                  intro l
                  induction l with
                  | nil => intro r _; rfl
                  | cons y l ihl =>
                    intro r hr
                    simp only [meets, Bool.or_eq_false_iff]
                    refine ⟨?_, ihl r (fun x hx => hr x (by simp [hx]))⟩
                    cases hm : memN y r with
                    | false => rfl
                    | true => exact absurd (memN_mem.1 hm) (hr y (by simp))
                have nm : ∀ x (l : List Nat), x ∉ l → memN x l = false := by
                  intro x l hx
                  cases hm : memN x l with
                  | false => rfl
                  | true => exact absurd (memN_mem.1 hm) hx
                refine ⟨⟨⟨⟨?_, ?_⟩, mt _ _ (fun x hx => ?_)⟩, mt _ _ (fun x hx => ?_)⟩, mt _ _ (fun x hx => ?_)⟩
                · cases hd : a.d with
                  | none => rfl
                  | some x =>
                    simp only [Bool.or_eq_false_iff]
                    refine ⟨nm x _ (k2 x hd), ?_⟩
                    cases hd2 : b.d with
                    | none => rfl
                    | some y =>
                      have := (k1 y hd2).2
                      rw [hd] at this
                      exact beq_false_of_ne (fun e => this (by rw [e]))
                · cases hd : b.d with
                  | none => rfl
                  | some x => exact nm x _ (k1 x hd).1
                · exact k4 x hx
                · intro hb; exact (k3 x hb).2 hx
                · exact (k3 x hx).1
              rw [this] at h
              cases h
          rcases Nat.lt_trichotomy j i with hji | hji | hji
          · rw [decide_eq_true hji]
            exact ahead j u hj hji (hcf.elim id (symm _ _))
          · exact absurd hji hne
          · rw [decide_eq_false (by omega)]
            exact behind j u hj hji (hcf.elim (symm _ _) id)
        refine tr_step hT okt (s := foldS (onOf listed) 0 tr s.st) ?_ ?_ ?_ hg hops (hat i t hti) ?_
        · -- the slots that it reads
          intro x hx
          show _ = t.s.st.e x
          rw [hst]
          refine foldS_e _ _ x tr 0 _ _ rfl ?_
          intro j u hj hdst
          rw [Nat.zero_add]
          by_cases hne : j = i
          · subst hne
            rw [hoff, decide_eq_false (by omega)]
          · refine agree j u hj (.inl ?_) hne
            cases hcf : (u.rc ops).conflict (t.rc ops) with
            | true => rfl
            | false => exact absurd hx ((conflict_spec hcf).1 x hdst).1
        · intro id hid
          show _ = t.s.st.m id
          rw [hst]
          refine foldS_m _ _ id tr 0 _ _ rfl ?_
          intro j u hj hmem
          rw [Nat.zero_add]
          by_cases hne : j = i
          · subst hne
            rw [hoff, decide_eq_false (by omega)]
          · refine agree j u hj (.inl ?_) hne
            cases hcf : (u.rc ops).conflict (t.rc ops) with
            | true => rfl
            | false => exact absurd (memN_mem.1 hid) ((conflict_spec hcf).2.2.1 id hmem).1
        · -- its new names are new
          intro id hid
          cases hu : (foldS (onOf listed) 0 tr s.st).u id with
          | false => rfl
          | true =>
            exfalso
            rw [foldS_u] at hu
            have hfr := freshOk_spec okt.fresh id hid
            have hfr' : t.s.st.u id = false := hfr
            have hnot : ¬ (t.s.st.u id = true) := by rw [hfr']; simp
            rcases hu with h | ⟨j, u, h1, h2, h3⟩
            · refine hnot ?_
              rw [hst, foldS_u]
              exact .inl h
            · rw [Nat.zero_add] at h2
              rcases Nat.lt_trichotomy j i with hji | hji | hji
              · refine hnot ?_
                rw [hst, foldS_u]
                exact .inr ⟨j, u, h1, by simpa using hji, h3⟩
              · subst hji
                rw [hoff] at h2
                cases h2
              · have oku := hok u (List.mem_of_getElem? h1)
                have hfu : u.s.st.u id = false := freshOk_spec oku.fresh id h3
                have : u.s.st.u id = true := by
                  have hsu := chain_at tr 0 s s' j u hc h1
                  simp only [Nat.zero_add] at hsu
                  rw [hsu, foldS_u]
                  exact .inr ⟨i, t, hti, by simpa using hji, hid⟩
                rw [hfu] at this
                cases this
        · intro g' a' w' hg'
          have hmore := foldS_more (onOf listed) i tr 0 s.st t hti (by rw [Nat.zero_add]; exact hoff) (by
            intro j u hj hij hon
            rw [Nat.zero_add] at hon
            cases hcf : (t.rc ops).conflict (u.rc ops) with
            | true => rw [behind j u hj hij hcf] at hon; cases hon
            | false =>
              obtain ⟨k1, _, k3, _⟩ := conflict_spec hcf
              exact ⟨fun x hx => (k1 x hx).2, fun x hx => (k3 x hx).2⟩)
          rw [Nat.zero_add] at hmore
          rw [← hmore] at hg'
          have hon' : onOf (listed.setIfInBounds i true) = fun j => onOf listed j || j == i := by
            funext j
            simp only [onOf]
            by_cases hj : i = j
            · subst hj
              have : (listed.setIfInBounds i true).getD i false = true := by
                rw [Array.getD_eq_getD_getElem?, Array.getElem?_setIfInBounds, if_pos rfl, if_pos (by rw [hls]; exact hlt)]
                rfl
              rw [this]
              simp
            · rw [getD_set_ne false hj]
              have : (j == i) = false := by simp; exact fun e => hj e.symm
              rw [this, Bool.or_false]
          refine ih (listed.setIfInBounds i true) (by simp [hls]) ?_ ?_ (by rw [hon']; exact hg')
          · rw [hon']
            have hcount : (List.range tr.length).countP (fun k => !(onOf listed k || k == i)) + 1 = (List.range tr.length).countP (fun k => !onOf listed k) := by
              have gen : ∀ (l : List Nat), l.Nodup → i ∈ l → l.countP (fun k => !(onOf listed k || k == i)) + 1 = l.countP (fun k => !onOf listed k) := by
                intro l
                induction l with
                | nil => intro _ h; simp at h
                | cons y l ihl =>
                  intro hnd hmem
                  rw [List.nodup_cons] at hnd
                  by_cases hy : y = i
                  · subst hy
                    have heq : l.countP (fun k => !(onOf listed k || k == y)) = l.countP (fun k => !onOf listed k) := by
                      apply List.countP_congr
                      intro x hx
                      have : (x == y) = false := by
                        simp
                        rintro rfl
                        exact hnd.1 hx
                      simp [this]
                    rw [List.countP_cons, List.countP_cons, heq, hoff]
                    simp
                  · have hmem' : i ∈ l := by
                      rcases List.mem_cons.1 hmem with h | h
                      · exact absurd h.symm hy
                      · exact h
                    have := ihl hnd.2 hmem'
                    rw [List.countP_cons, List.countP_cons, ← this]
                    have hyi : (y == i) = false := by simp; exact hy
                    rw [hyi, Bool.or_false]
                    omega
              exact gen _ List.nodup_range (by simpa using hlt)
            show (List.range tr.length).countP (fun k => !(onOf listed k || k == i)) ≤ fuel
            omega
          · rw [hon']
            intro j u hj hon k hk
            simp only [Bool.or_eq_true, beq_iff_eq] at hon ⊢
            rcases hon with hon | rfl
            · exact .inl (hcl j u hj hon k hk)
            · rw [hti] at hj
              cases hj
              exact .inl (hdep k hk)
  refine main opsA.size (Array.replicate opsA.size false) (by simp [hsize]) ?_ ?_ (g := g) ?_
  · rw [hsize]
    exact Nat.le_trans List.countP_le_length (by simp)
  · intro i t hi hon
    simp only [onOf] at hon
    simp [Array.getD_eq_getD_getElem?, Array.getElem?_replicate] at hon
    split at hon <;> simp at hon
  · have : foldS (onOf (Array.replicate opsA.size false)) 0 tr s.st = s.st := by
      have gen : ∀ (l : List TR) (k : Nat) (s : St), foldS (onOf (Array.replicate opsA.size false)) k l s = s := by
        intro l
        induction l with
        | nil => intro k s; rfl
        | cons t l ihl =>
          intro k s
          simp only [foldS]
          rw [if_neg]
          · exact ihl (k + 1) s
          · simp only [onOf, Array.getD_eq_getD_getElem?, Array.getElem?_replicate]
            split <;> simp
      exact gen tr 0 s.st
    rw [this]
    exact hgood

end
end Go.Fw

/-
  The framework, part 16: commands behind a region; a region, whole.
-/
namespace Go.Fw
open Go

section
variable {P : Program} {T : TypeId → Option TI} {n : Nat} {own : Ow} {W0 : World} {g : G} {a : Act} {w : World}

/-- A state and its memory under other names and with more data: the world and the slots stay. -/
theorem good_of {s s' : LS} {g' : G} (h : Good own W0 n s.st g a w) (he : ∀ x d, look s'.E x = some d → RepD g' w d (a.tmps.getD x undef)) (hm : MemOk own g' w (look s'.M)) (hu : ∀ id, memN id s'.U = false → g'.ids id = none)
    (hi : ∀ b, g.imm b → g'.imm b) : Good own W0 n s'.st g' a w :=
  ⟨h.dfr, h.tsz, he, hm, hu, fun b hb => hi b (h.ini b hb), h.frm⟩

theorem look_keepE : ∀ (l : List Nat) (E : List (Nat × Dat)) (x : Nat) (d : Dat), look (keepE E l) x = some d → look E x = some d
  | [], E, x, d, h => by simp [keepE, look] at h
  | y :: l, E, x, d, h => by
    simp only [keepE] at h
    split at h
    · rename_i d' hd'
      rw [look_cons] at h
      split at h
      · rename_i hb
        have := Nat.eq_of_beq_eq_true hb
        subst this
        cases h
        exact hd'
      · exact look_keepE l E x d h
    · exact look_keepE l E x d h
theorem look_keepM : ∀ (l : List Nat) (E : List (Nat × Blk)) (x : Nat) (d : Blk), look (keepM E l) x = some d → look E x = some d
  | [], E, x, d, h => by simp [keepM, look] at h
  | y :: l, E, x, d, h => by
    simp only [keepM] at h
    split at h
    · rename_i d' hd'
      rw [look_cons] at h
      split at h
      · rename_i hb
        have := Nat.eq_of_beq_eq_true hb
        subst this
        cases h
        exact hd'
      · exact look_keepM l E x d h
    · exact look_keepM l E x d h

theorem memOk_sub {m m' : Nat → Option Blk} (hm : MemOk own g w m) (h : ∀ id B, m' id = some B → m id = some B) : MemOk own g w m' :=
  ⟨fun id B hB => hm.ok id B (h id B hB), fun id id' B B' b c c' h1 h2 => hm.dis id id' B B' b c c' (h _ _ h1) (h _ _ h2), fun id B b c hB => hm.own id B b c (h _ _ hB), hm.imm, hm.io⟩

/-! the block of a name becomes a datum's -/
def G.fz (g : G) (id : Nat) : G := ⟨g.ids, fun b => g.imm b ∨ ∃ c, g.ids id = some (some (b, c))⟩

theorem le_fz (g : G) (w : World) (id : Nat) : Le g w (g.fz id) w := ⟨fun _ _ h => h, fun _ h => .inl h, fun _ _ => rfl⟩

/-- what the row is, as a datum -/
theorem row_datum {m : Nat → Option Blk} (hm : MemOk own g w m) {id sz : Nat} {e : TypeId} {es : List (List ID)} (h : m id = some (.row e sz es)) {sz' n : Nat} {v : Value} (hr : RepC g w (.lsl id sz' 0 n) v) (hn : n = es.length) :
    RepI w (g.fz id).imm (.sl sz es) v := by
  subst hn
  rcases inv_lsl (.c hr) with ⟨hi, _, h0, rfl⟩ | ⟨b, c, q, hi, hle, hoff, hmx, rfl⟩
  · have : es = [] := List.eq_nil_of_length_eq_zero h0
    subst this
    exact .sl0 _
  · have hq : q = 0 := by
      rcases hoff with h1 | h1
      · omega
      · simpa using h1
    subst hq
    obtain ⟨hl, hc, hcell⟩ := row_cells hm h hi
    refine .sl _ es b 0 _ (fun k => (w.cell? ⟨b, k, none⟩).getD undef) (.inr ⟨c, hi⟩) (by omega) (by omega) hl ?_ ?_
    · intro k d hk
      obtain ⟨x, hx, _⟩ := hcell k d hk
      rw [Nat.zero_add, hx]
      rfl
    · intro k d hk
      obtain ⟨x, hx, hrr⟩ := hcell k d hk
      rw [hx]
      exact hrr.imm (fun b hb => .inl hb)

theorem fzC_ok {m : Nat → Option Blk} (hm : MemOk own g w m) {id sz : Nat} {e : TypeId} {es : List (List ID)} (h : m id = some (.row e sz es)) {c : Cel} {v : Value} (hr : RepC g w c v) (hp : All (c.fz id es sz).2) :
    RepC (g.fz id) w (c.fz id es sz).1 v := by
  cases c with
  | lsl id' sz' off k =>
    simp only [Cel.fz] at hp ⊢
    split
    · rename_i hb
      have := Nat.eq_of_beq_eq_true hb
      subst this
      rw [if_pos hb] at hp
      cases off with
      | zero => exact .im (row_datum hm h hr hp.1)
      | succ off => exact .any
    · exact hr.le (le_fz g w id)
  | _ => exact hr.le (le_fz g w id)

theorem fzCs_ok {m : Nat → Option Blk} (hm : MemOk own g w m) {id sz : Nat} {e : TypeId} {es : List (List ID)} (h : m id = some (.row e sz es)) : ∀ {cs : List Cel} {vs : List Value} (_ : All (fzCs id es sz cs).2)
    (_ : ∀ (k : Nat) (c : Cel) (x : Value), cs[k]? = some c → vs[k]? = some x → RepC g w c x),
    (fzCs id es sz cs).1.length = cs.length ∧ ∀ (k : Nat) (c : Cel) (x : Value), (fzCs id es sz cs).1[k]? = some c → vs[k]? = some x → RepC (g.fz id) w c x
  | [], vs, _, _ => by simp [fzCs]
  | c :: cs, vs, hp, hr => by
    simp only [fzCs] at hp ⊢
    obtain ⟨hp1, hp2⟩ := All.app hp
    obtain ⟨ih1, ih2⟩ := fzCs_ok hm h (cs := cs) (vs := vs.drop 1) hp2 (by
      intro k c x h1 h2
      rw [List.getElem?_drop] at h2
      exact hr (k + 1) c x h1 (by rw [← h2]; congr 1; omega))
    refine ⟨by simp [ih1], ?_⟩
    intro k c' x h1 h2
    cases k with
    | zero =>
      simp only [List.getElem?_cons_zero, Option.some.injEq] at h1
      subst h1
      exact fzC_ok hm h (hr 0 c x rfl h2) hp1
    | succ k =>
      simp only [List.getElem?_cons_succ] at h1
      exact ih2 k c' x h1 (by rw [List.getElem?_drop, ← h2]; congr 1; omega)

theorem fzD_ok {m : Nat → Option Blk} (hm : MemOk own g w m) {id sz : Nat} {e : TypeId} {es : List (List ID)} (h : m id = some (.row e sz es)) {d : Dat} {v : Value} (hr : RepD g w d v) (hp : All (d.fz id es sz).2) :
    RepD (g.fz id) w (d.fz id es sz).1 v := by
  cases d with
  | c x =>
    cases hr with
    | c hr => exact .c (fzC_ok hm h hr hp)
  | agg cs =>
    obtain ⟨vs, rfl, hl, hrr⟩ := inv_agg hr
    obtain ⟨k1, k2⟩ := fzCs_ok hm h hp hrr
    exact .agg (by rw [hl]; exact k1.symm) k2
  | tup ds => exact .c .any

theorem look_fzE {id sz : Nat} {es : List (List ID)} {x : Nat} {d' : Dat} : ∀ {E : List (Nat × Dat)} (_ : look (fzE id es sz E).1 x = some d') (_ : All (fzE id es sz E).2), ∃ d, look E x = some d ∧ d' = (d.fz id es sz).1 ∧ All (d.fz id es sz).2
  | [], h, _ => by simp [fzE, look] at h
  | (y, d) :: E, h, hp => by
    simp only [fzE] at h hp
    obtain ⟨hp1, hp2⟩ := All.app hp
    rw [look_cons] at h ⊢
    split at h
    · rename_i hb
      cases h
      exact ⟨d, by rw [if_pos hb], rfl, hp1⟩
    · rename_i hb
      rw [if_neg hb]
      exact look_fzE h hp2

theorem look_fzM {id sz : Nat} {es : List (List ID)} {x : Nat} {B' : Blk} : ∀ {M : List (Nat × Blk)} (_ : look (fzM id es sz M).1 x = some B') (_ : All (fzM id es sz M).2),
    ∃ B, look M x = some B ∧ ((∃ cs, B = .box cs ∧ B' = .box (fzCs id es sz cs).1 ∧ All (fzCs id es sz cs).2) ∨ (∃ e sz es, B = .row e sz es ∧ B' = B))
  | [], h, _ => by simp [fzM, look] at h
  | (y, .box cs) :: M, h, hp => by
    simp only [fzM] at h hp
    obtain ⟨hp1, hp2⟩ := All.app hp
    rw [look_cons] at h ⊢
    split at h
    · rename_i hb
      cases h
      exact ⟨.box cs, by rw [if_pos hb], .inl ⟨cs, rfl, rfl, hp1⟩⟩
    · rename_i hb
      rw [if_neg hb]
      exact look_fzM h hp2
  | (y, .row e s l) :: M, h, hp => by
    simp only [fzM] at h hp
    rw [look_cons] at h ⊢
    split at h
    · rename_i hb
      cases h
      exact ⟨.row e s l, by rw [if_pos hb], .inr ⟨e, s, l, rfl, rfl⟩⟩
    · rename_i hb
      rw [if_neg hb]
      exact look_fzM h hp

theorem fz_sound {id : Nat} {s s' : LS} {p : List Prop} (h : cmd (.fz id) s = some (s', p)) (hp : All p) (hg : Good own W0 n s.st g a w) : ∃ g', Good own W0 n s'.st g' a w := by
  simp only [cmd] at h
  split at h
  · rename_i e sz es hrow
    cases h
    obtain ⟨hp1, hp2⟩ := All.app hp
    have hm : MemOk own g w (look s.M) := hg.mem
    refine ⟨g.fz id, good_of hg ?_ ?_ hg.dom (fun _ h => .inl h)⟩
    · intro x d hx
      obtain ⟨d0, h1, rfl, h3⟩ := look_fzE hx hp1
      exact fzD_ok hm hrow (hg.env x d0 h1) h3
    · have back : ∀ {x : Nat} {B' : Blk}, look (fzM id es sz (dropKey id s.M)).1 x = some B' → x ≠ id ∧ ∃ B, look s.M x = some B ∧ ((∃ cs, B = .box cs ∧ B' = .box (fzCs id es sz cs).1 ∧ All (fzCs id es sz cs).2) ∨ (∃ e sz es, B = .row e sz es ∧ B' = B)) := by
        intro x B' hx
        obtain ⟨B, h1, h2⟩ := look_fzM hx hp2
        rw [look_dropKey] at h1
        by_cases hxi : x = id
        · subst hxi; simp at h1
        · rw [beq_false_of_ne (fun e => hxi e.symm)] at h1
          exact ⟨hxi, B, by simpa using h1, h2⟩
      refine ⟨?_, ?_, ?_, ?_, ?_⟩
      · intro x B' hx
        obtain ⟨hne, B, h1, h2⟩ := back hx
        have hok := hm.ok x B h1
        rcases h2 with ⟨cs, rfl, rfl, h3⟩ | ⟨e', sz', es', rfl, rfl⟩
        · obtain ⟨b, c, arr, t, k1, k2, k3, k4⟩ := hok
          obtain ⟨l1, l2⟩ := fzCs_ok hm hrow h3 k4
          exact ⟨b, c, arr, t, k1, k2, by rw [k3]; exact l1.symm, l2⟩
        · exact hok.le (le_fz g w id) (fun _ _ _ => rfl)
      · intro x y B B' b c c' hx hy
        obtain ⟨_, B1, h1, _⟩ := back hx
        obtain ⟨_, B2, h2, _⟩ := back hy
        exact hm.dis x y B1 B2 b c c' h1 h2
      · intro x B' b c hx hi
        obtain ⟨hne, B, h1, _⟩ := back hx
        obtain ⟨k1, k2⟩ := hm.own x B b c h1 hi
        refine ⟨k1, ?_⟩
        rintro (hb | ⟨c', hc'⟩)
        · exact k2 hb
        · exact hne (hm.dis x id B _ b c c' h1 hrow hi hc')
      · rintro b (hb | ⟨c, hc⟩)
        · exact hm.imm b hb
        · exact (hm.ok id _ hrow).place hc
      · rintro b (hb | ⟨c, hc⟩)
        · exact hm.io b hb
        · exact .inr (hm.own id _ b c hrow hc).1
  · cases h

/-! names changed -/
def G.ren (g : G) (x y : Nat) : G := ⟨fun id => if id = y then g.ids x else g.ids id, g.imm⟩

theorem ren_ids {x y id : Nat} (hy : g.ids y = none) {r : Option (Nat × Nat)} (h : g.ids id = some r) : (g.ren x y).ids (if Nat.beq id x then y else id) = some r := by
  simp only [G.ren]
  by_cases hid : id = x
  · subst hid; simpa using h
  · rw [beq_false_of_ne hid]
    have : id ≠ y := by rintro rfl; rw [hy] at h; cases h
    simpa [this] using h

theorem renL_eq (x y : Nat) : ∀ (l : List Cel), Cel.ren.renL x y l = l.map (Cel.ren x y)
  | [] => rfl
  | c :: l => by simp [Cel.ren.renL, renL_eq x y l]

theorem renC_ok {x y : Nat} (hy : g.ids y = none) {c : Cel} {v : Value} (hr : RepC g w c v) : RepC (g.ren x y) w (c.ren x y) v := by
  induction hr with
  | im h => exact .im h
  | ptr h => exact .ptr (ren_ids hy h)
  | pel h => exact .pel (ren_ids hy h)
  | lsl0 h => exact .lsl0 (ren_ids hy h)
  | lsl h h1 h2 h3 => exact .lsl (ren_ids hy h) h1 h2 h3
  | @clo fn fs cs vs us h1 h2 _ _ i1 i2 =>
    simp only [Cel.ren, renL_eq]
    refine .clo (by simp [h1]) (by simp [h2]) ?_ ?_
    · intro k c v hc hv
      rw [List.getElem?_map, Option.map_eq_some_iff] at hc
      obtain ⟨c0, hc0, rfl⟩ := hc
      exact i1 k c0 v hc0 hv
    · intro k c v hc hv
      rw [List.getElem?_map, Option.map_eq_some_iff] at hc
      obtain ⟨c0, hc0, rfl⟩ := hc
      exact i2 k c0 v hc0 hv
  | any => exact .any

theorem renD_ok {x y : Nat} (hy : g.ids y = none) {d : Dat} {v : Value} (hr : RepD g w d v) : RepD (g.ren x y) w (d.ren x y) v := by
  cases d with
  | c c => cases hr with | c hr => exact .c (renC_ok hy hr)
  | agg cs =>
    obtain ⟨vs, rfl, hl, hrr⟩ := inv_agg hr
    refine .agg (by simp [hl]) ?_
    intro k c v hc hv
    rw [List.getElem?_map, Option.map_eq_some_iff] at hc
    obtain ⟨c0, hc0, rfl⟩ := hc
    exact renC_ok hy (hrr k c0 v hc0 hv)
  | tup ds => exact .c .any

theorem look_mapE {f : Dat → Dat} {x : Nat} {d' : Dat} : ∀ {E : List (Nat × Dat)}, look (E.map fun (p : Nat × Dat) => (p.1, f p.2)) x = some d' → ∃ d, look E x = some d ∧ d' = f d
  | [], h => by simp [look] at h
  | (y, d) :: E, h => by
    simp only [List.map_cons, look_cons] at h ⊢
    split at h
    · rename_i hb
      cases h
      exact ⟨d, by rw [if_pos hb], rfl⟩
    · rename_i hb
      rw [if_neg hb]
      exact look_mapE h

theorem look_renM {a b x : Nat} {B' : Blk} : ∀ {M : List (Nat × Blk)}, look M b = none → look (M.map fun (p : Nat × Blk) => (if Nat.beq p.1 a then b else p.1, p.2.ren a b)) x = some B' →
    ∃ id B, look M id = some B ∧ x = (if Nat.beq id a then b else id) ∧ B' = B.ren a b
  | [], _, h => by simp [look] at h
  | (y, B) :: M, hb, h => by
    simp only [List.map_cons, look_cons] at h hb
    have hyb : y ≠ b := by
      rintro rfl
      simp at hb
    rw [beq_false_of_ne hyb] at hb
    generalize hy' : (if Nat.beq y a then b else y) = y' at h
    by_cases hx : Nat.beq y' x = true
    · have hx' := Nat.eq_of_beq_eq_true hx
      rw [if_pos hx] at h
      cases h
      exact ⟨y, B, by rw [look_cons]; simp, by rw [hy', hx'], rfl⟩
    · rw [if_neg hx] at h
      obtain ⟨id, B0, h1, h2, h3⟩ := look_renM (by simpa using hb) h
      refine ⟨id, B0, ?_, h2, h3⟩
      rw [look_cons]
      by_cases hyi : y = id
      · subst hyi
        rw [hy'] at h2
        rw [h2] at hx
        simp at hx
      · rw [beq_false_of_ne hyi]
        exact h1

theorem ren_sound {x y : Nat} {s s' : LS} {p : List Prop} (h : cmd (.ren x y) s = some (s', p)) (hg : Good own W0 n s.st g a w) : ∃ g', Good own W0 n s'.st g' a w := by
  simp only [cmd] at h
  split at h
  · cases h
  · rename_i hu
    cases h
    have hm : MemOk own g w (look s.M) := hg.mem
    have hy : g.ids y = none := hg.dom y (show memN y s.U = false by simpa using hu)
    have hMy : look s.M y = none := by
      cases hB : look s.M y with
      | none => rfl
      | some B =>
        exfalso
        have hok := hm.ok y B hB
        cases B with
        | box cs => obtain ⟨b, c, arr, t, k1, _⟩ := hok; rw [hy] at k1; cases k1
        | row e sz es =>
          obtain ⟨_, ⟨k1, _⟩ | ⟨b, cap, cur, k1, _⟩⟩ := hok
          · rw [hy] at k1; cases k1
          · rw [hy] at k1; cases k1
    have named : ∀ {id : Nat} {B : Blk}, look s.M id = some B → ∃ r, g.ids id = some r := by
      intro id B hB
      have hok := hm.ok id B hB
      cases B with
      | box cs => obtain ⟨b, c, arr, t, k1, _⟩ := hok; exact ⟨_, k1⟩
      | row e sz es =>
        obtain ⟨_, ⟨k1, _⟩ | ⟨b, cap, cur, k1, _⟩⟩ := hok
        · exact ⟨_, k1⟩
        · exact ⟨_, k1⟩
    have place : ∀ {id : Nat} {B : Blk} {r : Option (Nat × Nat)}, look s.M id = some B → (g.ren x y).ids (if Nat.beq id x then y else id) = some r → g.ids id = some r := by
      intro id B r hB hr
      obtain ⟨r', hr'⟩ := named hB
      have := ren_ids (x := x) hy hr'
      rw [this] at hr
      rw [hr', hr]
    refine ⟨g.ren x y, good_of hg ?_ ?_ ?_ (fun _ h => h)⟩
    · intro k d hd
      obtain ⟨d0, h1, rfl⟩ := look_mapE hd
      exact renD_ok hy (hg.env k d0 h1)
    · refine ⟨?_, ?_, ?_, hm.imm, hm.io⟩
      · intro k B' hB'
        obtain ⟨id, B, h1, rfl, rfl⟩ := look_renM hMy hB'
        have hok := hm.ok id B h1
        cases B with
        | box cs =>
          obtain ⟨b, c, arr, t, k1, k2, k3, k4⟩ := hok
          refine ⟨b, c, arr, t, ren_ids hy k1, k2, by simp [k3], ?_⟩
          intro j c' v hc hv
          rw [List.getElem?_map, Option.map_eq_some_iff] at hc
          obtain ⟨c0, hc0, rfl⟩ := hc
          exact renC_ok hy (k4 j c0 v hc0 hv)
        | row e sz es =>
          obtain ⟨k0, hpl⟩ := hok
          refine ⟨k0, ?_⟩
          rcases hpl with ⟨k1, k2⟩ | ⟨b, cap, cur, k1, k2⟩
          · exact .inl ⟨ren_ids hy k1, k2⟩
          · exact .inr ⟨b, cap, cur, ren_ids hy k1, k2⟩
      · intro k k' B B' b c c' hB hB' hi hi'
        obtain ⟨id, B0, h1, rfl, rfl⟩ := look_renM hMy hB
        obtain ⟨id', B0', h1', rfl, rfl⟩ := look_renM hMy hB'
        have := hm.dis id id' _ _ b c c' h1 h1' (place h1 hi) (place h1' hi')
        rw [this]
      · intro k B b c hB hi
        obtain ⟨id, B0, h1, rfl, rfl⟩ := look_renM hMy hB
        exact hm.own id _ b c h1 (place h1 hi)
    · intro id hid
      simp only [memN] at hid
      split at hid
      · cases hid
      · rename_i hne
        have : id ≠ y := fun e => hne (by rw [e]; simp)
        simp only [G.ren, if_neg this]
        exact hg.dom id hid

theorem nilrow_sound {x id : Nat} {e : TypeId} {sz : Nat} {s s' : LS} {p : List Prop} (h : cmd (.nilrow x id e sz) s = some (s', p)) (hg : Good own W0 n s.st g a w) : ∃ g', Good own W0 n s'.st g' a w := by
  simp only [cmd] at h
  split at h
  · rename_i k hx
    split at h
    · cases h
    · rename_i hu
      cases h
      have hm : MemOk own g w (look s.M) := hg.mem
      have hf : g.ids id = none := hg.dom id (show memN id s.U = false by simpa using hu)
      have hle : Le g w (g.name id none) w := .name hf (fun _ _ => rfl)
      have hnil := inv_nl (hg.env x _ hx)
      refine ⟨g.name id none, good_of hg ?_ ?_ ?_ (fun _ h => h)⟩
      · intro k d hd
        rw [look_cons] at hd
        split at hd
        · rename_i hb
          have := Nat.eq_of_beq_eq_true hb
          subst this
          cases hd
          rw [hnil]
          exact .c (.lsl0 (name_self _ _ _))
        · rw [look_dropKey] at hd
          split at hd
          · cases hd
          · exact (hg.env k d hd).le hle
      · have hmem : MemOk own (g.name id none) w (fun y => if Nat.beq id y then some (.row e sz []) else if Nat.beq id y then none else look s.M y) :=
          hm.put (rm := id) hle (fun _ _ _ _ _ _ _ => rfl) ⟨by simp, .inl ⟨name_self _ _ _, rfl⟩⟩ (fun x hx => name_other _ _ _ hx) (by
            intro b c hi
            rw [name_self] at hi
            cases hi) hm.imm hm.io (fun x Bx b c hx _ hi => (hm.own x Bx b c hx hi).2)
        refine memOk_sub hmem ?_
        intro k B hB
        rw [look_cons] at hB
        split at hB
        · rename_i hb
          rw [if_pos hb]
          exact hB
        · rename_i hb
          rw [if_neg hb, if_neg hb]
          exact hB
      · intro k hk
        simp only [memN] at hk
        split at hk
        · cases hk
        · rename_i hne
          have : k ≠ id := fun e => hne (by rw [e]; simp)
          rw [name_other _ _ _ this]
          exact hg.dom k hk
  · cases h

theorem nrmC_ok {c : Cel} {v : Value} (hr : RepC g w c v) : RepC g w c.nrm v := by
  unfold Cel.nrm
  split
  · cases hr with
    | im h => cases h; exact .im (.sl0 _)
  · exact hr
theorem nrmD_ok {d : Dat} {v : Value} (hr : RepD g w d v) : RepD g w d.nrm v := by
  cases d with
  | c c => cases hr with | c hr => exact .c (nrmC_ok hr)
  | agg cs =>
    obtain ⟨vs, rfl, hl, hrr⟩ := inv_agg hr
    refine .agg (by simp [hl]) ?_
    intro k c v hc hv
    rw [List.getElem?_map, Option.map_eq_some_iff] at hc
    obtain ⟨c0, hc0, rfl⟩ := hc
    exact nrmC_ok (hrr k c0 v hc0 hv)
  | tup ds => exact hr

theorem look_nrmE {x y : Nat} {d' : Dat} : ∀ {E : List (Nat × Dat)}, look (nrmE x E) y = some d' → ∃ d, look E y = some d ∧ (d' = d ∨ d' = d.nrm)
  | [], h => by simp [nrmE, look] at h
  | (z, d) :: E, h => by
    simp only [nrmE] at h
    by_cases hz : Nat.beq z x = true
    · rw [if_pos hz, look_cons] at h
      rw [look_cons]
      split at h
      · rename_i hb; cases h; exact ⟨d, by rw [if_pos hb], .inr rfl⟩
      · rename_i hb; rw [if_neg hb]; exact look_nrmE h
    · rw [if_neg hz, look_cons] at h
      rw [look_cons]
      split at h
      · rename_i hb; cases h; exact ⟨d', by rw [if_pos hb], .inl rfl⟩
      · rename_i hb; rw [if_neg hb]; exact look_nrmE h

/-! fewer names -/
def G.only (g : G) (l : List Nat) : G := ⟨fun id => if memN id l then g.ids id else none, g.imm⟩

theorem allL_mem {l : List Nat} : ∀ {cs : List Cel}, Cel.all.allL l cs = true → ∀ (k : Nat) (c : Cel), cs[k]? = some c → c.all l = true
  | [], _, k, c, h => by simp at h
  | x :: cs, h, k, c, hc => by
    simp only [Cel.all.allL, Bool.and_eq_true] at h
    cases k with
    | zero => simp only [List.getElem?_cons_zero, Option.some.injEq] at hc; subst hc; exact h.1
    | succ k => exact allL_mem h.2 k c (by simpa using hc)

theorem only_ids {l : List Nat} {id : Nat} {r : Option (Nat × Nat)} (hm : memN id l = true) (h : g.ids id = some r) : (g.only l).ids id = some r := by
  simp only [G.only, hm, if_true]; exact h

theorem onlyC_ok {l : List Nat} {c : Cel} {v : Value} (hr : RepC g w c v) (hc : c.all l = true) : RepC (g.only l) w c v := by
  induction hr with
  | im h => exact .im h
  | ptr h => exact .ptr (only_ids hc h)
  | pel h => exact .pel (only_ids hc h)
  | lsl0 h => exact .lsl0 (only_ids hc h)
  | lsl h h1 h2 h3 => exact .lsl (only_ids hc h) h1 h2 h3
  | @clo fn fs cs vs us h1 h2 _ _ i1 i2 =>
    simp only [Cel.all, Bool.and_eq_true] at hc
    exact .clo h1 h2 (fun k c v a b => i1 k c v a b (allL_mem hc.1 k c a)) (fun k c v a b => i2 k c v a b (allL_mem hc.2 k c a))
  | any => exact .any

theorem onlyD_ok {l : List Nat} {d : Dat} {v : Value} (hr : RepD g w d v) (hd : d.all l = true) : RepD (g.only l) w d v := by
  cases d with
  | c c => cases hr with | c hr => exact .c (onlyC_ok hr hd)
  | agg cs =>
    obtain ⟨vs, rfl, hl, hrr⟩ := inv_agg hr
    exact .agg hl (fun k c v a b => onlyC_ok (hrr k c v a b) (allL_mem hd k c a))
  | tup ds => cases hd

theorem allE_look {l : List Nat} {x : Nat} {d : Dat} : ∀ {E : List (Nat × Dat)}, allE l E = true → look E x = some d → d.all l = true
  | [], _, h => by simp [look] at h
  | (y, d') :: E, ha, h => by
    simp only [allE, Bool.and_eq_true] at ha
    rw [look_cons] at h
    split at h
    · cases h; exact ha.1
    · exact allE_look ha.2 h
theorem allM_look {l : List Nat} {x : Nat} {B : Blk} : ∀ {M : List (Nat × Blk)}, allM l M = true → look M x = some B → memN x l = true ∧ ∀ cs, B = .box cs → Cel.all.allL l cs = true
  | [], _, h => by simp [look] at h
  | (y, .box cs) :: M, ha, h => by
    simp only [allM, Bool.and_eq_true] at ha
    rw [look_cons] at h
    split at h
    · rename_i hb
      have := Nat.eq_of_beq_eq_true hb
      subst this
      cases h
      exact ⟨ha.1.1, fun cs' e => by cases e; exact ha.1.2⟩
    · exact allM_look ha.2 h
  | (y, .row e sz es) :: M, ha, h => by
    simp only [allM, Bool.and_eq_true] at ha
    rw [look_cons] at h
    split at h
    · rename_i hb
      have := Nat.eq_of_beq_eq_true hb
      subst this
      cases h
      exact ⟨ha.1, fun cs' e => by cases e⟩
    · exact allM_look ha.2 h

theorem useU_sound {l : List Nat} {s s' : LS} {p : List Prop} (h : cmd (.useU l) s = some (s', p)) (hg : Good own W0 n s.st g a w) : ∃ g', Good own W0 n s'.st g' a w := by
  simp only [cmd] at h
  split at h
  · rename_i hc
    cases h
    simp only [idsIn, Bool.and_eq_true] at hc
    have hm : MemOk own g w (look s.M) := hg.mem
    have back : ∀ {id : Nat} {r : Option (Nat × Nat)}, (g.only l).ids id = some r → g.ids id = some r := by
      intro id r h
      simp only [G.only] at h
      split at h
      · exact h
      · cases h
    refine ⟨g.only l, good_of hg ?_ ?_ ?_ (fun _ h => h)⟩
    · intro x d hd
      exact onlyD_ok (hg.env x d hd) (allE_look hc.1 hd)
    · refine ⟨?_, fun x y B B' b c c' hx hy hi hi' => hm.dis x y B B' b c c' hx hy (back hi) (back hi'), fun x B b c hx hi => hm.own x B b c hx (back hi), hm.imm, hm.io⟩
      intro x B hx
      obtain ⟨h1, h2⟩ := allM_look hc.2 hx
      have hok := hm.ok x B hx
      cases B with
      | box cs =>
        obtain ⟨b, c, arr, t, k1, k2, k3, k4⟩ := hok
        exact ⟨b, c, arr, t, only_ids h1 k1, k2, k3, fun k c v a b => onlyC_ok (k4 k c v a b) (allL_mem (h2 cs rfl) k c a)⟩
      | row e sz es =>
        obtain ⟨k0, hpl⟩ := hok
        refine ⟨k0, ?_⟩
        rcases hpl with ⟨k1, k2⟩ | ⟨b, cap, cur, k1, k2⟩
        · exact .inl ⟨only_ids h1 k1, k2⟩
        · exact .inr ⟨b, cap, cur, only_ids h1 k1, k2⟩
    · intro id hid
      simp only [G.only]
      rw [if_neg (by rw [hid]; simp)]
  · cases h

theorem cmd_sound {c : Cmd} {s s' : LS} {p : List Prop} (h : cmd c s = some (s', p)) (hp : All p) (hg : Good own W0 n s.st g a w) : ∃ g', Good own W0 n s'.st g' a w := by
  cases c with
  | keep xs ids =>
    simp only [cmd, Option.some.injEq] at h
    cases h
    exact ⟨g, good_of hg (fun x d hx => hg.env x d (look_keepE _ _ _ _ hx)) (memOk_sub hg.mem (fun id B hB => look_keepM _ _ _ _ hB)) hg.dom (fun _ h => h)⟩
  | fz id => exact fz_sound h hp hg
  | ren x y => exact ren_sound h hg
  | nilrow x id e sz => exact nilrow_sound h hg
  | nrm x =>
    simp only [cmd, Option.some.injEq] at h
    cases h
    refine ⟨g, good_of hg ?_ hg.mem hg.dom (fun _ h => h)⟩
    intro y d hy
    obtain ⟨d0, h1, h2⟩ := look_nrmE hy
    rcases h2 with rfl | rfl
    · exact hg.env y _ h1
    · exact nrmD_ok (hg.env y _ h1)
  | useU l => exact useU_sound h hg

theorem cmds_sound : ∀ {cs : List Cmd} {s s' : LS} {p : List Prop} (_ : cmds cs s = some (s', p)) (_ : All p) {g : G} (_ : Good own W0 n s.st g a w), ∃ g', Good own W0 n s'.st g' a w
  | [], s, s', p, h, _, g, hg => by
    simp only [cmds, Option.some.injEq] at h
    cases h
    exact ⟨g, hg⟩
  | c :: cs, s, s', p, h, hp, g, hg => by
    simp only [cmds, Option.bind_eq_some_iff, Option.map_eq_some_iff] at h
    obtain ⟨⟨s1, p1⟩, h1, ⟨s2, p2⟩, h2, h3⟩ := h
    cases h3
    obtain ⟨hp1, hp2⟩ := All.app hp
    obtain ⟨g1, hg1⟩ := cmd_sound h1 hp1 hg
    exact cmds_sound h2 hp2 hg1

theorem good_drew {s : St} (hg : Good own W0 n s g a w) : Good own W0 n s g a w.drew := by
  have hle : Le g w g w.drew := ⟨fun _ _ h => h, fun _ h => h, fun _ _ => rfl⟩
  exact ⟨hg.dfr, hg.tsz, fun x d h => (hg.env x d h).le hle, ⟨fun id B h => (hg.mem.ok id B h).le hle (fun _ _ _ => rfl), hg.mem.dis, hg.mem.own, hg.mem.imm, hg.mem.io⟩, hg.dom, hg.ini, ⟨hg.frm.os, hg.frm.tape, hg.frm.output, hg.frm.size, hg.frm.fresh, hg.frm.block⟩⟩

/-- A region does what the evaluator says. -/
theorem reg_sound (hT : TblOk P T) (hmix : P.follows .mixedOrders = true) {id : Nat} {opsA : Array Oper} {draw : Bool} {orcs : List Orc} {cs : List Cmd} {s s' : LS} {V : List Prop}
    (h : evReg P T n opsA draw orcs cs s = some (s', V)) (hv : All V) {Q : Exit → Act → World → Prop} (hg : Good own W0 n s.st g a w)
    (hQ : ∀ g' a' w', Good own W0 n s'.st g' a' w' → Q .normal a' w') : (Code.region id opsA draw).wp P Q a w := by
  unfold evReg at h
  rw [Option.bind_eq_some_iff] at h
  obtain ⟨z, hz, h⟩ := h
  generalize hb : (if draw = true then edgesOk 0 opsA.toList && ordAll z.recs z.recs else true) = b at h
  cases b with
  | true =>
    have hord := hb
    rw [if_pos rfl, Option.map_eq_some_iff] at h
    obtain ⟨⟨s1, p1⟩, hc, h⟩ := h
    cases h
    obtain ⟨hv1, hv2⟩ := All.app hv
    obtain ⟨_, htr⟩ := evOps_trace hz (by intro d g hd; simp [look] at hd)
    obtain ⟨tr, t1, t2, t3, t4, t5⟩ := htr hv1
    have hQ' : ∀ g' a' w', Good own W0 n z.s.st g' a' w' → Q .normal a' w' := by
      intro g' a' w' hg'
      obtain ⟨g2, hg2⟩ := cmds_sound hc hv2 hg'
      exact hQ g2 a' w' hg2
    cases draw with
    | false =>
      have hlen : opsA.size = tr.length := by rw [← Array.length_toList, ← t1, List.length_map]
      refine wp_region ?_
      have := seq_sound hT (opsA := opsA) rfl (Q := Q) tr 0 s z.s (by
        intro j
        have : opsA.toList[j]? = (tr.map (·.o))[j]? := by rw [t1]
        rw [List.getElem?_map] at this
        rw [← this]
        simp) t2 t3 hg hQ'
      rw [← hlen] at this
      rw [List.range_eq_range']
      exact this
    | true =>
      simp only [if_true, Bool.and_eq_true] at hord
      refine wp_region_any hmix ?_
      simp only [List.nil_append] at t5
      rw [t5] at hord
      exact draw_sound hT (opsA := opsA) rfl t1 t2 t3 t4 hord.1 hord.2 (good_drew hg) hQ'
  | false => simp at h

end
end Go.Fw

/-
  The framework, part 17: the rules for code; from a function's code to its contract.
-/
namespace Go.Fw
open Go

structure Fr where
  ow : Ow
  W : World

section
variable {P : Program} {T : TypeId → Option TI} {n : Nat} {F : Fr} {Q : Exit → Act → World → Prop}

/-- Code, at what is known. -/
def Awp (P : Program) (n : Nat) (F : Fr) (c : Code) (Q : Exit → Act → World → Prop) (s : LS) : Prop := ∀ g a w, Good F.ow F.W n s.st g a w → c.wp P Q a w
/-- What holds at an end. -/
def Post (n : Nat) (F : Fr) (Q : Exit → Act → World → Prop) (ex : Exit) (s : LS) : Prop := ∀ g a w, Good F.ow F.W n s.st g a w → Q ex a w
def In (n : Nat) (F : Fr) (s : LS) : Act → World → Prop := fun a w => ∃ g, Good F.ow F.W n s.st g a w

theorem awp_reg (hT : TblOk P T) (hmix : P.follows .mixedOrders = true) {id : Nat} {ops : Array Oper} {draw : Bool} (orcs : List Orc) (cs : List Cmd) {s s' : LS} {V : List Prop}
    (h : evReg P T n ops draw orcs cs s = some (s', V)) (hv : All V) (hp : Post n F Q .normal s') : Awp P n F (.region id ops draw) Q s :=
  fun _ _ _ hg => reg_sound hT hmix h hv hg hp
theorem awp_seq {x y : Code} {s : LS} (h : Awp P n F x (Exit.then (y.wp P Q) Q) s) : Awp P n F (x.seq y) Q s := fun g a w hg => wp_seq (h g a w hg)
theorem awp_cut (s' : LS) {x y : Code} {s : LS} (h : Awp P n F x (Exit.then (In n F s') Q) s) (k : Awp P n F y Q s') : Awp P n F (x.seq y) Q s :=
  fun g a w hg => wp_seq (wp_mono (h g a w hg) (fun e a w hq => by
    cases e with
    | normal => obtain ⟨g', hg'⟩ := hq; exact k g' a w hg'
    | _ => exact hq))
theorem awp_cutN (s' : LS) {x : Code} {s : LS} (h : Awp P n F x (Exit.then (In n F s') Q) s) (k : Post n F Q .normal s') : Awp P n F x Q s :=
  fun g a w hg => wp_mono (h g a w hg) (fun e a w hq => by
    cases e with
    | normal => obtain ⟨g', hg'⟩ := hq; exact k g' a w hg'
    | _ => exact hq)
theorem post_in {s : LS} {Q : Exit → Act → World → Prop} : Post n F (Exit.then (In n F s) Q) .normal s := fun g _ _ hg => ⟨g, hg⟩
theorem post_then {y : Code} {s : LS} (h : Awp P n F y Q s) : Post n F (Exit.then (y.wp P Q) Q) .normal s := fun g a w hg => h g a w hg
theorem post_thenE {N : Act → World → Prop} {i : Nat} {s : LS} (h : Post n F Q (.exit i) s) : Post n F (Exit.then N Q) (.exit i) s := fun g a w hg => h g a w hg
theorem post_thenR {N : Act → World → Prop} {s : LS} (h : Post n F Q .ret s) : Post n F (Exit.then N Q) .ret s := fun g a w hg => h g a w hg
theorem awp_block {i : Nat} {c : Code} {s : LS} (h : Awp P n F c (Exit.inBlock i Q) s) : Awp P n F (.block i c) Q s := fun g a w hg => wp_block (h g a w hg)
theorem post_blk {i : Nat} {s : LS} (h : Post n F Q .normal s) : Post n F (Exit.inBlock i Q) .normal s := fun g a w hg => h g a w hg
theorem post_blkR {i : Nat} {s : LS} (h : Post n F Q .ret s) : Post n F (Exit.inBlock i Q) .ret s := fun g a w hg => h g a w hg
theorem post_blkE {i : Nat} {s : LS} (h : Post n F Q .normal s) : Post n F (Exit.inBlock i Q) (.exit i) s := fun _ a w hg => by
  show Exit.inBlock i Q (.exit i) a w
  simp only [Exit.inBlock, if_true]
  exact h _ a w hg
theorem post_blkN {i j : Nat} (hne : Nat.beq j i = false) {s : LS} (h : Post n F Q (.exit j) s) : Post n F (Exit.inBlock i Q) (.exit j) s := fun _ a w hg => by
  have : j ≠ i := by rintro rfl; simp at hne
  show Exit.inBlock i Q (.exit j) a w
  simp only [Exit.inBlock, if_neg this]
  exact h _ a w hg
theorem awp_exit {i : Nat} {s : LS} (h : Post n F Q (.exit i) s) : Awp P n F (.exit i) Q s := fun g a w hg => wp_exit (h g a w hg)
theorem awp_ret {s : LS} (h : Post n F Q .ret s) : Awp P n F .ret Q s := fun g a w hg => wp_ret (h g a w hg)
theorem awp_skip {s : LS} (h : Post n F Q .normal s) : Awp P n F .skip Q s := fun g a w hg => wp_skip (h g a w hg)
theorem awp_cond {t : Nat} {x y : Code} {s : LS} {b : Bool} (hc : look s.E t = some (.c (.im (.b b)))) (ht : b = true → Awp P n F x Q s) (hf : b = false → Awp P n F y Q s) : Awp P n F (.cond (.tmp t) x y) Q s :=
  fun g a w hg => wp_cond_split (inv_b (hg.env t _ hc)) (fun e => ht e g a w hg) (fun e => hf e g a w hg)
theorem awp_cmds (cs : List Cmd) {s s' : LS} {V : List Prop} (h : cmds cs s = some (s', V)) (hv : All V) {c : Code} (k : Awp P n F c Q s') : Awp P n F c Q s :=
  fun _ a w hg => let ⟨g', hg'⟩ := cmds_sound h hv hg; k g' a w hg'
theorem post_cmds (cs : List Cmd) {s s' : LS} {V : List Prop} (h : cmds cs s = some (s', V)) (hv : All V) {e : Exit} (k : Post n F Q e s') : Post n F Q e s :=
  fun _ a w hg => let ⟨g', hg'⟩ := cmds_sound h hv hg; k g' a w hg'

theorem wp_loop_ghost {c : Code} (I : Nat → Act → World → Prop) (round : ∀ k a w, I k a w → c.wp P (Exit.then (fun a' w' => ∃ j, j < k ∧ I j a' w') Q) a w) {k : Nat} {a : Act} {w : World} (h₀ : I k a w) : (Code.loop c).wp P Q a w := by
  intro b tl cs
  have key : ∀ n a w, I n a w → ∃ e a' w', Q e a' w' ∧ Arrives P (lone (b.at a (.code c :: .inLoop c :: tl)) cs w) b tl cs e a' w' := by
    intro n
    induction n using Nat.strongRecOn with
    | _ n ih =>
      intro a w hI
      obtain ⟨e, a₁, w₁, hq, harr⟩ := round n a w hI b (.inLoop c :: tl) cs
      cases e with
      | normal =>
        obtain ⟨j, hlt, hI₁⟩ := hq
        obtain ⟨e₂, a₂, w₂, hq₂, harr₂⟩ := ih j hlt a₁ w₁ hI₁
        exact ⟨e₂, a₂, w₂, hq₂, .of_steps (Steps.trans harr (.one step_inLoop)) harr₂⟩
      | exit id => exact ⟨_, a₁, w₁, hq, .pass (x := .inLoop c) rfl (fun _ _ => .inl (by simp)) harr⟩
      | goto l => exact ⟨_, a₁, w₁, hq, .pass (x := .inLoop c) rfl (fun _ _ => .inl (by simp)) harr⟩
      | ret => exact ⟨_, a₁, w₁, hq, .pass (x := .inLoop c) rfl (fun _ _ => .inl (by simp)) harr⟩
      | panic ch => exact ⟨_, a₁, w₁, hq, .pass (x := .inLoop c) rfl (fun _ _ => .inl (by simp)) harr⟩
      | outgrown => exact ⟨_, a₁, w₁, hq, .pass (x := .inLoop c) rfl (fun _ _ => .inl (by simp)) harr⟩
  obtain ⟨e, a', w', hq, harr⟩ := key k a w h₀
  exact ⟨e, a', w', hq, .of_steps (.one step_loop) harr⟩

/-- where a round ends and the next begins -/
def Back (n : Nat) (F : Fr) (I : Nat → LS → Prop) (k : Nat) : Act → World → Prop := fun a w => ∃ j s, j < k ∧ I j s ∧ In n F s a w

theorem awp_loop (I : Nat → LS → Prop) {c : Code} {s : LS} {k : Nat} (h : I k s) (round : ∀ k s, I k s → Awp P n F c (Exit.then (Back n F I k) Q) s) : Awp P n F (.loop c) Q s := by
  intro g a w hg
  refine wp_loop_ghost (fun k a w => ∃ s, I k s ∧ In n F s a w) ?_ (k := k) ⟨s, h, g, hg⟩
  rintro k a w ⟨s, hI, g, hg⟩
  refine wp_mono (round k s hI g a w hg) ?_
  intro e a w hq
  cases e with
  | normal => obtain ⟨j, s, hlt, hI, hin⟩ := hq; exact ⟨j, hlt, s, hI, hin⟩
  | _ => exact hq
theorem post_back {I : Nat → LS → Prop} {k j : Nat} {s : LS} (hlt : j < k) (h : I j s) {Q : Exit → Act → World → Prop} : Post n F (Exit.then (Back n F I k) Q) .normal s := fun g _ _ hg => ⟨j, s, hlt, h, g, hg⟩

/-! the end of a function -/
def resSem (tmps : Array Value) : ResultVar → Sem Value
  | .tmp t => Pure.pure (tmps.getD t undef)
  | .cell a t => do loadVar t (← asAddr (tmps.getD a undef))

def resV (T : TypeId → Option TI) (s : LS) : ResultVar → Option Dat
  | .tmp t => (look s.E t).map Dat.nrm
  | .cell a ty => match look s.E a with
    | some (.c (.ptr id off)) => match look s.M id, T ty with
      | some (.box cs), some ti => (partOf ti cs off).map Dat.nrm
      | _, _ => none
    | _ => none
def resVs (T : TypeId → Option TI) (s : LS) : List ResultVar → Option (List Dat)
  | [] => some []
  | r :: l => (resV T s r).bind fun d => (resVs T s l).map fun l => d :: l
def evRet (T : TypeId → Option TI) (s : LS) (rs : List ResultVar) : Option Dat :=
  (resVs T s rs).bind fun ds => match ds with | [d] => some d | ds => some (.tup ds)

def Cel.isIm : Cel → Bool
  | .im _ => true
  | _ => false
def Dat.flatPure : Dat → Bool
  | .c x => x.isIm
  | .agg cs => cs.all Cel.isIm
  | .tup _ => false
def Dat.pure : Dat → Bool
  | .tup ds => ds.all Dat.flatPure
  | d => d.flatPure

theorem flatPure_ok {g : G} {w : World} {d : Dat} {v : Value} (hp : d.flatPure = true) (h : RepD g w d v) : RepD (G0 g.imm) w d v := by
  have cel : ∀ {c : Cel} {v : Value}, c.isIm = true → RepC g w c v → RepC (G0 g.imm) w c v := by
    intro c v hc h
    cases h with
    | im h => exact .im h
    | _ => cases hc
  cases h with
  | c h => exact .c (cel hp h)
  | agg hl h => exact .agg hl (fun k c x a b => cel (List.all_eq_true.1 hp c (List.mem_of_getElem? a)) (h k c x a b))
  | tup => cases hp
theorem pure_ok {g : G} {w : World} {d : Dat} {v : Value} (hp : d.pure = true) (h : RepD g w d v) : RepD (G0 g.imm) w d v := by
  cases d with
  | tup ds =>
    obtain ⟨vs, rfl, hl, hr⟩ := inv_tup h
    exact .tup hl (fun k d x a b => flatPure_ok (List.all_eq_true.1 hp d (List.mem_of_getElem? a)) (hr k d x a b))
  | _ => exact flatPure_ok hp h

theorem resV_ok (hT : TblOk P T) {s : LS} {g : G} {a : Act} {w : World} (hg : Good F.ow F.W n s.st g a w) {r : ResultVar} {d : Dat} (h : resV T s r = some d) :
    ∃ v, (resSem a.tmps r).run P w = .ok v w ∧ RepD g w d v := by
  cases r with
  | tmp t =>
    simp only [resV, Option.map_eq_some_iff] at h
    obtain ⟨d0, h0, rfl⟩ := h
    exact ⟨_, rfl, nrmD_ok (hg.env t d0 h0)⟩
  | cell x ty =>
    simp only [resV] at h
    split at h
    · rename_i id off hx
      split at h
      · rename_i cs ti hbox hty
        rw [Option.map_eq_some_iff] at h
        obtain ⟨d0, h0, rfl⟩ := h
        obtain ⟨b, c, hi, e⟩ := inv_ptr (hg.env x _ hx)
        obtain ⟨v, hrun, hrep⟩ := load_cells (P := P) (g := g) (w := w) hT hty h0 (b := b) (q := 0) (box_cells hg.mem hbox hi)
        rw [Nat.zero_add] at hrun
        refine ⟨v, ?_, nrmD_ok hrep⟩
        simp only [resSem, e, asAddr, Sem.run_bind, Sem.run_pure, Result.andThen_ok, hrun]
      · cases h
    · cases h

theorem resVs_ok (hT : TblOk P T) {s : LS} {g : G} {a : Act} {w : World} (hg : Good F.ow F.W n s.st g a w) : ∀ {rs : List ResultVar} {ds : List Dat} (_ : resVs T s rs = some ds),
    ∃ vs : List Value, (rs.mapM (resSem a.tmps)).run P w = .ok vs w ∧ vs.length = ds.length ∧
      ∀ (k : Nat) (d : Dat) (x : Value), ds[k]? = some d → vs[k]? = some x → RepD g w d x
  | [], ds, h => by
    simp only [resVs, Option.some.injEq] at h
    subst h
    exact ⟨[], by simp, rfl, by simp⟩
  | r :: rs, ds, h => by
    simp only [resVs, Option.bind_eq_some_iff, Option.map_eq_some_iff] at h
    obtain ⟨d, hd, l, hl, rfl⟩ := h
    obtain ⟨v, hv, hr⟩ := resV_ok (P := P) hT hg hd
    obtain ⟨vs, hvs, hlen, hrs⟩ := resVs_ok hT hg hl
    refine ⟨v :: vs, ?_, by simp [hlen], ?_⟩
    · simp only [List.mapM_cons, Sem.run_bind, hv, Result.andThen_ok, hvs, Sem.run_pure]
    · intro k d' x h1 h2
      cases k with
      | zero =>
        simp only [List.getElem?_cons_zero, Option.some.injEq] at h1 h2
        subst h1 h2
        exact hr
      | succ k => exact hrs k d' x (by simpa using h1) (by simpa using h2)

def ConR (F : Fr) (d : Dat) : Ending → World → Prop := fun e w' => ∃ v, e = .returned v ∧ RowKit.Below F.W.heap.size F.W w' ∧ ∃ imm' : Nat → Prop,
  (∀ b, F.ow.i b → imm' b) ∧ (∀ b, imm' b → F.ow.i b ∨ F.W.heap.size ≤ b) ∧ (∀ b, imm' b → b < w'.heap.size) ∧ RepD (G0 imm') w' d v

/-- the frame of a function that takes data -/
def Fr.plain (F : Fr) : Prop := ∀ b, F.ow.o b ↔ F.W.heap.size ≤ b

theorem post_ret (hT : TblOk P T) (hF : F.plain) {fn : Func} {rs : List ResultVar} (hr : fn.results.toList = rs) {s : LS} {d : Dat} (h : evRet T s rs = some d) (hp : d.pure = true) : Post n F (bodyPost P fn (ConR F d)) .ret s := by
  intro g a w hg
  refine ⟨hg.dfr, ?_⟩
  simp only [evRet, Option.bind_eq_some_iff] at h
  obtain ⟨ds, hds, h⟩ := h
  obtain ⟨vs, hvs, hlen, hrs⟩ := resVs_ok (P := P) hT hg hds
  have fin : ∀ v, RepD g w d v → ConR F d (.returned v) w := by
    intro v hv
    refine ⟨v, rfl, ⟨hg.frm.os, hg.frm.tape, hg.frm.output, hg.frm.size, fun k hk => hg.frm.block k hk (fun ho => by have := (hF k).1 ho; omega)⟩, g.imm, hg.ini, ?_, hg.mem.imm, pure_ok hp hv⟩
    intro b hb
    exact (hg.mem.io b hb).imp id (hF b).1
  have hmap : (fn.results.mapM (resSem a.tmps)).run P w = .ok ⟨vs⟩ w := by
    rw [Array.mapM_eq_mapM_toList, hr]
    simp [hvs]
  have hres : (results fn a.tmps).run P w = .ok (if h : (⟨vs⟩ : Array Value).size = 1 then (⟨vs⟩ : Array Value)[0] else .tuple ⟨vs⟩) w := by
    unfold results
    rw [Sem.run_bind]
    have e : (fun (r : ResultVar) => match r with | .tmp t => (Pure.pure (a.tmps.getD t undef) : Sem Value) | .cell x t => do loadVar t (← asAddr (a.tmps.getD x undef))) = resSem a.tmps := by
      funext r
      cases r <;> rfl
    have e2 : (fn.results.mapM (fun (r : ResultVar) => match r with | .tmp t => (Pure.pure (a.tmps.getD t undef) : Sem Value) | .cell x t => do loadVar t (← asAddr (a.tmps.getD x undef)))).run P w = .ok ⟨vs⟩ w := by
      rw [e]; exact hmap
    exact (congrArg (fun r => Result.andThen r _) e2)
  refine ⟨_, hres, fin _ ?_⟩
  split at h
  · cases h
    obtain ⟨v, rfl⟩ : ∃ v, vs = [v] := List.length_eq_one_iff.1 hlen
    exact (show RepD g w d v from hrs 0 d v rfl rfl)
  · rename_i hne
    cases h
    have : ¬ (⟨vs⟩ : Array Value).size = 1 := by
      show ¬ vs.length = 1
      intro h1
      rw [hlen] at h1
      obtain ⟨d, rfl⟩ : ∃ d, ds = [d] := List.length_eq_one_iff.1 h1
      exact hne d rfl
    rw [dif_neg this]
    exact .tup hlen hrs

theorem post_retN (hT : TblOk P T) (hF : F.plain) {fn : Func} {rs : List ResultVar} (hr : fn.results.toList = rs) {s : LS} {d : Dat} (h : evRet T s rs = some d) (hp : d.pure = true) : Post n F (bodyPost P fn (ConR F d)) .normal s :=
  fun g a w hg => post_ret hT hF hr h hp g a w hg

def params : Nat → List Dat → List (Nat × Dat)
  | _, [] => []
  | k, d :: l => (k, d) :: params (k + 1) l

theorem look_params : ∀ (l : List Dat) (k x : Nat) (d : Dat), look (params k l) x = some d → ∃ j, x = k + j ∧ l[j]? = some d
  | [], k, x, d, h => by simp [params, look] at h
  | y :: l, k, x, d, h => by
    simp only [params, look_cons] at h
    split at h
    · rename_i hb
      have := Nat.eq_of_beq_eq_true hb
      subst this
      cases h
      exact ⟨0, rfl, rfl⟩
    · obtain ⟨j, h1, h2⟩ := look_params l (k + 1) x d h
      exact ⟨j + 1, by omega, by simpa using h2⟩

theorem con_intro {f : FuncId} {fn : Func} {c : Code} {ds : List Dat} {d : Dat} (hf : P.funcs[f]? = some fn) (hb : fn.body = some c) (hn : fn.ntmps = n) (hnm : (fn.name == "runtime.NumGoroutine") = false) (hl : Nat.ble ds.length n = true)
    (h : ∀ F : Fr, F.plain → Awp P n F c (bodyPost P fn (ConR F d)) ⟨params 0 ds, [], []⟩) : Con P f ds d := by
  refine ⟨⟨fn, hf, hnm, by rw [hb]; rfl⟩, ?_⟩
  intro imm w vs himm hr
  let F : Fr := ⟨⟨fun b => w.heap.size ≤ b, imm⟩, w⟩
  refine calls_of_wp hf hb (h F (fun _ => Iff.rfl) (G0 imm) _ w ?_)
  have hl' : ds.length ≤ n := by simpa using hl
  refine ⟨rfl, ?_, ?_, ⟨?_, ?_, ?_, himm, fun b hb => .inl hb⟩, fun _ _ => rfl, fun _ h => h, ⟨rfl, rfl, rfl, Nat.le_refl _, fun b hb => hb, fun _ _ _ => rfl⟩⟩
  · simp [hr.1, hn]
    omega
  · intro x d' hx
    obtain ⟨j, rfl, hj⟩ := look_params ds 0 x d' hx
    have hlt : j < vs.length := by rw [hr.1]; exact (List.getElem?_eq_some_iff.1 hj).1
    have : ((⟨vs⟩ : Array Value) ++ Array.replicate (fn.ntmps - (⟨vs⟩ : Array Value).size) undef).getD (0 + j) undef = vs[j] := by
      rw [Nat.zero_add, Array.getD_eq_getD_getElem?, Array.getElem?_append_left (by simpa using hlt)]
      simp [hlt]
    rw [this]
    exact hr.2 j d' _ hj (List.getElem?_eq_getElem hlt)
  · intro id B hB
    simp [LS.st, look] at hB
  · intro id id' B B' b c c' hB
    simp [LS.st, look] at hB
  · intro id B b c hB
    simp [LS.st, look] at hB

end
end Go.Fw

/-
  The framework, part 18: the words in which functions are written down, and what is owed at each; the table of types.
-/
namespace Go.Fw
open Go

abbrev w64 (x : Int) : Int := IntKind.i64.wrap x
abbrev I (n : Int) : Dat := .c (.im (.i .i64 n))
abbrev IK (k : IntKind) (n : Int) : Dat := .c (.im (.i k n))
abbrev Bo (b : Bool) : Dat := .c (.im (.b b))
abbrev St' (l : List UInt8) : Dat := .c (.im (.s l))
abbrev SL (sz : Nat) (es : List (List ID)) : Dat := .c (.im (.sl sz es))

abbrev enc_int (n : Int) : List ID := [.i .i64 n]
abbrev enc_bool (b : Bool) : List ID := [.b b]
abbrev enc_string (l : List UInt8) : List ID := [.s l]

section
variable {α β : Type}

/-- what a piece of code comes to that may also leave the function -/
inductive Lp (α β : Type) where
  | nx (a : α)
  | xt (b : β)

theorem bs {o : Option α} {f : α → Option β} {r : β} (h : o.bind f = some r) : ∃ x, o = some x ∧ f x = some r := Option.bind_eq_some_iff.1 h
theorem ifT {b : Bool} {x y : Option α} {r : α} (hb : b = true) (h : (if b = true then x else y) = some r) : x = some r := by rwa [if_pos hb] at h
theorem ifF {b : Bool} {x y : Option α} {r : α} (hb : b = false) (h : (if b = true then x else y) = some r) : y = some r := by rwa [if_neg (by rw [hb]; simp)] at h

def idx (l : List α) (i : Int) : Option α := if 0 ≤ i then l[i.toNat]? else none
theorem idx_nn {l : List α} {i : Int} {x : α} (h : idx l i = some x) : 0 ≤ i := by
  unfold idx at h
  split at h
  · assumption
  · cases h
theorem idx_get {l : List α} {i : Int} {x : α} (h : idx l i = some x) : l[i.toNat]? = some x := by
  unfold idx at h
  split at h
  · exact h
  · cases h
theorem idx_map {l : List α} {i : Int} {x : α} (f : α → β) (h : idx l i = some x) : (l.map f)[i.toNat]? = some (f x) := by
  rw [List.getElem?_map, idx_get h]; rfl
theorem idx_row {l : List α} {i : Int} {x : α} (f : α → β) (h : idx l i = some x) : (l.map f)[0 + i.toNat]? = some (f x) := by
  rw [Nat.zero_add]; exact idx_map f h
theorem idx_lt {l : List α} {i : Int} {x : α} (h : idx l i = some x) : i.toNat < l.length := (List.getElem?_eq_some_iff.1 (idx_get h)).1
theorem set_row {l : List α} {i : Int} {x : α} (f : α → β) : (l.set i.toNat x).map f = (l.map f).set (0 + i.toNat) (f x) := by
  rw [Nat.zero_add, List.map_set]
theorem set_lit {l : List α} {i : Nat} {x : α} (f : α → β) : (l.set i x).map f = (l.map f).set i (f x) := by
  rw [List.map_set]

def app (b : Nat) (l m : List α) : Option (List α) := if (l ++ m).length ≤ maxLen ∧ (l ++ m).length * b ≤ 140737488355328 then some (l ++ m) else none
theorem app_eq {b : Nat} {l m r : List α} (h : app b l m = some r) : r = l ++ m ∧ r.length ≤ maxLen ∧ r.length * b ≤ 140737488355328 := by
  unfold app at h
  split at h
  · rename_i hc; cases h; exact ⟨rfl, hc.1, hc.2⟩
  · cases h
theorem app_map {b : Nat} {l m r : List α} (f : α → β) (h : app b l m = some r) : r.map f = l.map f ++ m.map f := by
  rw [(app_eq h).1, List.map_append]
theorem app_len {b : Nat} {l m r : List α} (h : app b l m = some r) : r.length ≤ maxLen := (app_eq h).2.1
theorem app_by {b : Nat} {l m r : List α} (h : app b l m = some r) : r.length * b ≤ 140737488355328 := (app_eq h).2.2
theorem len_map {l : List α} (f : α → β) : l.length = (l.map f).length := by simp
theorem len_map' {l : List α} (f : α → β) : (l.map f).length = l.length := by simp

def mkl (b : Nat) (n : Int) (z : α) : Option (List α) := if 0 ≤ n ∧ n.toNat ≤ maxLen ∧ b * n.toNat ≤ 281474976710656 then some (List.replicate n.toNat z) else none
theorem mkl_eq {b : Nat} {n : Int} {z : α} {r : List α} (h : mkl b n z = some r) : 0 ≤ n ∧ r = List.replicate n.toNat z ∧ r.length = n.toNat ∧ r.length ≤ maxLen ∧ b * r.length ≤ 281474976710656 := by
  unfold mkl at h
  split at h
  · rename_i hc; cases h; exact ⟨hc.1, rfl, by simp, by simpa using hc.2.1, by simpa using hc.2.2⟩
  · cases h
theorem mkl_map {b : Nat} {n : Int} {z : α} {r : List α} (f : α → β) (h : mkl b n z = some r) : r.map f = List.replicate r.length (f z) := by
  rw [(mkl_eq h).2.2.1, (mkl_eq h).2.1]; simp

def slc (l : List α) (a b : Int) : Option (List α) := if 0 ≤ a ∧ a ≤ b ∧ b ≤ l.length then some ((l.take b.toNat).drop a.toNat) else none
theorem slc_eq {l r : List α} {a b : Int} (h : slc l a b = some r) : 0 ≤ a ∧ a ≤ b ∧ b ≤ l.length ∧ r = (l.take b.toNat).drop a.toNat := by
  unfold slc at h
  split at h
  · rename_i hc; cases h; exact ⟨hc.1, hc.2.1, hc.2.2, rfl⟩
  · cases h
theorem slc_len {l r : List α} {a b : Int} (f : α → β) (h : slc l a b = some r) : b ≤ (l.map f).length := by
  rw [List.length_map]; exact (slc_eq h).2.2.1
theorem slc_map {l r : List α} {a b : Int} (f : α → β) (h : slc l a b = some r) : r.map f = ((l.map f).take b.toNat).drop a.toNat := by
  rw [(slc_eq h).2.2.2, List.map_drop, List.map_take]
theorem slc_lenSelf {l r : List α} {b : Int} (h : slc l 0 b = some r) : r.length = b.toNat := by
  obtain ⟨h1, h2, h3, h4⟩ := slc_eq h
  rw [h4]; simp; omega

theorem slcE_1 {l r : List α} {a : Int} (f : α → β) (h : slc l a (l.length : Int) = some r) : a ≤ ((l.map f).length : Int) := by
  rw [List.length_map]; exact (slc_eq h).2.1
theorem slcE_2 {l : List α} (f : α → β) : ((l.map f).length : Int) ≤ (l.map f).length := Int.le_refl _
theorem slcE_3 {l r : List α} {a : Int} (f : α → β) (h : slc l a (l.length : Int) = some r) : r.map f = ((l.map f).take ((l.map f).length : Int).toNat).drop a.toNat := by
  rw [slc_map f h, List.length_map]

abbrev shlK (k : IntKind) (a b : Int) : Int := k.wrap (a * 2 ^ min b.toNat k.bits)
abbrev shrK (k : IntKind) (a b : Int) : Int := a.fdiv (2 ^ min b.toNat k.bits)
abbrev andK (k : IntKind) (a b : Int) : Int := k.wrap ((BitVec.ofInt k.bits a &&& BitVec.ofInt k.bits b).toNat)
abbrev orK (k : IntKind) (a b : Int) : Int := k.wrap ((BitVec.ofInt k.bits a ||| BitVec.ofInt k.bits b).toNat)
abbrev xorK (k : IntKind) (a b : Int) : Int := k.wrap ((BitVec.ofInt k.bits a ^^^ BitVec.ofInt k.bits b).toNat)
theorem boolc (b : Bool) : b = true ∨ b = false := by cases b <;> simp

def nz (x : Int) : Option Unit := if x ≠ 0 then some () else none
theorem nz_eq {x : Int} {u : Unit} (h : nz x = some u) : x ≠ 0 := by
  unfold nz at h
  split at h
  · assumption
  · cases h
def nn (x : Int) : Option Unit := if 0 ≤ x then some () else none
theorem nn_eq {x : Int} {u : Unit} (h : nn x = some u) : 0 ≤ x := by
  unfold nn at h
  split at h
  · assumption
  · cases h
/-- two texts, one behind the other -/
def cat (l m : List UInt8) : Option (List UInt8) := if (l.length : Int) + m.length ≤ 9223372036854775807 then some (l ++ m) else none
theorem cat_eq {l m r : List UInt8} (h : cat l m = some r) : (l.length : Int) + m.length ≤ 9223372036854775807 ∧ l ++ m = r := by
  unfold cat at h
  split at h
  · rename_i hc; cases h; exact ⟨hc, rfl⟩
  · cases h
end

/-- a nought of the table and the model's -/
def zok1 : ID → Value → Bool
  | .i k n, .int k' m => k == k' && n == m
  | .b x, .bool y => x == y
  | .s [], .string ⟨⟨[]⟩⟩ => true
  | .nl _, .slice none 0 0 => true
  | .v (.pointer none), .pointer none => true
  | .v .nilFunc, .nilFunc => true
  | .v .nilIface, .nilIface => true
  | .v (.map none), .map none => true
  | _, _ => false
def zok : List ID → List Value → Bool
  | [], [] => true
  | d :: l, x :: r => zok1 d x && zok l r
  | _, _ => false

theorem zok1_ok {d : ID} {x : Value} (h : zok1 d x = true) (w : World) (imm : Nat → Prop) : RepI w imm d x := by
  unfold zok1 at h
  split at h
  · simp only [Bool.and_eq_true, beq_iff_eq] at h
    obtain ⟨rfl, rfl⟩ := h
    exact .i _ _
  · simp only [beq_iff_eq] at h
    subst h
    exact .b _
  · exact .s []
  · exact .nl _
  · exact .v _ rfl
  · exact .v _ rfl
  · exact .v _ rfl
  · exact .v _ rfl
  · cases h
theorem zok_ok : ∀ {l : List ID} {r : List Value}, zok l r = true → l.length = r.length ∧ ∀ (w : World) (imm : Nat → Prop) (k : Nat) (d : ID) (x : Value), l[k]? = some d → r[k]? = some x → RepI w imm d x
  | [], [], _ => by simp
  | d :: l, x :: r, h => by
    simp only [zok, Bool.and_eq_true] at h
    obtain ⟨h1, h2⟩ := zok_ok h.2
    refine ⟨by simp [h1], ?_⟩
    intro w imm k d' x' a b
    cases k with
    | zero =>
      simp only [List.getElem?_cons_zero, Option.some.injEq] at a b
      subst a b
      exact zok1_ok h.1 w imm
    | succ k => exact h2 w imm k d' x' (by simpa using a) (by simpa using b)
  | [], _ :: _, h => by cases h
  | _ :: _, [], h => by cases h

/-- a row of the table, held against the program's -/
structure RowOk (P : Program) (t : TypeId) (i : TI) : Prop where
  und : P.underlying t = some i.desc
  info : ∃ j z, P.info? t = some j ∧ j.zero = some z ∧ (Nat.beq j.size i.size && Nat.beq j.bytes i.bytes && Nat.beq z.cells.size i.size && zok i.zero z.cells.toList) = true

theorem tblOk {P : Program} {tbl : List (Nat × TI)} (h : ∀ p ∈ tbl, RowOk P p.1 p.2) : TblOk P (look tbl) := by
  have mem : ∀ (l : List (Nat × TI)) (t : Nat) (i : TI), look l t = some i → (t, i) ∈ l := by
    intro l
    induction l with
    | nil => intro t i h; simp [look] at h
    | cons p l ih =>
      intro t i hl
      obtain ⟨y, a⟩ := p
      rw [look_cons] at hl
      split at hl
      · rename_i hb
        have := Nat.eq_of_beq_eq_true hb
        subst this
        cases hl
        simp
      · exact List.mem_cons_of_mem _ (ih t i hl)
  refine ⟨fun t i ht => (h _ (mem tbl t i ht)).und, ?_⟩
  intro t i ht
  obtain ⟨j, z, h1, h2, h3⟩ := (h _ (mem tbl t i ht)).info
  simp only [Bool.and_eq_true] at h3
  obtain ⟨⟨⟨k1, k2⟩, k3⟩, k4⟩ := h3
  have k1 := Nat.eq_of_beq_eq_true k1
  have k2 := Nat.eq_of_beq_eq_true k2
  have k3 := Nat.eq_of_beq_eq_true k3
  obtain ⟨l1, l2⟩ := zok_ok k4
  refine ⟨j, h1, k1, k2, z, h2, k3, by rw [l1]; simpa using k3, ?_⟩
  intro w imm k d x a b
  exact l2 w imm k d x a (by simpa using b)

theorem all_nil {P : Program} : ∀ p ∈ ([] : List (Nat × TI)), RowOk P p.1 p.2 := by simp
theorem all_cons {P : Program} {t : Nat} {i : TI} {l : List (Nat × TI)} (h : RowOk P t i) (k : ∀ p ∈ l, RowOk P p.1 p.2) : ∀ p ∈ ((t, i) :: l), RowOk P p.1 p.2 := by
  intro p hp
  rcases List.mem_cons.1 hp with rfl | hp
  · exact h
  · exact k p hp

end Go.Fw

/-
  The framework, part 19: rows that are written; a state under another name.
-/
namespace Go.Fw
open Go

section
variable {α β : Type}
def upd (l : List α) (i : Int) (x : α) : Option (List α) := if 0 ≤ i ∧ i.toNat < l.length then some (l.set i.toNat x) else none
theorem upd_eq {l r : List α} {i : Int} {x : α} (h : upd l i x = some r) : 0 ≤ i ∧ i.toNat < l.length ∧ r = l.set i.toNat x := by
  unfold upd at h
  split at h
  · rename_i hc; cases h; exact ⟨hc.1, hc.2, rfl⟩
  · cases h
theorem upd_set {l r : List α} {i : Int} {x : α} (f : α → β) (h : upd l i x = some r) : r.map f = (l.map f).set (0 + i.toNat) (f x) := by
  rw [(upd_eq h).2.2, Nat.zero_add, List.map_set]
theorem upd_len {l r : List α} {i : Int} {x : α} (h : upd l i x = some r) : l.length = r.length := by
  rw [(upd_eq h).2.2, List.length_set]
theorem idx_ltn {l : List α} {n : Nat} {i : Int} {x : α} (hn : n = l.length) (h : idx l i = some x) : i.toNat < n := by
  rw [hn]; exact idx_lt h
theorem lenm {l : List α} {n : Nat} (f : α → β) (h : n = l.length) : n = (l.map f).length := by simpa using h
end

section
variable {n : Nat} {F : Fr} {Q : Exit → Act → World → Prop}
theorem post_eq {s s' : LS} {ex : Exit} (e : s = s') (k : Post n F Q ex s') : Post n F Q ex s := e ▸ k
end
end Go.Fw

/-
  The framework, part 20: an argument, as it is read, as a datum.
-/
namespace Go.Fw
open Go Go.ChangeShapes Go.RowKit

section
variable {H : Type} {enc : TypeId × Value → H} {P : Program} {W : World} {spare : Nat → Bool} {held : Bool} {t : TypeId} {v : Value} {d : DataW H} {ps : List MemPlace}

/-- what was there -/
def inH (W : World) : Nat → Prop := fun b => b < W.heap.size

theorem in_int {r : Reach} {b0 : Nat} {k : IntKind} (ht : P.underlying t = some (.int k)) (hval : Value.okWide P W r b0 t v) (hd : DataW.Trod enc P W 0 spare held t v d ps) :
    ∃ n, (Lit.int k n).wf = true ∧ RepD (G0 (inH W)) W (.c (.im (.i k n))) v := by
  obtain ⟨n, rfl, _, _, hw⟩ := open_int ht hval hd
  exact ⟨n, hw, .c (.im (.i _ _))⟩
theorem in_bool {r : Reach} {b0 : Nat} (ht : P.underlying t = some .bool) (hval : Value.okWide P W r b0 t v) (hd : DataW.Trod enc P W 0 spare held t v d ps) :
    ∃ b, RepD (G0 (inH W)) W (.c (.im (.b b))) v := by
  obtain ⟨b, rfl, _, _⟩ := open_bool ht hval hd
  exact ⟨b, .c (.im (.b _))⟩

theorem flat1 {α : Type} (f : α → ID) : ∀ (l : List α), (l.map fun n => [f n]).flatten = l.map f
  | [] => rfl
  | x :: l => by simp [flat1 f l]

theorem in_ints {r : Reach} {b0 : Nat} {k : IntKind} {e : TypeId} (ht : P.underlying t = some (.slice e)) (he : P.underlying e = some (.int k)) (hc : P.cellsOf e = 1)
    (hval : Value.okWide P W r b0 t v) (hd : DataW.Trod enc P W 0 spare held t v d ps) :
    ∃ zs : List Int, (∀ n ∈ zs, (Lit.int k n).wf = true) ∧ zs.length ≤ maxLen ∧ RepD (G0 (inH W)) W (.c (.im (.sl 1 (zs.map fun n => [.i k n])))) v := by
  obtain ⟨fuel, hf⟩ := hd
  have hv : v.cells.toList = [v] := by
    cases v <;> simp [Value.okWide, Cell.okWide, Cell.ok, ht] at hval <;> rfl
  rw [hv] at hf
  rcases open_ints ht he hc hf with ⟨h1, _⟩ | ⟨a, len, cap, zs, h1, hb, hl, hm, hz, hx, hcell, hw⟩
  · simp only [List.cons.injEq, and_true] at h1
    subst h1
    exact ⟨[], by simp, by simp, .c (.im (.sl0 _))⟩
  · simp only [List.cons.injEq, and_true] at h1
    subst h1
    have hlz : len ≤ zs.length := by rw [hz]; split <;> omega
    simp only [Value.okWide, Cell.okWide, Cell.ok, ht] at hval
    obtain ⟨_, _, _, hs, row, cells, hsh, _⟩ := hval
    obtain ⟨b, o, sp⟩ := a
    have hs : sp = none := hs
    subst hs
    have hblk : b < W.heap.size := by
      unfold World.shape? at hsh
      cases hh : W.heap[b]? with
      | none => simp [hh] at hsh
      | some x => exact (Array.getElem?_eq_some_iff.1 hh).1
    have htl : (zs.take len).length = len := by simp; omega
    refine ⟨zs.take len, fun n hn => hw n (List.mem_of_mem_take hn), by rw [htl]; omega, ?_⟩
    refine .c (.im ?_)
    have hget : ∀ j x, ((zs.take len).map fun n => ([.i k n] : List ID)).flatten[j]? = some x → j < zs.length ∧ x = .i k (zs.getD j 0) := by
      intro j x hj
      rw [flat1 (fun n => ID.i k n), List.getElem?_map] at hj
      cases hg : (zs.take len)[j]? with
      | none => rw [hg] at hj; cases hj
      | some y =>
        rw [hg] at hj
        simp only [Option.map_some, Option.some.injEq] at hj
        rw [List.getElem?_take] at hg
        split at hg
        · have hlt := (List.getElem?_eq_some_iff.1 hg).1
          refine ⟨hlt, ?_⟩
          rw [← hj, List.getD, hg]
          rfl
        · cases hg
    have := RepI.sl (w := W) (imm := inH W) 1 ((zs.take len).map fun n => ([.i k n] : List ID)) b o cap (fun j => .int k (zs.getD j 0)) hblk (by simp only [List.length_map, htl]; exact hl) hm
      (by intro x hx; simp only [List.mem_map] at hx; obtain ⟨y, _, rfl⟩ := hx; rfl)
      (by
        intro j x hj
        have := hcell j (hget j x hj).1
        have e : (⟨b, o, none⟩ : Addr).add j = ⟨b, o + j, none⟩ := by
          unfold Addr.add
          split
          · rename_i h0; rw [h0]; rfl
          · rfl
        rw [e] at this
        exact this)
      (by
        intro j x hj
        rw [(hget j x hj).2]
        exact .i _ _)
    simp only [List.length_map, htl] at this
    exact this

theorem wf64 {n : Int} (h : (Lit.int .i64 n).wf = true) : -9223372036854775808 ≤ n ∧ n ≤ 9223372036854775807 := by
  simp only [Lit.wf, Bool.and_eq_true, decide_eq_true_eq] at h
  exact h

theorem trodAll_stays (hl : laidOutB P = true) {W' : World} {sp : Nat → Bool} (hb : Below W.heap.size W W') : ∀ {ts : List TypeId} {vs : List Value} {ds : List (DataW H)} {ps : List MemPlace},
    DataW.TrodAll enc P W 0 (fun _ => true) true ts vs ds ps → (ts.all fun t => P.readableRec t && Nat.blt t P.types.size) = true → (∀ x ∈ ps, x.block < W.heap.size) → (∀ x ∈ ps, sp x.block = true) →
    DataW.TrodAll enc P W' 0 sp true ts vs ds ps
  | [], vs, ds, ps, h, _, _, _ => by
    obtain ⟨rfl, rfl, rfl⟩ := trodAll_nil h
    rfl
  | t :: ts, vs, ds, ps, h, hr, hlt, hsp => by
    obtain ⟨v, vs1, d, ds1, a, b, rfl, rfl, rfl, h1, h2⟩ := trodAll_cons h
    simp only [List.all_cons, Bool.and_eq_true] at hr
    refine trodAll_cons_mk (WideElems.Trod_stays hl hr.1.1 (by simpa using hr.1.2) h1 (fun x hx => hb.same (hlt x (by simp [hx]))) (fun x hx => hsp x (by simp [hx]))) (trodAll_stays hl hb h2 hr.2 (fun x hx => hlt x (by simp [hx])) (fun x hx => hsp x (by simp [hx])))

/-- a law that says true, and leaves all as it was -/
theorem law_true {fid : FuncId} {f : Func} {s : ChangeSpec} {tb : TypeId} {args : Array Value} {ds gs : List (DataW H)} {before : List MemPlace}
    (hl : laidOutB P = true) (hr : (f.params.toList.all fun t => P.readableRec t && Nat.blt t P.types.size) = true) (hv : s.vars = []) (ht : f.resultTypes = #[tb]) (htb : P.underlying tb = some .bool)
    (hW : DataW.Whole enc P f.params.toList s.vars false W args.toList ds gs before) (hfn : s.fn H (ds ++ gs) = { results := [.lit (.bool true)], args := ds })
    (h : Calls P fid args W fun e w' => e = .returned (.bool true) ∧ Below W.heap.size W w') :
    Calls P fid args W fun e W' => ∃ v, e = .returned v ∧ s.post enc P f false true false false W args v W' := by
  have hW' := hW
  obtain ⟨p, q, hA, hV, rfl, hfz, hnd⟩ := hW
  rw [hv] at hV
  obtain ⟨rfl, rfl⟩ := trodVars_none hV
  refine h.mono fun e W' ⟨he, hg⟩ => ?_
  subst he
  have hlt : ∀ x ∈ p, x.block < W.heap.size := fun x hx => by simpa using hW'.lt x (by simp [hx])
  have args : ∀ sp : Nat → Bool, (∀ x ∈ p, sp x.block = true) → DataW.TrodAll enc P W' 0 sp true f.params.toList args.toList (s.fn H (ds ++ [])).args p := by
    intro sp hsp
    rw [hfn]
    exact trodAll_stays hl hg hA hr hlt hsp
  have vars : ∀ sp : Nat → Bool, DataW.TrodVars enc P W' sp s.vars (s.fn H (ds ++ [])).vars [] := by
    intro sp
    rw [hfn, hv]
    rfl
  have res : ∀ (b : Nat) (sp : Nat → Bool) (hd : Bool), DataW.TrodAll enc P W' b sp hd f.resultTypes.toList ((Value.bool true).resultList f.resultTypes.size) (s.fn H (ds ++ [])).results [] := by
    intro b sp hd
    rw [hfn, ht]
    exact trodAll_cons_mk (shut_bool htb true) trodAll_mk0
  refine ⟨_, rfl, ds, [], p ++ [], [], p, [], hW', res _ _ _, args _ (fun x hx => by simpa using hlt x hx), vars _, hg.frame _, fun _ => ?_⟩
  refine ⟨ok_one ht rfl (okWide_bool_mk htb _), _, _, ([] ++ p) ++ [], ⟨[] ++ p, [], trodAll_append (args _ (fun _ _ => rfl)) (res _ _ _), vars _, rfl, ?_, fun h => by cases h⟩, ?_⟩
  · intro b off hp
    rw [hg.frozen (hlt _ (by simpa using hp))]
    exact hfz b off (by simpa using hp)
  · intro x hx _
    simpa using hx

theorem reps_nil {g : G} {w : World} : RepDs g w [] [] := ⟨rfl, by simp⟩
theorem reps_cons {g : G} {w : World} {d : Dat} {ds : List Dat} {v : Value} {vs : List Value} (h : RepD g w d v) (k : RepDs g w ds vs) : RepDs g w (d :: ds) (v :: vs) := by
  refine ⟨by simp [k.1], ?_⟩
  intro j d' x a b
  cases j with
  | zero =>
    simp only [List.getElem?_cons_zero, Option.some.injEq] at a b
    subst a b
    exact h
  | succ j => exact k.2 j d' x (by simpa using a) (by simpa using b)

theorem out_bool {imm : Nat → Prop} {w : World} {b : Bool} {v : Value} (h : RepD (G0 imm) w (Bo b) v) : v = .bool b := inv_b h

/-- a contract that says true, at arguments that were read -/
theorem calls_true {fid : FuncId} {ds : List Dat} {vs : List Value} (c : Con P fid ds (Bo true)) (h : RepDs (G0 (inH W)) W ds vs) :
    Calls P fid ⟨vs⟩ W fun e w' => e = .returned (.bool true) ∧ Below W.heap.size W w' :=
  (c.run (inH W) W vs (fun _ h => h) h).mono fun e w' ⟨v, he, hb, _, _, _, _, hr⟩ => ⟨by rw [he, out_bool hr], hb⟩
end
end Go.Fw

