/-
  The reference manager: what holds of its state after every script. Conditions: none.
-/
import Derived.Test.YteodpoelbdakgaaGreatS12
namespace Go.Fx.D
open Go Go.Fx
set_option linter.unusedVariables false
set_option linter.unusedSimpArgs false
theorem k7 {l : List Ask} {p : Int} {x : Ask} (h : askAt l p = some x) : x ∈ l ∧ x.Prio = p := fh h
theorem xu {N : Nat} (hN : N ≤ 1000000) {s : State} (h : Inv N s) {n : Node} (hn : n ∈ s.Nodes) (hc : s.Conts.length < 200) (hq : s.Seq < 1048575) (x : Slot) :
  Gv (cO s n x) fun r => if r.2.2.2 = true then Inv (N + 1) r.1 else Inv N r.1 ∧ (∀ y ∈ r.1.Slots, y.Node ≠ n.Id) ∧ r.1.Nodes = s.Nodes ∧ r.1.Conts = s.Conts ∧ r.1.Seq = s.Seq := by
 have hrel : ∀ c : Cont, (fun r : State × Int × Cont × Bool => if r.2.2.2 = true then Inv (N + 1) r.1 else Inv N r.1 ∧ (∀ y ∈ r.1.Slots, y.Node ≠ n.Id) ∧ r.1.Nodes = s.Nodes ∧ r.1.Conts = s.Conts ∧ r.1.Seq = s.Seq) (gE s n.Id, 0, c, false) := by
  intro c
  dsimp only
  rw [if_neg (by simp)]
  exact ⟨h.noSlot _, fun y hy => by have := (List.mem_filter.1 hy).2; simpa using this, rfl, rfl, rfl⟩
 unfold cO
 rw [bb h.z, Ba]
 cases ha0 : appAt s x.App with
 | none =>
  simp only [Option.elim]
  rw [oW (by simp [noA]), Ba]
  simp only [Bool.not_false, cond_true, Ba]
  rw [kM h.z, Ba]
  exact af (hrel _)
 | some a =>
  obtain ⟨ha, _⟩ := m9 ha0
  have hak := h.ak a ha
  simp only [Option.elim]
  rw [oW (by have := hak.al; omega), Ba]
  refine aT (P := fun b => b = false → pLive a = true ∧ ∃ k ∈ a.Asks, askAt a.Asks x.Prio = some k) ?_ ?_
  ·refine aw (fun _ => af (by simp)) fun _ => ?_
   rw [j3, Ba]
   refine aw (fun _ => af (by simp)) fun hl => ?_
   have hl : pLive a = true := by simpa using hl
   cases hk : askAt a.Asks x.Prio with
   | none => exact af (by simp)
   | some k =>
    have hkm := (k7 hk).1
    have hkk := hak.ask k hkm
    simp only [Option.elim, Bool.not_true, cond_false]
    rw [lE, Ba]
    refine aw (fun _ => af (by simp)) fun _ => ?_
    rw [eQ, Ba]
    refine aw (fun _ => af (by simp)) fun _ => ?_
    rw [po h.sc (h.leafLen ha) hkk.size.vb, Ba]
    refine aw (fun _ => af (by simp)) fun _ => ?_
    rw [jY h.sc (h.leafLen ha), Ba]
    exact af fun _ => ⟨hl, k, hkm, rfl⟩
  ·intro b hb
   refine aw (fun _ => ?_) fun hbf => ?_
   ·rw [kM h.z, Ba]
    exact af (hrel _)
   ·obtain ⟨hl, k, hkm, hk⟩ := hb hbf
    have hkk := hak.ask k hkm
    rw [hk]
    simp only [Option.elim]
    refine aT (P := fun _ => True) ?_ fun q _ => ?_
    ·rw [lv h.sb, Ba, eQ, Ba, nS h.sc (h.leafLen ha) n.Label hkk.size.vb]
     repeat' (first | exact ⟨_, rfl, trivial⟩ | refine aw (fun _ => ?_) (fun _ => ?_))
    ·refine aw (fun _ => af ?_) fun _ => ?_
     ·dsimp only
      rw [if_pos rfl]
      exact h.mono (by omega)
     ·rw [kM h.z, Ba]
      have hN' := h.noSlot n.Id
      rw [mo hN'.z hN'.sq n (by have := hak.al; omega) (fun y hy => by have := (hak.ask y hy).count; omega) (by have := hak.gr; omega) k, Ba]
      refine af ?_
      dsimp only
      rw [if_pos rfl]
      exact hN'.grant hn ha hl hkk hc hq
end Go.Fx.D
