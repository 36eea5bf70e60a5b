/-
  The reference manager: what holds of its state after every script. Conditions: none.
-/
import Derived.Test.YteodpoelbdakgaaGreatS14
namespace Go.Fx.D
open Go Go.Fx
set_option linter.unusedVariables false
set_option linter.unusedSimpArgs false
def lQ (x : Ask) : Vec := ⟨x.Size.Mem * x.Count, x.Size.Cores * x.Count⟩
def gp (l : List Ask) (label : Int) : Vec := vsum ((l.filter fun x => x.Label == label).map lQ)
theorem mY {c : Conf} {x : Ask} (h : AskOk c x) : VB 53687091200 (lQ x) ∧ w64 (x.Size.Mem * x.Count) = x.Size.Mem * x.Count ∧ w64 (x.Size.Cores * x.Count) = x.Size.Cores * x.Count := by
 have h1 := h.size
 have h2 := h.count
 unfold SzOk at h1
 obtain ⟨⟨a1, a2⟩, a3, a4⟩ := h1
 have m1 := jC (n := x.Size.Mem) (bp := x.Count) (N := 1073741824) (B := 50) (by omega) a2 (by omega) (by omega)
 have m2 := jC (n := x.Size.Cores) (bp := x.Count) (N := 1073741824) (B := 50) (by omega) a4 (by omega) (by omega)
 refine ⟨?_, aB (by omega) (by omega), aB (by omega) (by omega)⟩
 unfold VB lQ
 dsimp only
 omega
theorem y7 {c : Conf} {l : List Ask} (hl : l.length ≤ 100) (h : ∀ x ∈ l, AskOk c x) (label : Int) : dD l label = some (gp l label) := by
 unfold dD
 rw [fe (fun v i => (v, i)) l (fun x => x.Label == label) lQ (step := cx l label) (by omega) (fun x hx _ => (mY (h x hx)).1.mono (by omega)) ?_ ?_]
 ·rfl
 ·intro k hk v hv
  obtain ⟨t1, t2, t3⟩ := mY (h _ (List.getElem_mem hk))
  unfold cx
  dsimp only
  rw [au hk, cond_true, ax hk]
  simp only [Ba, t2, t3]
  have hp : az v ⟨l[k].Size.Mem * l[k].Count, l[k].Size.Cores * l[k].Count⟩ = some (vplus v (lQ l[k])) := il (hv.mono (m := 200000000000000000) (by omega)) (t1.mono (by omega)) (by omega)
  rw [hp]
  cases l[k].Label == label <;> rfl
 ·intro v
  unfold cx
  rw [aD]
  rfl
theorem tp {c : Conf} {l : List Ask} (hl : l.length ≤ 8) (h : ∀ x ∈ l, AskOk c x) (label : Int) : VB 429496729600 (gp l label) := by
 have := lB (n := 53687091200) (by omega) (l := (l.filter fun x => x.Label == label).map lQ) (fun v hv => by
  obtain ⟨x, hx, rfl⟩ := List.mem_map.1 hv
  exact (mY (h x (List.mem_filter.1 hx).1)).1)
 refine this.mono ?_
 rw [List.length_map]
 have := List.length_filter_le (fun x : Ask => x.Label == label) l
 omega
def eD (s : State) (path : Str) (label : Int) : Vec := vsum ((s.Apps.filter fun a => pLive a && a8 a.Queue path).map fun a => gp a.Asks label)
theorem mq {N : Nat} {s : State} (h : Inv N s) (path : Str) (label : Int) : aL s path label = some (eD s path label) := by
 have hal := h.al
 unfold aL
 rw [fe (fun v i => (v, i)) s.Apps (fun a => pLive a && a8 a.Queue path) (fun a => gp a.Asks label) (step := bU s path label) (by omega) (fun a ha _ => (tp (h.ak a ha).al (h.ak a ha).ask label).mono (by omega)) ?_ ?_]
 ·rfl
 ·intro k hk v hv
  have hak := h.ak _ (List.getElem_mem hk)
  unfold bU
  dsimp only
  rw [au hk, cond_true, ax hk]
  simp only [Ba]
  rw [j3, rE (h.leafLen (List.getElem_mem hk)), y7 (by have := hak.al; omega) hak.ask]
  simp only [Ba]
  have hp : az v (gp s.Apps[k].Asks label) = some (vplus v (gp s.Apps[k].Asks label)) := il (hv.mono (m := 200000000000000000) (by omega)) ((tp hak.al hak.ask label).mono (by omega)) (by omega)
  rw [hp]
  cases pLive s.Apps[k] <;> cases a8 s.Apps[k].Queue path <;> rfl
 ·intro v
  unfold bU
  rw [aD]
  rfl
end Go.Fx.D
