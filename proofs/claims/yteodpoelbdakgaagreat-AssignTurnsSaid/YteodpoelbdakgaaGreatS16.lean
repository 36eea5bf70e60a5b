/-
  The reference manager: what holds of its state after every script. Conditions: none.
-/
import Derived.Test.YteodpoelbdakgaaGreatS15
namespace Go.Fx.D
open Go Go.Fx
set_option linter.unusedVariables false
set_option linter.unusedSimpArgs false
def strip (c : Cont) : Cont := ⟨c.Id, c.App, c.Node, c.Size, c.Prio, c.Label, c.Master, 0⟩
theorem Inv.conts {N : Nat} {s : State} (h : Inv N s) {cs : List Cont} (e : cs.map strip = s.Conts.map strip) : Inv N ⟨s.Conf, s.Nodes, s.Apps, cs, s.Slots, s.Plans, s.Now, s.Epoch, s.Seq⟩ := by
 have hl : cs.length = s.Conts.length := by simpa using congrArg List.length e
 refine ⟨h.cf, h.nl, h.ns, h.nk, h.al, h.asr, h.ak, by show cs.length ≤ 200; rw [hl]; exact h.cl, ?_, fun c hc => ?_, h.ss, h.sk, h.pl, h.ps, h.pk, h.now, h.ep, h.sq, h.en⟩
 ·have h1 : (s.Conts.map strip).Pairwise fun x y => x.Id < y.Id := List.pairwise_map.2 h.cs
  rw [← e] at h1
  exact (List.pairwise_map (f := strip) (R := fun x y : Cont => x.Id < y.Id)).1 h1
 ·have hm : strip c ∈ s.Conts.map strip := by rw [← e]; exact List.mem_map_of_mem hc
  obtain ⟨c', hc', ec⟩ := List.mem_map.1 hm
  have := h.ck c' hc'
  unfold strip at ec
  injection ec with e1 e2 e3 e4 e5 e6 e7
  refine ⟨by rw [← e4]; exact this.size, ?_, by rw [← e6]; exact this.label, by rw [← e1]; exact this.id⟩
  rw [← e2]
  exact this.app
theorem Inv.at_ {N : Nat} {s : State} (h : Inv N s) {t : Int} (ht : 0 ≤ t ∧ t ≤ 1000000000) : Inv N ⟨s.Conf, s.Nodes, s.Apps, s.Conts, s.Slots, s.Plans, t, s.Epoch, s.Seq⟩ :=
 ⟨h.cf, h.nl, h.ns, h.nk, h.al, h.asr, h.ak, h.cl, h.cs, fun c hc => ⟨(h.ck c hc).size, (h.ck c hc).app, (h.ck c hc).label, (h.ck c hc).id⟩, h.ss, h.sk, h.pl, h.ps, h.pk, ht, h.ep, h.sq, h.en⟩
structure InOk (x : Input) : Prop where
 ids : x.Ids.length ≤ 1000
 asks : x.Asks.length ≤ 1000
 user : 0 ≤ x.App.User ∧ x.App.User ≤ 2
end Go.Fx.D
