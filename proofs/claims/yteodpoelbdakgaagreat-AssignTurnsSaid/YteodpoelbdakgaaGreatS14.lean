/-
  The reference manager: what holds of its state after every script. Conditions: none.
-/
import Derived.Test.YteodpoelbdakgaaGreatS13
namespace Go.Fx.D
open Go Go.Fx
set_option linter.unusedVariables false
set_option linter.unusedSimpArgs false
theorem Inv.plans {N : Nat} {s : State} (h : Inv N s) {ps : List Plan} (hs : ps.Sublist s.Plans) : Inv N ⟨s.Conf, s.Nodes, s.Apps, s.Conts, s.Slots, ps, s.Now, s.Epoch, s.Seq⟩ :=
 ⟨h.cf, h.nl, h.ns, h.nk, h.al, h.asr, h.ak, h.cl, h.cs, fun c hc => ⟨(h.ck c hc).size, (h.ck c hc).app, (h.ck c hc).label, (h.ck c hc).id⟩, h.ss, h.sk, Nat.le_trans hs.length_le h.pl, h.ps.sublist hs, fun p hp => h.pk p (hs.subset hp), h.now, h.ep, h.sq, h.en⟩
end Go.Fx.D
