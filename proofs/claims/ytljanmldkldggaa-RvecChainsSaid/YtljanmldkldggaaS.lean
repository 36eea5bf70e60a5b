/-
  Laws over plain data: true at all inputs. Conditions: none.
-/
import Derived.Test.YtljanmldkldggaaP
import Derived.Test.YtljanmldkldggaaC
namespace Go.Fx.D
open Go Go.Fx
set_option linter.unusedVariables false
set_option linter.unusedSimpArgs false

theorem known_eq : dispatchlaw1_known = some true := by kernel_rfl

theorem sums_step (a b x1 x2 x3 x4 x5 : Vec) {i : Int} (h0 : 0 ≤ i) (h4 : i < 4) : dispatchlaw1_RvecSums_l1 a b x1 x2 x3 x4 x5 i = some (.inl (i + 1)) := by
  unfold dispatchlaw1_RvecSums_l1
  generalize hl : [(⟨⟨a.Mem, a.Cores⟩, ⟨b.Mem, b.Cores⟩⟩ : Arr2_Vec), (⟨⟨x1.Mem, x1.Cores⟩, ⟨x2.Mem, x2.Cores⟩⟩ : Arr2_Vec), (⟨⟨x3.Mem, x3.Cores⟩, ⟨x4.Mem, x4.Cores⟩⟩ : Arr2_Vec), (⟨⟨x5.Mem, x5.Cores⟩, ⟨b.Mem, b.Cores⟩⟩ : Arr2_Vec)] = l
  have hlen : l.length = 4 := by rw [← hl]; rfl
  have hin : inb i l.length = some i.toNat := by unfold inb; rw [if_pos ⟨h0, by rw [hlen]; omega⟩]
  have hlt : i.toNat < l.length := by rw [hlen]; omega
  have hw : w64 (i + 1) = i + 1 := w64_id (by omega) (by omega)
  obtain ⟨⟨s, sc⟩, hs⟩ : ∃ r, rvec_Add (l[i.toNat]).a0 (l[i.toNat]).a1 = some r := ⟨_, add_eq _ _⟩
  obtain ⟨⟨d, dc⟩, hd⟩ : ∃ r, rvec_Sub (l[i.toNat]).a0 (l[i.toNat]).a1 = some r := ⟨_, sub_eq _ _⟩
  obtain ⟨f, hf⟩ : ∃ r, rvec_Fits (l[i.toNat]).a0 (l[i.toNat]).a1 = some r := ⟨_, fits_eq _ _⟩
  simp [h4, hin, List.getElem?_eq_getElem hlt, radd_eq, rsub_eq, rfits_eq, hs, hd, hf, hw]

theorem plainRvecSums (a b : Vec) (how : Int) (w0 : WfT fam (.st 0) a) (w1 : WfT fam (.st 0) b) (w2 : WfT fam (.int .i64) how) : dispatchlaw1_RvecSums a b how = some true := by
  unfold dispatchlaw1_RvecSums
  rw [known_eq]
  obtain ⟨y1, e1, _⟩ := vec_ok a how
  obtain ⟨y2, e2, _⟩ := vec_ok b how
  obtain ⟨y3, e3, _⟩ := vec_ok a (w64 (Int.tdiv how 2))
  obtain ⟨y4, e4, _⟩ := vec_ok b (w64 (Int.tdiv how 4))
  simp only [Option.bind_some, Bool.not_true, cond_false, e1, e2, e3, e4]
  have hl : loop (dispatchlaw1_RvecSums_l1 a b y1 y2 y3 y4 y1) 0 = some (.inr ()) := by
    rw [loop_eq, sums_step _ _ _ _ _ _ _ (by omega) (by omega)]
    dsimp only
    rw [loop_eq, sums_step _ _ _ _ _ _ _ (by omega) (by omega)]
    dsimp only
    rw [loop_eq, sums_step _ _ _ _ _ _ _ (by omega) (by omega)]
    dsimp only
    rw [loop_eq, sums_step _ _ _ _ _ _ _ (by omega) (by omega)]
    dsimp only
    rw [loop_eq]
    rfl
  rw [hl]
  rfl
end Go.Fx.D
