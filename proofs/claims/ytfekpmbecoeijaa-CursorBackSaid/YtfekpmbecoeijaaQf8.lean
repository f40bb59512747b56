-- By this session's program plugprint.py, over the kit's print; Lean checks it.
import Derived.Test.YtfekpmbecoeijaaQ0
import Derived.Test.YtfekpmbecoeijaaCx
namespace Go.Proofs.Ytfekpmbecoeijaa.Q
open Go.RowKit Go.Proofs.YtfekpmbecoeijaaW.PrintWords Go.Proofs.YtfekpmbecoeijaaW.PrintLast Go.Proofs.YtfekpmbecoeijaaW.PrintMore
attribute [local go_sem] max2_int min2_int max_two min_two max_three min_three max_four min_four   -- for this text's walks alone
set_option linter.unusedVariables false
set_option linter.unusedSimpArgs false

/-! ### arboristlaw45_knows: function 8 -/

def arboristlaw45_knows.f (k : Nat) : Option Bool := if 10 ≤ k then some true else none
theorem arboristlaw45_knows.mono : ∀ k, LeO (arboristlaw45_knows.f k) (arboristlaw45_knows.f (k + 1)) := by
  intro k r h
  unfold arboristlaw45_knows.f at h ⊢
  by_cases hk : 10 ≤ k
  · rw [if_pos hk] at h
    rw [if_pos (by omega)]
    exact h
  · rw [if_neg hk] at h
    cases h
theorem arboristlaw45_knows.calls (k : Nat) (r : Bool) (w : World) (h : arboristlaw45_knows.f k = some r) : Calls Try.prog 8 #[] w fun e w' => e = .returned (.bool r) ∧ Below w.heap.size w w' := by
  unfold arboristlaw45_knows.f at h
  by_cases hk : 10 ≤ k
  · rw [if_pos hk] at h
    rw [← Option.some.inj h]
    exact Hand.knows_calls w
  · rw [if_neg hk] at h
    cases h

end Go.Proofs.Ytfekpmbecoeijaa.Q
