import Derived.Test.YtfekpmbecoeijaaQ0
import Derived.Test.YtfekpmbecoeijaaCx
namespace Go.Proofs.Ytfekpmbecoeijaa.Q
open Go.RowKit Go.Proofs.YtfekpmbecoeijaaW.PrintWords Go.Proofs.YtfekpmbecoeijaaW.PrintLast Go.Proofs.YtfekpmbecoeijaaW.PrintMore
attribute [local go_sem] max2_int min2_int max_two min_two max_three min_three max_four min_four   -- for this text's walks alone
set_option linter.unusedVariables false
set_option linter.unusedSimpArgs false
def arboristlaw45_knows.f (k : Nat) : Option Bool := if 10 ≤ k then some true else none
theorem arboristlaw45_knows.mono : ∀ k, LeO (arboristlaw45_knows.f k) (arboristlaw45_knows.f (k + 1)) := by
 intro k r h
 unfold arboristlaw45_knows.f at h ⊢
 by_cases hk : 10 ≤ k
 ·rw [if_pos hk] at h
  rw [if_pos (by omega)]
  exact h
 ·rw [if_neg hk] at h
  cases h
end Go.Proofs.Ytfekpmbecoeijaa.Q
