import Derived.Test.YtgdbcogbbghjaaaQ0
import Derived.Test.YtgdbcogbbghjaaaHx
namespace Go.Proofs.Ytgdbcogbbghjaaa.Q
open Go.RowKit Go.Proofs.YtgdbcogbbghjaaaW.PrintWords Go.Proofs.YtgdbcogbbghjaaaW.PrintLast Go.Proofs.YtgdbcogbbghjaaaW.PrintMore
attribute [local go_sem] max2_int min2_int max_two min_two max_three min_three max_four min_four   -- for this text's walks alone
set_option linter.unusedVariables false
set_option linter.unusedSimpArgs false
def arboristlaw46_knows.f (k:Nat):Option Bool:=if 10≤k then some true else none
theorem arboristlaw46_knows.calls (k:Nat)(r:Bool)(w:World)(h:arboristlaw46_knows.f k=some r):Calls Try.prog 10 #[] w fun e w'=>e=.returned (.bool r)∧Below w.heap.size w w':=by
 unfold arboristlaw46_knows.f at h
 by_cases hk:10≤k
 ·rw [if_pos hk] at h
  rw [← Option.some.inj h]
  exact Hand.knows_calls w
 rw [if_neg hk] at h
 cases h
end Go.Proofs.Ytgdbcogbbghjaaa.Q
