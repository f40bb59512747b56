import Derived.Test.YtgdbcogbbghjaaaQ0
namespace Go.Proofs.Ytgdbcogbbghjaaa.Q
open Go.RowKit Go.Proofs.YtgdbcogbbghjaaaW.PrintWords Go.Proofs.YtgdbcogbbghjaaaW.PrintLast Go.Proofs.YtgdbcogbbghjaaaW.PrintMore
attribute [local go_sem] max2_int min2_int max_two min_two max_three min_three max_four min_four   -- for this text's walks alone
set_option linter.unusedVariables false
set_option linter.unusedSimpArgs false
def arboristref46_Dissolves.f (l0_0:List ByteArray)(l0_1:List ByteArray)(l0_2:List Int)(l0_3:List (S67))(l0_4:List (S78))(a1_0:Int)(a1_1:Int)(a1_2:Int)(a1_3:Int)(l1_4:List (S53))(a1_5:ByteArray)(l1_6:List (S32)):Option (Bool):=if a1_0 < 0 then(if a1_0 ≥ (wrap64 (-(l0_1.length:Int)))then(if a1_0 ≥ (wrap64 (-(l0_2.length:Int)))then(if 0≤(wrap64 ((-1) - a1_0))then(if (wrap64 ((-1) - a1_0)) < (l0_2.length:Int)then(some ((rd l0_2 (wrap64 ((-1) - a1_0))) != 0))else(none))else(none))else(some false))else(some false))else(some false)
end Go.Proofs.Ytgdbcogbbghjaaa.Q
