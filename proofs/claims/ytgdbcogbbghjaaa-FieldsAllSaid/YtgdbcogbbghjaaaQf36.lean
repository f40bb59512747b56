import Derived.Test.YtgdbcogbbghjaaaQ0
import Derived.Test.YtgdbcogbbghjaaaQe1
namespace Go.Proofs.Ytgdbcogbbghjaaa.Q
open Go.RowKit Go.Proofs.YtgdbcogbbghjaaaW.PrintWords Go.Proofs.YtgdbcogbbghjaaaW.PrintLast Go.Proofs.YtgdbcogbbghjaaaW.PrintMore
attribute [local go_sem] max2_int min2_int max_two min_two max_three min_three max_four min_four   -- for this text's walks alone
set_option linter.unusedVariables false
set_option linter.unusedSimpArgs false
attribute [local go_sem high] eqA53
def arboristref42_SamePieces.l0:Nat→List (S53)→List (S53)→Int→Option (Bool)
 | 0,_,_,_=>none
 | k + 1,x0,x1,x5=>if x5 < (x0.length:Int)then(if 0≤x5 then(if x5 < (x1.length:Int)then(if (!(((rd_T53 x0 x5).f0) == ((rd_T53 x1 x5).f0)) || (!(((rd_T53 x0 x5).f1) == ((rd_T53 x1 x5).f1)) || (!((((rd_T53 x0 x5).f2).toList) == (((rd_T53 x1 x5).f2).toList)))))=true then(some false)else(arboristref42_SamePieces.l0 k x0 x1 (wrap64 (x5 + 1))))else(none))else(none))else(some true)
def arboristref42_SamePieces.f (k:Nat)(l0:List (S53))(l1:List (S53)):Option (Bool):=if (l0.length:Int)=(l1.length:Int)then(arboristref42_SamePieces.l0 k l0 l1 0)else(some false)
end Go.Proofs.Ytgdbcogbbghjaaa.Q
