import Derived.Test.YtgdbcogbbghjaaaQOp
namespace Go.Proofs.Ytgdbcogbbghjaaa.Op
open Go.RowKit Go.Proofs.Ytgdbcogbbghjaaa.Q Go.Proofs.YtgdbcogbbghjaaaW.PrintWords Go.Proofs.YtgdbcogbbghjaaaW.PrintLast
end Go.Proofs.Ytgdbcogbbghjaaa.Op
