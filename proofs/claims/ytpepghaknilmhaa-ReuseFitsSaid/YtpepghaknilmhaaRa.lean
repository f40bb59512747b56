/- The chapter's example, by the machine of plain values. -/
import Derived.Test.YtpepghaknilmhaaVe
namespace Go.Proofs.Ytpepghaknilmhaa.Vm
open Go
set_option maxRecDepth 100000
theorem knows_ret : Ret env 7 [] (.d (.bool true)) := ret_yes (k := 60) ok_7 rfl mode_7 (by kernel_rfl)
theorem sum_ret : ∃ ds : List DV, ds.length = 5 ∧ Ret env 12 [] (.agg (ds.map .d)) := ret_agg (k := 60) ok_12 rfl mode_12 (by kernel_rfl)
end Go.Proofs.Ytpepghaknilmhaa.Vm
