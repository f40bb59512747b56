-- By this session's program plugprint.py, over the kit's print; Lean checks it.
import Derived.Test.YtfofdmoakjkndaaQ0
import Derived.Test.YtfofdmoakjkndaaHb
namespace Go.Proofs.Ytfofdmoakjkndaa.Q
open Go.RowKit Go.Proofs.YtfofdmoakjkndaaW.PrintWords Go.Proofs.YtfofdmoakjkndaaW.PrintLast Go.Proofs.YtfofdmoakjkndaaW.PrintMore
attribute [local go_sem] max2_int min2_int max_two min_two max_three min_three max_four min_four   -- for this text's walks alone
set_option linter.unusedVariables false
set_option linter.unusedSimpArgs false

/-! ### edit_Diff: function 17 -/

def edit_Diff.f (a0 a1 : ByteArray) : Option (Int × Int × ByteArray) := if a0.size ≤ 9223372036854775807 ∧ a1.size ≤ 9223372036854775807 then some (Hand.dif a0 a1) else none
theorem edit_Diff.calls (a0 : ByteArray) (a1 : ByteArray) (r1 : Int) (r2 : Int) (r3 : ByteArray) (w : World) (h : edit_Diff.f a0 a1 = some (r1, r2, r3)) :
    Calls Try.prog 17 #[.string a0, .string a1] w fun e w' => e = .returned (.agg #[.int .i64 r1, .int .i64 r2, .string r3]) ∧ Below w.heap.size w w' := by
  unfold edit_Diff.f at h
  split at h
  · rename_i hs
    have h := Option.some.inj h
    refine (Hand.Diff_calls a0 a1 w hs.1 hs.2).mono ?_
    rintro e w' ⟨rfl, hb⟩
    rw [h]
    exact ⟨rfl, hb⟩
  · cases h

end Go.Proofs.Ytfofdmoakjkndaa.Q
