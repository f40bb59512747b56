import Derived.Test.YtfekpmbecoeijaaQ0
import Derived.Test.YtfekpmbecoeijaaCh
namespace Go.Proofs.Ytfekpmbecoeijaa.Q
open Go.RowKit Go.Proofs.YtfekpmbecoeijaaW.PrintWords Go.Proofs.YtfekpmbecoeijaaW.PrintLast Go.Proofs.YtfekpmbecoeijaaW.PrintMore
attribute [local go_sem] max2_int min2_int max_two min_two max_three min_three max_four min_four   -- for this text's walks alone
set_option linter.unusedVariables false
set_option linter.unusedSimpArgs false
def cursor_clone.f (k : Nat) (a0_0 : Int) (a0_1 : Int) (a0_2 : Int) (a0_3 : Int) (l0_4 : List (S76)) (a0_5 : ByteArray) (l0_6 : List (S26)) : Option (Int × Int × Int × Int × (List (S76)) × ByteArray × (List (S26))) := if Hand.cloneB k ⟨a0_0, a0_1, a0_2, a0_3, l0_4, a0_5, l0_6⟩ = true then some (a0_0, a0_1, a0_2, a0_3, l0_4, a0_5, l0_6) else none
theorem cursor_clone.mono : ∀ (a0_0 : Int) (a0_1 : Int) (a0_2 : Int) (a0_3 : Int) (l0_4 : List (S76)) (a0_5 : ByteArray) (l0_6 : List (S26)) k, LeO (cursor_clone.f k a0_0 a0_1 a0_2 a0_3 l0_4 a0_5 l0_6) (cursor_clone.f (k + 1) a0_0 a0_1 a0_2 a0_3 l0_4 a0_5 l0_6) := by
 intro a0_0 a0_1 a0_2 a0_3 l0_4 a0_5 l0_6 k r h
 unfold cursor_clone.f at h ⊢
 by_cases hk : Hand.cloneB k ⟨a0_0, a0_1, a0_2, a0_3, l0_4, a0_5, l0_6⟩ = true
 ·rw [if_pos hk] at h
  rw [if_pos (Hand.cloneB_mono k _ hk)]
  exact h
 ·rw [if_neg hk] at h
  cases h
end Go.Proofs.Ytfekpmbecoeijaa.Q
