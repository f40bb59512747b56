-- By this session's program plugprint.py, over the kit's print; Lean checks it.
import Derived.Test.YtfekpmbecoeijaaQ0
import Derived.Test.YtfekpmbecoeijaaCh
namespace Go.Proofs.Ytfekpmbecoeijaa.Q
open Go.RowKit Go.Proofs.YtfekpmbecoeijaaW.PrintWords Go.Proofs.YtfekpmbecoeijaaW.PrintLast Go.Proofs.YtfekpmbecoeijaaW.PrintMore
attribute [local go_sem] max2_int min2_int max_two min_two max_three min_three max_four min_four   -- for this text's walks alone
set_option linter.unusedVariables false
set_option linter.unusedSimpArgs false

/-! ### cursor_clone: function 32 -/

def cursor_clone.f (k : Nat) (a0_0 : Int) (a0_1 : Int) (a0_2 : Int) (a0_3 : Int) (l0_4 : List (S76)) (a0_5 : ByteArray) (l0_6 : List (S26)) : Option (Int × Int × Int × Int × (List (S76)) × ByteArray × (List (S26))) := if Hand.cloneB k ⟨a0_0, a0_1, a0_2, a0_3, l0_4, a0_5, l0_6⟩ = true then some (a0_0, a0_1, a0_2, a0_3, l0_4, a0_5, l0_6) else none
theorem cursor_clone.mono : ∀ (a0_0 : Int) (a0_1 : Int) (a0_2 : Int) (a0_3 : Int) (l0_4 : List (S76)) (a0_5 : ByteArray) (l0_6 : List (S26)) k, LeO (cursor_clone.f k a0_0 a0_1 a0_2 a0_3 l0_4 a0_5 l0_6) (cursor_clone.f (k + 1) a0_0 a0_1 a0_2 a0_3 l0_4 a0_5 l0_6) := by
  intro a0_0 a0_1 a0_2 a0_3 l0_4 a0_5 l0_6 k r h
  unfold cursor_clone.f at h ⊢
  by_cases hk : Hand.cloneB k ⟨a0_0, a0_1, a0_2, a0_3, l0_4, a0_5, l0_6⟩ = true
  · rw [if_pos hk] at h
    rw [if_pos (Hand.cloneB_mono k _ hk)]
    exact h
  · rw [if_neg hk] at h
    cases h
theorem cursor_clone.calls (k : Nat) (a0_0 : Int) (a0_1 : Int) (a0_2 : Int) (a0_3 : Int) (A0_4 : Option Addr) (c0_4 : Nat) (l0_4 : List (S76)) (a0_5 : ByteArray) (A0_6 : Option Addr) (c0_6 : Nat) (l0_6 : List (S26)) (r1 : Int) (r2 : Int) (r3 : Int) (r4 : Int) (r5 : List (S76)) (r6 : ByteArray) (r7 : List (S26)) (w : World) (hr0_4 : Kd.C k76 w A0_4 l0_4.length l0_4) (hc0_4 : l0_4.length ≤ c0_4) (hr0_6 : Kd.C k26 w A0_6 l0_6.length l0_6) (hc0_6 : l0_6.length ≤ c0_6) (h : cursor_clone.f k a0_0 a0_1 a0_2 a0_3 l0_4 a0_5 l0_6 = some (r1, r2, r3, r4, r5, r6, r7)) :
    Calls Try.prog 32 #[.agg #[.int .i64 a0_0, .int .i64 a0_1, .int .i64 a0_2, .int .i64 a0_3, .slice A0_4 l0_4.length c0_4, .string a0_5, .slice A0_6 l0_6.length c0_6]] w fun e w' => ∃ v4_ v6_ : Value, e = .returned (.agg #[.int .i64 r1, .int .i64 r2, .int .i64 r3, .int .i64 r4, v4_, .string r6, v6_]) ∧ Kd.R k76 76 w' w.heap.size (fun _ => True) v4_ r5 ∧ Kd.R k26 26 w' w.heap.size (fun k_ => some k_ ≠ (v4_ : Value).ownBlock) v6_ r7 ∧ Below w.heap.size w w' := by
  unfold cursor_clone.f at h
  by_cases hk : Hand.cloneB k ⟨a0_0, a0_1, a0_2, a0_3, l0_4, a0_5, l0_6⟩ = true
  · rw [if_pos hk] at h
    cases h
    exact Hand.clone_calls k ⟨a0_0, a0_1, a0_2, a0_3, l0_4, a0_5, l0_6⟩ A0_4 c0_4 A0_6 c0_6 w hk hr0_4 hc0_4 hr0_6 hc0_6
  · rw [if_neg hk] at h
    cases h

end Go.Proofs.Ytfekpmbecoeijaa.Q
