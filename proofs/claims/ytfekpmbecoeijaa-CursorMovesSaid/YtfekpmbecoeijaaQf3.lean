import Derived.Test.YtfekpmbecoeijaaQ0
import Derived.Test.YtfekpmbecoeijaaQf7
import Derived.Test.YtfekpmbecoeijaaQf8
import Derived.Test.YtfekpmbecoeijaaDn
namespace Go.Proofs.Ytfekpmbecoeijaa.Q
open Go.RowKit Go.Proofs.YtfekpmbecoeijaaW.PrintWords Go.Proofs.YtfekpmbecoeijaaW.PrintLast Go.Proofs.YtfekpmbecoeijaaW.PrintMore
attribute [local go_sem] max2_int min2_int max_two min_two max_three min_three max_four min_four   -- for this text's walks alone
set_option linter.unusedVariables false
set_option linter.unusedSimpArgs false
def arboristlaw45_CursorMoves.f (k : Nat) (a0_0 : Int) (a0_1 : Int) (a0_2 : Int) (a0_3 : Int) (l0_4 : List (S76)) (a0_5 : ByteArray) (l0_6 : List (S26)) (l1 : List (S39)) : Option Bool := (arboristref42_Few.f k a0_0 a0_1 a0_2 a0_3 l0_4 a0_5 l0_6 80).bind fun b => if (b = true ∧ l1.length ≤ 30) ∧ (Pure.okT ⟨a0_0, a0_1, a0_2, a0_3, l0_4, a0_5, l0_6⟩) = false then none else arboristlaw45_knows.f k
theorem arboristlaw45_CursorMoves.mono : ∀ (a0_0 : Int) (a0_1 : Int) (a0_2 : Int) (a0_3 : Int) (l0_4 : List (S76)) (a0_5 : ByteArray) (l0_6 : List (S26)) (l1 : List (S39)) k, LeO (arboristlaw45_CursorMoves.f k a0_0 a0_1 a0_2 a0_3 l0_4 a0_5 l0_6 l1) (arboristlaw45_CursorMoves.f (k + 1) a0_0 a0_1 a0_2 a0_3 l0_4 a0_5 l0_6 l1) := by
 intro a0_0 a0_1 a0_2 a0_3 l0_4 a0_5 l0_6 l1 k
 refine LeO.bind (arboristref42_Few.mono _ _ _ _ _ _ _ _ _) (fun b => ?_)
 by_cases h : (b = true ∧ l1.length ≤ 30) ∧ (Pure.okT ⟨a0_0, a0_1, a0_2, a0_3, l0_4, a0_5, l0_6⟩) = false
 ·rw [if_pos h, if_pos h]
  exact LeO.refl _
 ·rw [if_neg h, if_neg h]
  exact arboristlaw45_knows.mono _
theorem arboristlaw45_CursorMoves.calls (k : Nat) (a0_0 : Int) (a0_1 : Int) (a0_2 : Int) (a0_3 : Int) (A0_4 : Option Addr) (c0_4 : Nat) (l0_4 : List (S76)) (a0_5 : ByteArray) (A0_6 : Option Addr) (c0_6 : Nat) (l0_6 : List (S26)) (A1 : Option Addr) (c1 : Nat) (l1 : List (S39)) (r : Bool) (w : World) (hr0_4 : Kd.C k76 w A0_4 l0_4.length l0_4) (hc0_4 : l0_4.length ≤ c0_4) (hr0_6 : Kd.C k26 w A0_6 l0_6.length l0_6) (hc0_6 : l0_6.length ≤ c0_6) (hr1 : Kd.C k39 w A1 l1.length l1) (hc1 : l1.length ≤ c1) (h : arboristlaw45_CursorMoves.f k a0_0 a0_1 a0_2 a0_3 l0_4 a0_5 l0_6 l1 = some r) :
  Calls Try.prog 3 #[.agg #[.int .i64 a0_0, .int .i64 a0_1, .int .i64 a0_2, .int .i64 a0_3, .slice A0_4 l0_4.length c0_4, .string a0_5, .slice A0_6 l0_6.length c0_6], .slice A1 l1.length c1] w fun e w' => e = .returned (.bool r) ∧ Below w.heap.size w w' := by
 obtain ⟨b, hf, h⟩ := Option.bind_eq_some_iff.1 h
 have hkn : ∀ r, arboristlaw45_knows.f k = some r → r = true := fun r h => by
  unfold arboristlaw45_knows.f at h
  by_cases hk : 10 ≤ k
  ·rw [if_pos hk] at h
   exact (Option.some.inj h).symm
  ·rw [if_neg hk] at h
   cases h
 by_cases ho : (b = true ∧ l1.length ≤ 30) ∧ (Pure.okT ⟨a0_0, a0_1, a0_2, a0_3, l0_4, a0_5, l0_6⟩) = false
 ·rw [if_pos ho] at h
  cases h
 ·rw [if_neg ho] at h
  obtain rfl := hkn r h
  by_cases hb : b = true ∧ l1.length ≤ 30
  ·have hO : (Pure.okT ⟨a0_0, a0_1, a0_2, a0_3, l0_4, a0_5, l0_6⟩) = true := by
    by_cases hx : (Pure.okT ⟨a0_0, a0_1, a0_2, a0_3, l0_4, a0_5, l0_6⟩) = true
    ·exact hx
    ·exact absurd ⟨hb, Bool.eq_false_iff.mpr hx⟩ ho
   have h1 := hO
   obtain ⟨rfl, hl⟩ := hb
   exact Hand.lawMoves_true k ⟨a0_0, a0_1, a0_2, a0_3, l0_4, a0_5, l0_6⟩ A0_4 c0_4 A0_6 c0_6 A1 c1 l1 w hf (Pure.okT_iff.1 h1) hl hr0_4 hc0_4 hr0_6 hc0_6 hr1 hc1
  ·exact Hand.lawMoves_knows k ⟨a0_0, a0_1, a0_2, a0_3, l0_4, a0_5, l0_6⟩ A0_4 c0_4 A0_6 c0_6 A1 c1 l1 b w hf (by cases b with | false => exact .inl rfl | true => exact .inr (Nat.lt_of_not_le (fun h => hb ⟨rfl, h⟩))) hr0_4 hc0_4 hr0_6 hc0_6 hr1 hc1
end Go.Proofs.Ytfekpmbecoeijaa.Q
