/- EditBack returns true for every text and edit: a right edit followed by its inverse restores the text, and inverting twice returns the edit; no condition. -/
import Derived.Test.YtfofdmoakjkndaaQf4
import Derived.Test.YtfofdmoakjkndaaQOp
import Derived.Test.YtfofdmoakjkndaaPuA
namespace Go.Proofs.Ytfofdmoakjkndaa.Pure
open Go.RowKit Go.Proofs.Ytfofdmoakjkndaa.Q Go.Proofs.YtfofdmoakjkndaaW.PrintWords Go.Proofs.YtfofdmoakjkndaaW.PrintLast Go.Proofs.Ytfofdmoakjkndaa.Op

theorem EditBack : ∀ (x0 : ByteArray) (x1 : S32), x0.size ≤ 9223372036854775807 → W32 x1 → ∃ k, arboristlaw02_EditBack.f k x0 x1.f0 x1.f1 x1.f2 = some true := by
  intro s e hs hl
  refine ⟨100, ?_⟩
  unfold arboristlaw02_EditBack.f arboristlaw02_EditBack_.f
  have hk : ∀ a b c, arboristlaw02_EditBack_.j0 100 s true a b c = some true := fun a b c => by
    simp only [arboristlaw02_EditBack_.j0]
    rw [if_pos trivial, knows_ev (by omega)]
    rfl
  obtain ⟨b, hb, hb1⟩ := few_f [s, e.f2] (by simp) (k := 100) (by simp)
  rw [hb]
  simp only [Option.bind_some]
  cases b with
  | false => rw [if_neg (by decide), hk]; rfl
  | true =>
    rw [if_pos rfl]
    have hs' : s.size ≤ 4000 := hb1 rfl 0 (by omega) (by simp)
    have hi' : e.f2.size ≤ 4000 := hb1 rfl 1 (by omega) (by simp)
    rw [right_eq _ _ _ _ (by omega)]
    simp only [Option.bind_some]
    by_cases hR : Rt s e
    · have hR' : decide (0 ≤ e.f0 ∧ e.f0 ≤ s.size ∧ 0 ≤ e.f1 ∧ e.f1 ≤ s.size - e.f0) = true := decide_eq_true hR
      have hz := put_size hR
      obtain ⟨hp1, hp2⟩ := put_back s e hR
      have hR2 := rt_back s e hR
      have hd : 0 ≤ e.f1 := hR.2.2.1
      have hbk := back_eq s e (by omega) hR
      rw [hR', show (!true) = false from rfl]
      simp only [arboristlaw02_EditBack_.j0]
      rw [if_neg (by decide), show (⟨e.f0, e.f1, e.f2⟩ : S32) = e from rfl, apply_one s e hi' (by omega) hR (by omega) (by omega)]
      simp only [Option.bind_some]
      rw [hbk]
      simp only [Option.bind_some]
      have hx : (s.extract e.f0.toNat (e.f0 + e.f1).toNat).size ≤ 4000 := by rw [ByteArray.size_extract]; omega
      rw [apply_one (put s e) _ hx (by omega) hR2 (by rw [hp1]; omega) (by omega)]
      simp only [Option.bind_some]
      rw [hp1]
      have hb2 := back_eq (put s e) _ (by omega) hR2
      simp only at hb2
      rw [hb2]
      simp only [Option.bind_some, if_true]
      rw [hp2, show ((s.extract e.f0.toNat (e.f0 + e.f1).toNat).size : Int) = e.f1 from by
        have := hR.1; have := hR.2.1; have := hR.2.2.2
        rw [ByteArray.size_extract]; omega]
      simp only [beq_self_eq_true, Bool.and_self, if_true]
      rw [knows_ev (by omega)]
      rfl
    · have hR' : decide (0 ≤ e.f0 ∧ e.f0 ≤ s.size ∧ 0 ≤ e.f1 ∧ e.f1 ≤ s.size - e.f0) = false := decide_eq_false hR
      rw [hR', show (!false) = true from rfl, hk]
      rfl

end Go.Proofs.Ytfofdmoakjkndaa.Pure
