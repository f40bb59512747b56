/- EditShifts returns true for every text, edit and offset: Shift is the reference's, and a byte that is kept is found at the mapped offset; no condition. -/
import Derived.Test.YtfofdmoakjkndaaQf6
import Derived.Test.YtfofdmoakjkndaaQOp
import Derived.Test.YtfofdmoakjkndaaPuA
import Derived.Test.YtfofdmoakjkndaaPuB
namespace Go.Proofs.Ytfofdmoakjkndaa.Pure
open Go.RowKit Go.Proofs.Ytfofdmoakjkndaa.Q Go.Proofs.YtfofdmoakjkndaaW.PrintWords Go.Proofs.YtfofdmoakjkndaaW.PrintLast Go.Proofs.Ytfofdmoakjkndaa.Op
open Hand (dif)
theorem EditShifts : ∀ (x0 : ByteArray) (x1 : S32) (x2 : Int), x0.size ≤ 9223372036854775807 → W32 x1 → (Lit.int .i64 x2).wf = true → ∃ k, arboristlaw02_EditShifts.f k x0 x1.f0 x1.f1 x1.f2 x2 = some true := by
  intro s e p hs hl hp
  refine ⟨1000, ?_⟩
  unfold arboristlaw02_EditShifts.f arboristlaw02_EditShifts_.f
  obtain ⟨f, hf, hf1⟩ := few_f [s, e.f2] (by simp) (k := 1000) (by simp)
  rw [hf]
  simp only [Option.bind_some]
  cases f with
  | false => rw [if_neg (by decide), knows_ev (by omega)]; rfl
  | true =>
    rw [if_pos rfl]
    have hs' : s.size ≤ 4000 := hf1 rfl 0 (by omega) (by simp)
    have hi' : e.f2.size ≤ 4000 := hf1 rfl 1 (by omega) (by simp)
    have hsh : arboristref02_Shift.f 1000 e.f0 e.f1 e.f2 p = edit_Shift.f 1000 e.f0 e.f1 e.f2 p := rfl
    rw [hsh, shift_eq e p 999]
    simp only [Option.bind_some, if_true]
    rw [show ((shift e p).2 != (shift e p).2) = false from by simp]
    have hj1 : ∀ a t, arboristlaw02_EditShifts_.j1 999 s p a t true e.f0 e.f1 e.f2 = some true := fun a t => by
      simp only [arboristlaw02_EditShifts_.j1]
      rw [if_pos trivial, knows_ev (by omega)]
      rfl
    simp only [arboristlaw02_EditShifts_.j0]
    rw [if_neg (by decide), show (⟨e.f0, e.f1, e.f2⟩ : S32) = e from rfl]
    by_cases hR : Rt s e
    · have hz := put_size hR
      have hd : 0 ≤ e.f1 := hR.2.2.1
      rw [apply_one s e hi' (by omega) hR (by omega) (by omega)]
      simp only [Option.bind_some, if_true]
      by_cases his : (shift e p).2 = true
      · rw [if_pos his]
        by_cases h1 : p < 0
        · rw [if_pos h1, hj1]; rfl
        rw [if_neg h1]
        by_cases h2 : p ≥ s.size
        · rw [decide_eq_true h2, hj1]; rfl
        rw [decide_eq_false h2]
        have hsv : (p ≤ e.f0 → (shift e p).1 = p) ∧ (¬ p ≤ e.f0 → e.f0 + e.f1 ≤ p ∧ (shift e p).1 = p - e.f1 + e.f2.size) := by
          unfold shift at his ⊢
          split at his
          · rename_i hc
            rw [if_pos hc]
            split at his
            · rename_i h3
              exact ⟨fun _ => by rw [if_pos h3], fun h => absurd h3 h⟩
            · rename_i h3
              split at his
              · rename_i h4
                exact ⟨fun h => absurd h h3, fun _ => ⟨h4, by rw [if_neg h3, if_pos h4]⟩⟩
              · cases his
          · cases his
        obtain ⟨r1, r2, r3, r4⟩ := hR
        have hR : Rt s e := ⟨r1, r2, r3, r4⟩
        simp only [arboristlaw02_EditShifts_.j1]
        rw [if_neg (by decide)]
        by_cases h3 : p = e.f0
        · rw [if_pos h3]
          by_cases h4 : e.f1 > 0
          · rw [decide_eq_true h4]
            simp only [arboristlaw02_EditShifts_.j2]
            rw [if_pos trivial, knows_ev (by omega)]
            rfl
          · rw [decide_eq_false h4]
            simp only [arboristlaw02_EditShifts_.j2]
            rw [if_neg (by decide), if_pos h3, hsv.1 (by omega), w64 (n := p + e.f2.size) (by omega) (by omega), if_pos (by omega), if_pos (by omega), if_pos (by omega), if_pos (by omega), if_pos (by omega)]
            have hb := put_right s e hR p (by omega) (by omega)
            rw [show p - e.f1 + e.f2.size = p + e.f2.size by omega] at hb
            rw [if_pos hb, knows_ev (by omega)]
            rfl
        · rw [if_neg h3]
          simp only [arboristlaw02_EditShifts_.j2]
          rw [if_neg (by decide), if_neg h3]
          by_cases h4 : p ≤ e.f0
          · rw [hsv.1 h4, if_pos (by omega), if_pos (by omega), if_pos (by omega), if_pos (by omega), if_pos (by omega), if_pos (put_left s e hR p (by omega) (by omega)), knows_ev (by omega)]
            rfl
          · obtain ⟨h5, h6⟩ := hsv.2 h4
            rw [h6, if_pos (by omega), if_pos (by omega), if_pos (by omega), if_pos (by omega), if_pos (by omega), if_pos (put_right s e hR p h5 (by omega)), knows_ev (by omega)]
            rfl
      · rw [if_neg his, hj1]
        rfl
    · rw [apply_bad s e hi' (by omega) hR (by omega)]
      simp only [Option.bind_some]
      rw [if_neg (by decide), hj1]
      rfl

end Go.Proofs.Ytfofdmoakjkndaa.Pure
