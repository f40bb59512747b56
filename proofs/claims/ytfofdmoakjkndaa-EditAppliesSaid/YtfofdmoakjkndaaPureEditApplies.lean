/- EditApplies returns true for every text and every list of edits: Apply and its reference agree, and Back and Right agree at each edit; no condition. -/
import Derived.Test.YtfofdmoakjkndaaQf3
import Derived.Test.YtfofdmoakjkndaaQOp
import Derived.Test.YtfofdmoakjkndaaPuA
namespace Go.Proofs.Ytfofdmoakjkndaa.Pure
open Go.RowKit Go.Proofs.Ytfofdmoakjkndaa.Q Go.Proofs.YtfofdmoakjkndaaW.PrintWords Go.Proofs.YtfofdmoakjkndaaW.PrintLast Go.Proofs.Ytfofdmoakjkndaa.Op

theorem EditApplies : ∀ (x0 : ByteArray) (x1 : List (S32)), x0.size ≤ 9223372036854775807 → (∀ a_ ∈ x1, W32 a_) → ∃ k, arboristlaw02_EditApplies.f k x0 x1 = some true := by
  intro s l hs hl
  refine ⟨100, ?_⟩
  unfold arboristlaw02_EditApplies.f arboristlaw02_EditApplies_.f
  have hk : ∀ k, 10 ≤ k → arboristlaw02_EditApplies_.j0 (k + 1) s l true = some true := fun k h => by
    simp only [arboristlaw02_EditApplies_.j0]
    rw [if_pos trivial, knows_ev h]
    rfl
  by_cases hlen : (l.length : Int) > 40
  · rw [if_pos hlen, hk 99 (by omega)]
    rfl
  rw [if_neg hlen]
  obtain ⟨b, hb, hb1⟩ := few_f [s] (by simp) (k := 100) (by simp)
  rw [hb]
  simp only [Option.bind_some]
  cases b with
  | false => rw [if_neg (by decide), hk 99 (by omega)]; rfl
  | true =>
    rw [if_pos rfl]
    have hs' : s.size ≤ 4000 := hb1 rfl 0 (by omega) (by simp)
    obtain ⟨ins, hi, hi1, hi2⟩ := ins_l l l.length 100 [] 0 (by omega) (by omega) (by omega) (by omega) rfl (fun j h1 h2 => by omega)
    rw [show arboristlaw02_ins.f 100 l = some ins from hi]
    simp only [Option.bind_some]
    obtain ⟨c, hc, hc1⟩ := few_f ins (by omega) (k := 100) (by omega)
    rw [hc]
    simp only [Option.bind_some]
    cases c with
    | false => rw [show (!false) = true from rfl, hk 99 (by omega)]; rfl
    | true =>
      have hz : ∀ j : Int, 0 ≤ j → j < l.length → (rd_T32 l j).f2.size ≤ 4000 := fun j h1 h2 => by
        rw [← hi2 j h1 h2]
        exact hc1 rfl j h1 (by omega)
      obtain ⟨r, hr1, hr2⟩ := apply_l l (by omega) hz l.length 99 s 0 (by omega) (by omega) (by omega) (by omega)
      have hloop : ∀ (d k : Nat) (i : Int), 0 ≤ i → i + d = l.length → d + 12 < k → arboristlaw02_EditApplies_.l0 k s l i = some true := by
        intro d
        induction d with
        | zero =>
          intro k i h0 h1 hk
          obtain ⟨k, rfl⟩ : ∃ m, k = m + 1 := ⟨k - 1, by omega⟩
          simp only [arboristlaw02_EditApplies_.l0]
          rw [if_neg (by omega), knows_ev (by omega)]
          rfl
        | succ d ih =>
          intro k i h0 h1 hk
          obtain ⟨k, rfl⟩ : ∃ m, k = m + 1 := ⟨k - 1, by omega⟩
          obtain ⟨q, hq⟩ := back_some s (rd_T32 l i) (by omega)
          simp only [arboristlaw02_EditApplies_.l0]
          rw [if_pos (by omega), if_pos h0, back_ref, hq]
          simp only [Option.bind_some]
          rw [if_neg (by simp), if_neg (by simp), right_ref, right_eq _ _ _ _ (by omega)]
          simp only [Option.bind_some]
          rw [if_neg (by simp), w64 (by omega) (by omega)]
          exact ih k (i + 1) (by omega) (by omega) (by omega)
      rw [show (!true) = false from rfl]
      simp only [arboristlaw02_EditApplies_.j0]
      rw [if_neg (by decide), show edit_Apply.f 99 s l = some r from hr1, show arboristref02_Apply.f 99 s l = some r from hr2]
      simp only [Option.bind_some, if_true]
      simp only [arboristlaw02_EditApplies_.j1]
      rw [if_neg (by simp), hloop l.length 98 0 (by omega) (by omega) (by omega)]
      rfl

end Go.Proofs.Ytfofdmoakjkndaa.Pure
