/- EditDiffs returns true for every two texts: Diff is the reference's, applying it to the first text yields the second, and it is empty where the texts are equal; no condition. -/
import Derived.Test.YtfofdmoakjkndaaQf5
import Derived.Test.YtfofdmoakjkndaaQOp
import Derived.Test.YtfofdmoakjkndaaPuA
import Derived.Test.YtfofdmoakjkndaaPuB
namespace Go.Proofs.Ytfofdmoakjkndaa.Pure
open Go.RowKit Go.Proofs.Ytfofdmoakjkndaa.Q Go.Proofs.YtfofdmoakjkndaaW.PrintWords Go.Proofs.YtfofdmoakjkndaaW.PrintLast Go.Proofs.Ytfofdmoakjkndaa.Op
open Hand (dif)
theorem EditDiffs : ∀ (x0 : ByteArray) (x1 : ByteArray), x0.size ≤ 9223372036854775807 → x1.size ≤ 9223372036854775807 → ∃ k, arboristlaw02_EditDiffs.f k x0 x1 = some true := by
  intro a b ha hb
  refine ⟨20000, ?_⟩
  unfold arboristlaw02_EditDiffs.f arboristlaw02_EditDiffs_.f
  obtain ⟨f, hf, hf1⟩ := few_f [a, b] (by simp) (k := 20000) (by simp)
  rw [hf]
  simp only [Option.bind_some]
  cases f with
  | false => rw [if_neg (by decide), knows_ev (by omega)]; rfl
  | true =>
    rw [if_pos rfl]
    have ha' : a.size ≤ 4000 := hf1 rfl 0 (by omega) (by simp)
    have hb' : b.size ≤ 4000 := hf1 rfl 1 (by omega) (by simp)
    have hds : a = b → (dif a b).2.1 = 0 ∧ (dif a b).2.2 = ⟨#[]⟩ := fun e => by subst e; exact diff_same a
    have hpd := put_diff a b
    rw [show edit_Diff.f a b = some (dif a b) from by unfold edit_Diff.f; rw [if_pos ⟨ha, hb⟩], ref_diff a b (by omega) (by omega)]
    simp only [Option.bind_some]
    generalize dif a b = r at hds hpd
    obtain ⟨r1, r2, r3⟩ := r
    simp only at hds hpd
    obtain ⟨hp, hR⟩ := hpd
    have hz : r3.size ≤ 4000 := by
      have := put_size hR
      rw [hp] at this
      have h1 := hR.2.2.1
      have h2 := hR.2.2.2
      have h3 := hR.1
      simp only at this h1 h2 h3
      omega
    simp only
    rw [apply_one a (⟨r1, r2, r3⟩ : S32) hz (by omega) hR (by rw [hp]; omega) (by omega)]
    simp only [Option.bind_some]
    rw [hp]
    simp only [beq_self_eq_true, Bool.and_self, if_true]
    by_cases e : a.toList = b.toList
    · have e' : a = b := B_ext (by simpa [B, ByteArray.toList_eq] using e)
      have h0 : (⟨#[]⟩ : ByteArray).toList = ([] : List UInt8) := by rw [ByteArray.toList_eq]
      obtain ⟨d1, d2⟩ := hds e'
      rw [if_pos e, d1, d2]
      simp only [h0, if_true]
      rw [knows_ev (by omega)]
      rfl
    · rw [if_neg e, knows_ev (by omega)]
      rfl

end Go.Proofs.Ytfofdmoakjkndaa.Pure
