/- EditJoins returns true for every text and two edits: Join is the reference's, and the joined edit makes what the two make one after the other; no condition. -/
import Derived.Test.YtfofdmoakjkndaaQf7
import Derived.Test.YtfofdmoakjkndaaQOp
import Derived.Test.YtfofdmoakjkndaaPuA
namespace Go.Proofs.Ytfofdmoakjkndaa.Pure
open Go.RowKit Go.Proofs.Ytfofdmoakjkndaa.Q Go.Proofs.YtfofdmoakjkndaaW.PrintWords Go.Proofs.YtfofdmoakjkndaaW.PrintLast Go.Proofs.Ytfofdmoakjkndaa.Op
open Hand (joins joinsR mxi mni wi insR insR1)

theorem empty_app (s : ByteArray) : s.extract 0 0 ++ s = s := by
  apply B_ext; rw [B_append, B_extract]; simp
theorem ins_eq (p p2 d2 : Int) (s s2 : ByteArray) (h1 : p2 ≤ p + s.size) (h2 : p ≤ p2 + d2) :
    s.extract 0 (wi p2 p s.size).toNat ++ s2 ++ s.extract (wi (p2 + d2) p s.size).toNat s.size = insR p p2 d2 s s2 := by
  have hs := B_len s
  have e1 : s.extract 0 (wi p2 p s.size).toNat ++ s2 = insR1 p p2 s s2 := by
    unfold insR1
    by_cases h : p2 > p
    · rw [if_pos h, show wi p2 p s.size = p2 - p by unfold wi mni mxi; rw [if_neg (by omega), if_neg (by omega)]]
    · rw [if_neg h, show wi p2 p s.size = 0 by unfold wi mni mxi; split <;> split <;> omega]
      apply B_ext
      rw [B_append, B_extract]
      simp
  rw [e1]
  unfold insR
  by_cases h : p2 + d2 < p + s.size
  · rw [if_pos h, show wi (p2 + d2) p s.size = p2 + d2 - p by unfold wi mni mxi; rw [if_neg (by omega), if_neg (by omega)]]
  · rw [if_neg h, show wi (p2 + d2) p s.size = s.size by unfold wi mni mxi; split <;> split <;> omega]
    apply B_ext
    rw [B_append, B_extract, List.drop_eq_nil_of_le (by rw [List.length_take]; omega), List.append_nil]
theorem joins_eq (p d p2 d2 : Int) (s s2 : ByteArray) : joins p d p2 d2 s s2 = joinsR p d p2 d2 s s2 := by
  unfold joins joinsR
  split
  · rename_i h
    rw [ins_eq p p2 d2 s s2 h.2.1 h.2.2]
    have : d + mxi (p - p2) 0 + mxi (p2 + d2 - p - s.size) 0 = d + (mxi 0 (p - p2) + mxi 0 (p2 + d2 - (p + s.size))) := by
      unfold mxi
      split <;> split <;> split <;> split <;> omega
    rw [this]
  · rfl

theorem apply_step2 (l : List S32) (hl : l.length ≤ 1000) (k : Nat) (s : ByteArray) (i : Int) (h0 : 0 ≤ i) (h1 : i < l.length) (hz : (rd_T32 l i).f2.size ≤ 13000) (hs : s.size ≤ 65536) :
    edit_Apply.l0 (k + 1) s l l.length i = if Rt s (rd_T32 l i) then (if (put s (rd_T32 l i)).size > 65536 then some (⟨#[]⟩, 4) else edit_Apply.l0 k (put s (rd_T32 l i)) l l.length (i + 1)) else some (⟨#[]⟩, 2) := by
  simp only [edit_Apply.l0]
  rw [if_pos h1, if_pos h0, if_pos h1, right_eq _ _ _ _ (by omega)]
  simp only [Option.bind_some]
  generalize rd_T32 l i = e at hz
  by_cases hR : Rt s e
  · have hR' : decide (0 ≤ e.f0 ∧ e.f0 ≤ s.size ∧ 0 ≤ e.f1 ∧ e.f1 ≤ s.size - e.f0) = true := decide_eq_true hR
    have hp := put_size hR
    rw [if_pos hR', if_pos hR]
    obtain ⟨q1, q2, q3, q4⟩ := hR
    have z1 : (s.extract 0 e.f0.toNat).size + e.f2.size ≤ 9223372036854775807 := by rw [ByteArray.size_extract]; omega
    have z2 : (s.extract 0 e.f0.toNat ++ e.f2).size + (s.extract (e.f0 + e.f1).toNat s.size).size ≤ 9223372036854775807 := by rw [ByteArray.size_append, ByteArray.size_extract, ByteArray.size_extract]; omega
    rw [w64 (n := (s.size : Int) - e.f1) (by omega) (by omega), w64 (n := (s.size : Int) - e.f1 + e.f2.size) (by omega) (by omega), w64 (n := e.f0 + e.f1) (by omega) (by omega), w64 (n := i + 1) (by omega) (by omega)]
    by_cases hL : (put s e).size > 65536
    · rw [if_pos (by omega), if_pos hL]
    · rw [if_neg (by omega), if_neg hL, if_pos q1, if_pos q2, if_pos z1, if_pos (show 0 ≤ e.f0 + e.f1 by omega), if_pos (show e.f0 + e.f1 ≤ s.size by omega), if_pos z2]
      rfl
  · have hR' : ¬ decide (0 ≤ e.f0 ∧ e.f0 ≤ s.size ∧ 0 ≤ e.f1 ∧ e.f1 ≤ s.size - e.f0) = true := fun h => hR (show _ ∧ _ from of_decide_eq_true h)
    rw [if_neg hR', if_neg hR]
theorem apply_one2 (s : ByteArray) (e : S32) (hz : e.f2.size ≤ 13000) (hs : s.size ≤ 4000) (hR : Rt s e) {k : Nat} (hk : 2 ≤ k) : edit_Apply.f k s [e] = some (put s e, 0) := by
  obtain ⟨k, rfl⟩ : ∃ m, k = m + 1 + 1 := ⟨k - 2, by omega⟩
  have := put_size hR
  have := hR.2.2.1
  unfold edit_Apply.f
  rw [apply_step2 [e] (by simp) (k + 1) s 0 (by decide) (by simp) hz (by omega)]
  rw [show rd_T32 [e] 0 = e from rfl, if_pos hR, if_neg (by omega)]
  simp only [edit_Apply.l0]
  rw [if_neg (by simp)]
theorem apply_two (s : ByteArray) (a b : S32) (ha : a.f2.size ≤ 4000) (hb : b.f2.size ≤ 4000) (hs : s.size ≤ 4000) {k : Nat} (hk : 3 ≤ k) :
    edit_Apply.f k s [a, b] = some (if Rt s a ∧ Rt (put s a) b then (put (put s a) b, 0) else (⟨#[]⟩, 2)) := by
  obtain ⟨k, rfl⟩ : ∃ m, k = m + 1 + 1 + 1 := ⟨k - 3, by omega⟩
  unfold edit_Apply.f
  rw [apply_step2 [a, b] (by simp) (k + 1 + 1) s 0 (by decide) (by simp) (show a.f2.size ≤ 13000 by omega) (by omega)]
  rw [show rd_T32 [a, b] 0 = a from rfl]
  by_cases h1 : Rt s a
  · have z1 := put_size h1
    have y1 := h1.2.2.1
    rw [if_pos h1, if_neg (by omega), apply_step2 [a, b] (by simp) (k + 1) (put s a) (0 + 1) (by decide) (by simp) (show (rd_T32 [a, b] (0 + 1)).f2.size ≤ 13000 from Nat.le_trans hb (by decide)) (by omega)]
    rw [show rd_T32 [a, b] (0 + 1) = b from rfl]
    by_cases h2 : Rt (put s a) b
    · have z2 := put_size h2
      have y2 := h2.2.2.1
      rw [if_pos h2, if_neg (by omega), if_pos ⟨h1, h2⟩]
      simp only [edit_Apply.l0]
      rw [if_neg (by simp)]
    · rw [if_neg h2, if_neg (fun h => h2 h.2)]
  · rw [if_neg h1, if_neg (fun h => h1 h.1)]

theorem join_put (t : ByteArray) (p d p2 d2 : Int) (s s2 : ByteArray) (h1 : Rt t ⟨p, d, s⟩) (h2 : Rt (put t ⟨p, d, s⟩) ⟨p2, d2, s2⟩) (h3 : p2 ≤ p + s.size) (h4 : p ≤ p2 + d2) :
    Rt t ⟨mni p p2, d + (mxi 0 (p - p2) + mxi 0 (p2 + d2 - (p + s.size))), s.extract 0 (wi p2 p s.size).toNat ++ s2 ++ s.extract (wi (p2 + d2) p s.size).toNat s.size⟩ ∧
    put t ⟨mni p p2, d + (mxi 0 (p - p2) + mxi 0 (p2 + d2 - (p + s.size))), s.extract 0 (wi p2 p s.size).toNat ++ s2 ++ s.extract (wi (p2 + d2) p s.size).toNat s.size⟩ = put (put t ⟨p, d, s⟩) ⟨p2, d2, s2⟩ := by
  have hz := put_size h1
  obtain ⟨a1, a2, a3, a4⟩ := h1
  obtain ⟨b1, b2, b3, b4⟩ := h2
  simp only at a1 a2 a3 a4 b1 b2 b3 b4 hz
  obtain ⟨m, hm, hm'⟩ : ∃ m, mni p p2 = m ∧ m = min p p2 := ⟨_, rfl, by unfold mni; split <;> omega⟩
  obtain ⟨x, hx, hx'⟩ : ∃ x, mxi 0 (p - p2) = x ∧ x = max 0 (p - p2) := ⟨_, rfl, by unfold mxi; split <;> omega⟩
  obtain ⟨y, hy, hy'⟩ : ∃ y, mxi 0 (p2 + d2 - (p + s.size)) = y ∧ y = max 0 (p2 + d2 - (p + s.size)) := ⟨_, rfl, by unfold mxi; split <;> omega⟩
  obtain ⟨u, hu, hu'⟩ : ∃ u, wi p2 p s.size = u ∧ u = max 0 (p2 - p) := ⟨_, rfl, by unfold wi mni mxi; split <;> split <;> omega⟩
  obtain ⟨v, hv, hv'⟩ : ∃ v, wi (p2 + d2) p s.size = v ∧ v = min (p2 + d2 - p) s.size := ⟨_, rfl, by unfold wi mni mxi; split <;> split <;> omega⟩
  rw [hm, hx, hy, hu, hv]
  refine ⟨⟨?_, ?_, ?_, ?_⟩, ?_⟩
  · simp only; omega
  · simp only; omega
  · simp only; omega
  · simp only; omega
  · have ls := B_len s
    have lt := B_len t
    apply B_ext
    rw [B_put, B_put, B_put, B_append, B_append, B_extract, B_extract]
    simp only [List.drop_zero]
    have lp : ((B t).take p.toNat).length = p.toNat := by rw [List.length_take]; omega
    have E1 : List.take p2.toNat ((B t).take p.toNat ++ B s ++ (B t).drop (p + d).toNat) = (B t).take m.toNat ++ (B s).take u.toNat := by
      rw [List.append_assoc, List.take_append, lp, List.take_take, List.take_append_of_le_length (by omega), show min p2.toNat p.toNat = m.toNat by omega, show p2.toNat - p.toNat = u.toNat by omega]
    have E2 : List.drop (p2 + d2).toNat ((B t).take p.toNat ++ B s ++ (B t).drop (p + d).toNat) = (B s).drop v.toNat ++ (B t).drop (m + (d + (x + y))).toNat := by
      rw [List.drop_append, List.drop_append, lp, List.length_append, lp, List.drop_eq_nil_of_le (by rw [lp]; omega), List.nil_append, List.drop_drop]
      congr 1
      · by_cases h : p2 + d2 - p ≤ s.size
        · rw [show v.toNat = (p2 + d2).toNat - p.toNat by omega]
        · rw [List.drop_eq_nil_of_le (by omega), List.drop_eq_nil_of_le (by omega)]
      · rw [show (p + d).toNat + ((p2 + d2).toNat - (p.toNat + (B s).length)) = (m + (d + (x + y))).toNat by omega]
    rw [E1, E2, ← ls, List.take_length]
    simp only [List.append_assoc]

theorem EditJoins : ∀ (x0 : ByteArray) (x1 : S32) (x2 : S32), x0.size ≤ 9223372036854775807 → W32 x1 → W32 x2 → ∃ k, arboristlaw02_EditJoins.f k x0 x1.f0 x1.f1 x1.f2 x2.f0 x2.f1 x2.f2 = some true := by
  rintro t ⟨p, d, s⟩ ⟨p2, d2, s2⟩ ht h1 h2
  refine ⟨1000, ?_⟩
  unfold arboristlaw02_EditJoins.f arboristlaw02_EditJoins_.f
  obtain ⟨f, hf, hf1⟩ := few_f [t, s, s2] (by simp) (k := 1000) (by simp)
  rw [hf]
  simp only [Option.bind_some]
  cases f with
  | false => rw [if_neg (by decide), knows_ev (by omega)]; rfl
  | true =>
    rw [if_pos rfl]
    have z0 : t.size ≤ 4000 := hf1 rfl 0 (by omega) (by simp)
    have z1 : s.size ≤ 4000 := hf1 rfl 1 (by omega) (by simp)
    have z2 : s2.size ≤ 4000 := hf1 rfl 2 (by omega) (by simp)
    unfold edit_Join.f arboristref02_Join.f
    rw [joins_eq]
    simp only [Option.bind_some]
    obtain ⟨r, hr⟩ : ∃ r, joinsR p d p2 d2 s s2 = r := ⟨_, rfl⟩
    rw [hr]
    rw [if_neg (by simp), show (r.2.2.2 != r.2.2.2) = false by simp]
    simp only [arboristlaw02_EditJoins_.j0]
    rw [if_neg (by decide), apply_two t ⟨p, d, s⟩ ⟨p2, d2, s2⟩ z1 z2 z0 (by omega)]
    simp only [Option.bind_some]
    have hj : ∀ u a b c, arboristlaw02_EditJoins_.j1 999 t u true a b c = some true := fun u a b c => by
      simp only [arboristlaw02_EditJoins_.j1]
      rw [if_pos trivial, knows_ev (by omega)]
      rfl
    by_cases hR : Rt t ⟨p, d, s⟩ ∧ Rt (put t ⟨p, d, s⟩) ⟨p2, d2, s2⟩
    · rw [if_pos hR, if_pos rfl]
      rw [← joins_eq] at hr
      unfold joins at hr
      by_cases hc : ((0 ≤ p ∧ p ≤ 65536 ∧ 0 ≤ d ∧ d ≤ 65536 ∧ s.size ≤ 65536) ∧ (0 ≤ p2 ∧ p2 ≤ 65536 ∧ 0 ≤ d2 ∧ d2 ≤ 65536 ∧ s2.size ≤ 65536)) ∧ p2 ≤ p + s.size ∧ p ≤ p2 + d2
      · rw [if_pos hc] at hr
        obtain ⟨q1, q2⟩ := join_put t p d p2 d2 s s2 hR.1 hR.2 hc.2.1 hc.2.2
        have hd : d + mxi (p - p2) 0 + mxi (p2 + d2 - p - s.size) 0 = d + (mxi 0 (p - p2) + mxi 0 (p2 + d2 - (p + s.size))) := by
          unfold mxi
          split <;> split <;> split <;> split <;> omega
        rw [hd] at hr
        subst hr
        simp only [Bool.not_true, arboristlaw02_EditJoins_.j1]
        rw [if_neg (by decide), apply_one2 t _ ?_ z0 q1 (by omega)]
        · simp only [Option.bind_some]
          rw [if_pos trivial, if_pos (by rw [q2]), knows_ev (by omega)]
          rfl
        · simp only [ByteArray.size_append, ByteArray.size_extract]
          omega
      · rw [if_neg hc] at hr
        subst hr
        rw [show (!false) = true from rfl, hj]
        rfl
    · rw [if_neg hR, if_neg (by decide), hj]
      rfl

end Go.Proofs.Ytfofdmoakjkndaa.Pure
