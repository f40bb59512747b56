import Derived.Test.YtfofdmoakjkndaaQf8
import Derived.Test.YtfofdmoakjkndaaQf9
import Derived.Test.YtfofdmoakjkndaaQf10
import Derived.Test.YtfofdmoakjkndaaQf11
import Derived.Test.YtfofdmoakjkndaaQf12
import Derived.Test.YtfofdmoakjkndaaQf13
import Derived.Test.YtfofdmoakjkndaaQf14
import Derived.Test.YtfofdmoakjkndaaQf17
import Derived.Test.YtfofdmoakjkndaaQf18
import Derived.Test.YtfofdmoakjkndaaQf19
import Derived.Test.YtfofdmoakjkndaaQf20
namespace Go.Proofs.Ytfofdmoakjkndaa.Pure
open Go.RowKit Go.Proofs.Ytfofdmoakjkndaa.Q Go.Proofs.YtfofdmoakjkndaaW.PrintWords Go.Proofs.YtfofdmoakjkndaaW.PrintLast

theorem knows_true : arboristlaw02_knows.f 10 = some true := by decide +kernel
theorem knows_ev {k : Nat} (h : 10 ≤ k) : arboristlaw02_knows.f k = some true := at_rounds arboristlaw02_knows.mono h knows_true

theorem w64 {n : Int} (h1 : -9223372036854775808 ≤ n) (h2 : n ≤ 9223372036854775807) : wrap64 n = n := by unfold wrap64; omega

theorem right_eq (s : ByteArray) (a d : Int) (ins : ByteArray) (hs : s.size ≤ 9223372036854775807) :
    edit_Right.f s a d ins = some (decide (0 ≤ a ∧ a ≤ s.size ∧ 0 ≤ d ∧ d ≤ s.size - a)) := by
  unfold edit_Right.f
  by_cases h1 : a ≥ 0
  · rw [if_pos h1]
    by_cases h2 : a ≤ s.size
    · rw [if_pos h2, w64 (by omega) (by omega)]
      by_cases h3 : d ≥ 0
      · rw [if_pos h3]
        congr 1
        exact decide_eq_decide.2 ⟨fun h => ⟨h1, h2, h3, h⟩, fun h => h.2.2.2⟩
      · rw [if_neg h3]
        congr 1
        exact (decide_eq_false (by omega)).symm
    · rw [if_neg h2]
      congr 1
      exact (decide_eq_false (by omega)).symm
  · rw [if_neg h1]
    congr 1
    exact (decide_eq_false (by omega)).symm
theorem right_ref (s : ByteArray) (a d : Int) (ins : ByteArray) : arboristref02_Right.f s a d ins = edit_Right.f s a d ins := rfl
theorem back_ref (s : ByteArray) (a d : Int) (ins : ByteArray) : arboristref02_Back.f s a d ins = edit_Back.f s a d ins := rfl

/-- What an edit that is right makes of s. -/
def put (s : ByteArray) (e : S32) : ByteArray := s.extract 0 e.f0.toNat ++ e.f2 ++ s.extract (e.f0 + e.f1).toNat s.size
def Rt (s : ByteArray) (e : S32) : Prop := 0 ≤ e.f0 ∧ e.f0 ≤ s.size ∧ 0 ≤ e.f1 ∧ e.f1 ≤ s.size - e.f0
instance (s : ByteArray) (e : S32) : Decidable (Rt s e) := by unfold Rt; infer_instance
theorem put_size {s : ByteArray} {e : S32} (h : Rt s e) : ((put s e).size : Int) = s.size - e.f1 + e.f2.size := by
  obtain ⟨h1, h2, h3, h4⟩ := h
  simp only [put, ByteArray.size_append, ByteArray.size_extract]
  omega

/-- Few strings are short. -/
theorem few_l (l : List ByteArray) (hl : l.length ≤ 1000) (d : Nat) : ∀ (k : Nat) (n i : Int), 0 ≤ i → i + d = l.length → d < k → 0 ≤ n → n ≤ 5000 * i →
    ∃ b, arboristlaw02_few.l0 k l n i = some b ∧ (b = true → n ≤ 4000 ∧ ∀ j : Int, i ≤ j → j < l.length → (rdOf ByteArray.empty l j).size ≤ 4000) := by
  induction d with
  | zero =>
    intro k n i h0 h1 hk h2 h3
    obtain ⟨k, rfl⟩ : ∃ m, k = m + 1 := ⟨k - 1, by omega⟩
    refine ⟨_, by simp only [arboristlaw02_few.l0]; rw [if_neg (by omega)], fun hb => ⟨by simpa using hb, fun j h4 h5 => by omega⟩⟩
  | succ d ih =>
    intro k n i h0 h1 hk h2 h3
    obtain ⟨k, rfl⟩ : ∃ m, k = m + 1 := ⟨k - 1, by omega⟩
    have hm : 0 ≤ mn ((rdOf ByteArray.empty l i).size : Int) 5000 ∧ mn ((rdOf ByteArray.empty l i).size : Int) 5000 ≤ 5000 ∧ (mn ((rdOf ByteArray.empty l i).size : Int) 5000 ≤ 4000 → (rdOf ByteArray.empty l i).size ≤ 4000) := by unfold mn; split <;> omega
    obtain ⟨b, hb, hc⟩ := ih k (n + mn ((rdOf ByteArray.empty l i).size : Int) 5000) (i + 1) (by omega) (by omega) (by omega) (by omega) (by omega)
    refine ⟨b, by simp only [arboristlaw02_few.l0]; rw [if_pos (by omega), if_pos h0, w64 (by omega) (by omega), w64 (by omega) (by omega)]; exact hb, fun h => ?_⟩
    obtain ⟨c1, c2⟩ := hc h
    refine ⟨by omega, fun j h4 h5 => ?_⟩
    by_cases e : j = i
    · subst e; exact hm.2.2 (by omega)
    · exact c2 j (by omega) h5
theorem few_f (l : List ByteArray) (hl : l.length ≤ 1000) {k : Nat} (hk : l.length < k) :
    ∃ b, arboristlaw02_few.f k l = some b ∧ (b = true → ∀ j : Int, 0 ≤ j → j < l.length → (rdOf ByteArray.empty l j).size ≤ 4000) := by
  obtain ⟨b, hb, hc⟩ := few_l l hl l.length k 0 0 (by omega) (by omega) hk (by omega) (by omega)
  exact ⟨b, hb, fun h => (hc h).2⟩

theorem ins_l (l : List S32) (d : Nat) : ∀ (k : Nat) (out : List ByteArray) (i : Int), 0 ≤ i → i + d = l.length → l.length ≤ 50 → d < k → out.length = i.toNat → (∀ j : Int, 0 ≤ j → j < i → rdOf ByteArray.empty out j = (rd_T32 l j).f2) →
    ∃ r, arboristlaw02_ins.l0 k l out i = some r ∧ r.length = l.length ∧ ∀ j : Int, 0 ≤ j → j < l.length → rdOf ByteArray.empty r j = (rd_T32 l j).f2 := by
  induction d with
  | zero =>
    intro k out i h0 h1 hl hk ho hr
    obtain ⟨k, rfl⟩ : ∃ m, k = m + 1 := ⟨k - 1, by omega⟩
    exact ⟨out, by simp only [arboristlaw02_ins.l0]; rw [if_neg (by omega)], by omega, fun j h2 h3 => hr j h2 (by omega)⟩
  | succ d ih =>
    intro k out i h0 h1 hl hk ho hr
    obtain ⟨k, rfl⟩ : ∃ m, k = m + 1 := ⟨k - 1, by omega⟩
    obtain ⟨r, hr1, hr2, hr3⟩ := ih k (out ++ [(rd_T32 l i).f2]) (i + 1) (by omega) (by omega) hl (by omega) (by simp [ho]; omega) (fun j h2 h3 => by
      unfold rdOf
      by_cases e : j = i
      · subst e; simp [List.getD_eq_getElem?_getD, ho]
      · have := hr j h2 (by omega)
        unfold rdOf at this
        rw [List.getD_eq_getElem?_getD] at this ⊢
        rw [List.getElem?_append_left (by omega)]
        exact this)
    refine ⟨r, ?_, hr2, hr3⟩
    simp only [arboristlaw02_ins.l0]
    rw [if_pos (by omega), if_pos (by omega), if_pos h0, if_pos (by omega), w64 (by omega) (by omega)]
    exact hr1

theorem apply_step (l : List S32) (hl : l.length ≤ 1000) (k : Nat) (s : ByteArray) (i : Int) (h0 : 0 ≤ i) (h1 : i < l.length) (hz : (rd_T32 l i).f2.size ≤ 4000) (hs : s.size ≤ 65536) :
    edit_Apply.l0 (k + 1) s l l.length i = if Rt s (rd_T32 l i) then (if (put s (rd_T32 l i)).size > 65536 then some (⟨#[]⟩, 4) else edit_Apply.l0 k (put s (rd_T32 l i)) l l.length (i + 1)) else some (⟨#[]⟩, 2) := by
  simp only [edit_Apply.l0]
  rw [if_pos h1, if_pos h0, if_pos h1, right_eq _ _ _ _ (by omega)]
  simp only [Option.bind_some]
  generalize rd_T32 l i = e at hz
  by_cases hR : Rt s e
  · have hR' : decide (0 ≤ e.f0 ∧ e.f0 ≤ s.size ∧ 0 ≤ e.f1 ∧ e.f1 ≤ s.size - e.f0) = true := decide_eq_true hR
    have hp := put_size hR
    rw [if_pos hR', if_pos hR]
    obtain ⟨q1, q2, q3, q4⟩ := hR
    have z1 : (s.extract 0 e.f0.toNat).size + e.f2.size ≤ 9223372036854775807 := by rw [ByteArray.size_extract]; omega
    have z2 : (s.extract 0 e.f0.toNat ++ e.f2).size + (s.extract (e.f0 + e.f1).toNat s.size).size ≤ 9223372036854775807 := by rw [ByteArray.size_append, ByteArray.size_extract, ByteArray.size_extract]; omega
    rw [w64 (n := (s.size : Int) - e.f1) (by omega) (by omega), w64 (n := (s.size : Int) - e.f1 + e.f2.size) (by omega) (by omega), w64 (n := e.f0 + e.f1) (by omega) (by omega), w64 (n := i + 1) (by omega) (by omega)]
    by_cases hL : (put s e).size > 65536
    · rw [if_pos (by omega), if_pos hL]
    · rw [if_neg (by omega), if_neg hL, if_pos q1, if_pos q2, if_pos z1, if_pos (show 0 ≤ e.f0 + e.f1 by omega), if_pos (show e.f0 + e.f1 ≤ s.size by omega), if_pos z2]
      rfl
  · have hR' : ¬ decide (0 ≤ e.f0 ∧ e.f0 ≤ s.size ∧ 0 ≤ e.f1 ∧ e.f1 ≤ s.size - e.f0) = true := fun h => hR (show _ ∧ _ from of_decide_eq_true h)
    rw [if_neg hR', if_neg hR]
theorem ref_step (l : List S32) (hl : l.length ≤ 1000) (k : Nat) (s : ByteArray) (i : Int) (h0 : 0 ≤ i) (h1 : i < l.length) (hz : (rd_T32 l i).f2.size ≤ 4000) (hs : s.size ≤ 65536) :
    arboristref02_Apply.l0 (k + 1) s l i = if Rt s (rd_T32 l i) then (if (put s (rd_T32 l i)).size > 65536 then some (⟨#[]⟩, 4) else arboristref02_Apply.l0 k (put s (rd_T32 l i)) l (i + 1)) else some (⟨#[]⟩, 2) := by
  simp only [arboristref02_Apply.l0]
  rw [if_pos h1, if_pos h0, right_ref, right_eq _ _ _ _ (by omega)]
  simp only [Option.bind_some]
  generalize rd_T32 l i = e at hz
  by_cases hR : Rt s e
  · have hR' : decide (0 ≤ e.f0 ∧ e.f0 ≤ s.size ∧ 0 ≤ e.f1 ∧ e.f1 ≤ s.size - e.f0) = true := decide_eq_true hR
    have hp := put_size hR
    rw [if_pos hR', if_pos hR]
    obtain ⟨q1, q2, q3, q4⟩ := hR
    have z1 : (s.extract 0 e.f0.toNat).size + e.f2.size ≤ 9223372036854775807 := by rw [ByteArray.size_extract]; omega
    have z2 : (s.extract 0 e.f0.toNat ++ e.f2).size + (s.extract (e.f0 + e.f1).toNat s.size).size ≤ 9223372036854775807 := by rw [ByteArray.size_append, ByteArray.size_extract, ByteArray.size_extract]; omega
    rw [w64 (n := e.f0 + e.f1) (by omega) (by omega), w64 (n := i + 1) (by omega) (by omega), if_pos q1, if_pos q2, if_pos z1, if_pos (show 0 ≤ e.f0 + e.f1 by omega), if_pos (show e.f0 + e.f1 ≤ s.size by omega), if_pos z2]
    rw [show s.extract 0 e.f0.toNat ++ e.f2 ++ s.extract (e.f0 + e.f1).toNat s.size = put s e from rfl]
    by_cases hL : (put s e).size > 65536
    · rw [if_pos (by omega), if_pos hL]
    · rw [if_neg (by omega), if_neg hL]
  · have hR' : ¬ decide (0 ≤ e.f0 ∧ e.f0 ≤ s.size ∧ 0 ≤ e.f1 ∧ e.f1 ≤ s.size - e.f0) = true := fun h => hR (show _ ∧ _ from of_decide_eq_true h)
    rw [if_neg hR', if_neg hR]

theorem apply_l (l : List S32) (hl : l.length ≤ 1000) (hi : ∀ j : Int, 0 ≤ j → j < l.length → (rd_T32 l j).f2.size ≤ 4000) (d : Nat) : ∀ (k : Nat) (s : ByteArray) (i : Int), 0 ≤ i → i + d = l.length → d < k → s.size ≤ 65536 →
    ∃ r, edit_Apply.l0 k s l l.length i = some r ∧ arboristref02_Apply.l0 k s l i = some r := by
  induction d with
  | zero =>
    intro k s i h0 h1 hk hs
    obtain ⟨k, rfl⟩ : ∃ m, k = m + 1 := ⟨k - 1, by omega⟩
    exact ⟨(s, 0), by simp only [edit_Apply.l0]; rw [if_neg (by omega)], by simp only [arboristref02_Apply.l0]; rw [if_neg (by omega)]⟩
  | succ d ih =>
    intro k s i h0 h1 hk hs
    obtain ⟨k, rfl⟩ : ∃ m, k = m + 1 := ⟨k - 1, by omega⟩
    have hz := hi i h0 (by omega)
    rw [apply_step l hl k s i h0 (by omega) hz hs, ref_step l hl k s i h0 (by omega) hz hs]
    split
    · split
      · exact ⟨_, rfl, rfl⟩
      · exact ih k _ (i + 1) (by omega) (by omega) (by omega) (by omega)
    · exact ⟨_, rfl, rfl⟩
/-- One edit alone. -/
theorem apply_one (s : ByteArray) (e : S32) (hz : e.f2.size ≤ 4000) (hs : s.size ≤ 65536) (hR : Rt s e) (hL : (put s e).size ≤ 65536) {k : Nat} (hk : 2 ≤ k) : edit_Apply.f k s [e] = some (put s e, 0) := by
  obtain ⟨k, rfl⟩ : ∃ m, k = m + 1 + 1 := ⟨k - 2, by omega⟩
  unfold edit_Apply.f
  rw [apply_step [e] (by simp) (k + 1) s 0 (by decide) (by simp) hz hs]
  rw [show rd_T32 [e] 0 = e from rfl, if_pos hR, if_neg (by omega)]
  simp only [edit_Apply.l0]
  rw [if_neg (by simp)]
theorem apply_bad (s : ByteArray) (e : S32) (hz : e.f2.size ≤ 4000) (hs : s.size ≤ 65536) (hR : ¬ Rt s e) {k : Nat} (hk : 1 ≤ k) : edit_Apply.f k s [e] = some (⟨#[]⟩, 2) := by
  obtain ⟨k, rfl⟩ : ∃ m, k = m + 1 := ⟨k - 1, by omega⟩
  unfold edit_Apply.f
  rw [apply_step [e] (by simp) k s 0 (by decide) (by simp) hz hs]
  rw [show rd_T32 [e] 0 = e from rfl, if_neg hR]
theorem back_eq (s : ByteArray) (e : S32) (hs : s.size ≤ 9223372036854775807) (hR : Rt s e) : edit_Back.f s e.f0 e.f1 e.f2 = some (e.f0, (e.f2.size : Int), s.extract e.f0.toNat (e.f0 + e.f1).toNat, true) := by
  unfold edit_Back.f
  rw [right_eq _ _ _ _ hs]
  simp only [Option.bind_some]
  have hR' : decide (0 ≤ e.f0 ∧ e.f0 ≤ s.size ∧ 0 ≤ e.f1 ∧ e.f1 ≤ s.size - e.f0) = true := decide_eq_true hR
  obtain ⟨q1, q2, q3, q4⟩ := hR
  rw [if_pos hR', w64 (by omega) (by omega), if_pos q1, if_pos (by omega), if_pos (by omega)]
theorem back_some (s : ByteArray) (e : S32) (hs : s.size ≤ 9223372036854775807) : ∃ r, edit_Back.f s e.f0 e.f1 e.f2 = some r := by
  by_cases hR : Rt s e
  · exact ⟨_, back_eq s e hs hR⟩
  · have hR' : ¬ decide (0 ≤ e.f0 ∧ e.f0 ≤ s.size ∧ 0 ≤ e.f1 ∧ e.f1 ≤ s.size - e.f0) = true := fun h => hR (show _ ∧ _ from of_decide_eq_true h)
    unfold edit_Back.f
    rw [right_eq _ _ _ _ hs]
    simp only [Option.bind_some]
    rw [if_neg hR']
    exact ⟨_, rfl⟩

/-! ### As lists -/
def B (s : ByteArray) : List UInt8 := s.data.toList
theorem B_ext {s t : ByteArray} (h : B s = B t) : s = t := by
  cases s; cases t
  simp only [B] at h
  congr 1
  exact Array.toList_inj.1 h
theorem B_len (s : ByteArray) : (B s).length = s.size := by simp [B]
theorem B_extract (s : ByteArray) (a b : Nat) : B (s.extract a b) = ((B s).take b).drop a := by
  simp only [B, ByteArray.data_extract, Array.toList_extract]
  rw [List.extract_eq_take_drop, List.take_drop]
  by_cases h : a ≤ b
  · rw [show a + (b - a) = b by omega]
  · rw [List.drop_eq_nil_of_le (by rw [List.length_take]; omega), List.drop_eq_nil_of_le (by rw [List.length_take]; omega)]
theorem B_append (s t : ByteArray) : B (s ++ t) = B s ++ B t := by simp [B]
theorem B_put (s : ByteArray) (e : S32) : B (put s e) = (B s).take e.f0.toNat ++ B e.f2 ++ (B s).drop (e.f0 + e.f1).toNat := by
  unfold put
  rw [B_append, B_append, B_extract, B_extract, List.drop_zero, ← B_len, List.take_length]
theorem put_back (s : ByteArray) (e : S32) (h : Rt s e) : put (put s e) ⟨e.f0, e.f2.size, s.extract e.f0.toNat (e.f0 + e.f1).toNat⟩ = s ∧ (put s e).extract e.f0.toNat (e.f0 + e.f2.size).toNat = e.f2 := by
  obtain ⟨h1, h2, h3, h4⟩ := h
  have hs := B_len s
  have hi := B_len e.f2
  have ht := B_put s e
  obtain ⟨a, ha⟩ : ∃ a : Nat, e.f0 = a := ⟨e.f0.toNat, by omega⟩
  obtain ⟨d, hd⟩ : ∃ d : Nat, e.f1 = d := ⟨e.f1.toNat, by omega⟩
  rw [ha, hd] at ht
  have e1 : ((a : Int)).toNat = a := rfl
  have e2 : ((a : Int) + (d : Int)).toNat = a + d := by omega
  have e3 : ((a : Int) + (e.f2.size : Int)).toNat = a + e.f2.size := by omega
  rw [e1, e2] at ht
  have l1 : ((B s).take a).length = a := by rw [List.length_take]; omega
  have hT : (B (put s e)).take a = (B s).take a := by
    rw [ht, List.append_assoc, List.take_append_of_le_length (by omega), List.take_of_length_le (by omega)]
  have hD : (B (put s e)).drop (a + e.f2.size) = (B s).drop (a + d) := by
    rw [ht, List.drop_append, List.drop_eq_nil_of_le (by rw [List.length_append]; omega)]
    simp only [List.nil_append]
    rw [List.length_append, l1, hi, Nat.sub_self, List.drop_zero]
  constructor
  · apply B_ext
    rw [B_put]
    simp only [ha, hd, e1, e2, e3, B_extract]
    rw [hT, hD]
    rw [show (B s).take a = ((B s).take (a + d)).take a by rw [List.take_take]; congr 1; omega, List.take_append_drop, List.take_append_drop]
  · apply B_ext
    rw [ha, B_extract, e1, e3, ht, List.append_assoc, List.take_append, l1, List.take_of_length_le (by omega), List.drop_append, List.drop_eq_nil_of_le (by omega), l1]
    simp only [List.nil_append, Nat.sub_self, List.drop_zero]
    rw [show a + e.f2.size - a = (B e.f2).length by omega, List.take_append_of_le_length (by omega), List.take_length]
theorem rt_back (s : ByteArray) (e : S32) (h : Rt s e) : Rt (put s e) ⟨e.f0, e.f2.size, s.extract e.f0.toNat (e.f0 + e.f1).toNat⟩ := by
  have := put_size h
  obtain ⟨h1, h2, h3, h4⟩ := h
  refine ⟨h1, ?_, ?_, ?_⟩ <;> simp only <;> omega
end Go.Proofs.Ytfofdmoakjkndaa.Pure
