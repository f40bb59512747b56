import Derived.Test.YtfofdmoakjkndaaPuA
namespace Go.Proofs.Ytfofdmoakjkndaa.Pure
open Go.RowKit Go.Proofs.Ytfofdmoakjkndaa.Q Go.Proofs.YtfofdmoakjkndaaW.PrintWords Go.Proofs.YtfofdmoakjkndaaW.PrintLast
open Hand (run run_le run_stop run_go dif pre post)

theorem run_all (p : Int → Bool) (d : Nat) : ∀ i j, i ≤ j → j < run p d i → p j = true := by
  induction d with
  | zero => intro i j h1 h2; simp [run] at h2; omega
  | succ d ih =>
    intro i j h1 h2
    cases hp : p i with
    | false => rw [run_stop hp] at h2; omega
    | true =>
      rw [run_go hp] at h2
      by_cases e : j = i
      · rw [e]; exact hp
      · exact ih (i + 1) j (by omega) h2
theorem run_full (p : Int → Bool) (d : Nat) (i : Int) (h : ∀ j, i ≤ j → j < i + d → p j = true) : run p d i = i + d := by
  induction d generalizing i with
  | zero => simp [run]
  | succ d ih =>
    rw [run_go (h i (by omega) (by omega)), ih (i + 1) (fun j h1 h2 => h j (by omega) (by omega))]
    omega

theorem ref_l1 (a b : ByteArray) (n : Int) (ha : a.size ≤ 9000) (hb : b.size ≤ 9000) (d : Nat) : ∀ (k : Nat) (i : Int), 0 ≤ i → i + d = min a.size b.size → d < k →
    arboristref02_Diff.l1 k a b n i = some (n, (a.size : Int) - run (fun i => bt a (a.size - 1 - i) == bt b (b.size - 1 - i)) d i, b.extract 0 ((b.size : Int) - run (fun i => bt a (a.size - 1 - i) == bt b (b.size - 1 - i)) d i).toNat) := by
  have hend : ∀ i : Int, 0 ≤ i → i ≤ b.size → i ≤ a.size → (if 0 ≤ (wrap64 ((b.size : Int) - i)) then (if (wrap64 ((b.size : Int) - i)) ≤ (b.size : Int) then (some (n, wrap64 ((a.size : Int) - i), b.extract 0 ((wrap64 ((b.size : Int) - i)) : Int).toNat)) else (none)) else (none)) = some (n, (a.size : Int) - i, b.extract 0 ((b.size : Int) - i).toNat) := by
    intro i h0 h1 h2
    rw [w64 (n := (b.size : Int) - i) (by omega) (by omega), w64 (n := (a.size : Int) - i) (by omega) (by omega), if_pos (by omega), if_pos (by omega)]
  induction d with
  | zero =>
    intro k i h0 h1 hk
    obtain ⟨k, rfl⟩ : ∃ m, k = m + 1 := ⟨k - 1, by omega⟩
    simp only [arboristref02_Diff.l1]
    rw [hend i h0 (by omega) (by omega)]
    by_cases h : i < (a.size : Int)
    · rw [if_pos h, if_neg (by omega)]; rfl
    · rw [if_neg h]; rfl
  | succ d ih =>
    intro k i h0 h1 hk
    obtain ⟨k, rfl⟩ : ∃ m, k = m + 1 := ⟨k - 1, by omega⟩
    simp only [arboristref02_Diff.l1]
    rw [hend i h0 (by omega) (by omega)]
    rw [if_pos (by omega), if_pos (by omega), w64 (n := (a.size : Int) - 1) (by omega) (by omega), w64 (n := (b.size : Int) - 1) (by omega) (by omega), w64 (n := (a.size : Int) - 1 - i) (by omega) (by omega), w64 (n := (b.size : Int) - 1 - i) (by omega) (by omega), w64 (n := i + 1) (by omega) (by omega), if_pos (by omega), if_pos (by omega), if_pos (by omega), if_pos (by omega)]
    by_cases h : bt a (a.size - 1 - i) = bt b (b.size - 1 - i)
    · rw [if_pos h, ih k (i + 1) (by omega) (by omega) (by omega), run_go (by simpa using h)]
    · rw [if_neg h, run_stop (by simpa using h)]
theorem ref_l0 (a b : ByteArray) (ha : a.size ≤ 9000) (hb : b.size ≤ 9000) (d : Nat) : ∀ (k : Nat) (i : Int), 0 ≤ i → i + d = min a.size b.size → d + 9010 < k →
    arboristref02_Diff.l0 k a b i = arboristref02_Diff.j1 9002 a b (run (fun i => bt a i == bt b i) d i) := by
  have hmono : ∀ (k : Nat) (n : Int), 9002 ≤ k → 0 ≤ n → n ≤ a.size → n ≤ b.size → arboristref02_Diff.j1 k a b n = arboristref02_Diff.j1 9002 a b n := by
    intro k n hk h0 h1 h2
    obtain ⟨k, rfl⟩ : ∃ m, k = m + 1 := ⟨k - 1, by omega⟩
    simp only [arboristref02_Diff.j1]
    simp only [if_pos h0, if_pos h1, if_pos h2]
    have s1 : (a.extract n.toNat a.size).size ≤ 9000 := by rw [ByteArray.size_extract]; omega
    have s2 : (b.extract n.toNat b.size).size ≤ 9000 := by rw [ByteArray.size_extract]; omega
    have q := fun (k : Nat) (hk : 9001 ≤ k) => ref_l1 (a.extract n.toNat a.size) (b.extract n.toNat b.size) n s1 s2 (min (a.extract n.toNat a.size).size (b.extract n.toNat b.size).size) k 0 (by omega) (by omega) (by omega)
    rw [q k (by omega), q 9001 (by omega)]
  induction d with
  | zero =>
    intro k i h0 h1 hk
    obtain ⟨k, rfl⟩ : ∃ m, k = m + 1 := ⟨k - 1, by omega⟩
    simp only [arboristref02_Diff.l0]
    rw [hmono k i (by omega) (by omega) (by omega) (by omega)]
    by_cases h : i < (a.size : Int)
    · rw [if_pos h, if_neg (by omega)]; rfl
    · rw [if_neg h]; rfl
  | succ d ih =>
    intro k i h0 h1 hk
    obtain ⟨k, rfl⟩ : ∃ m, k = m + 1 := ⟨k - 1, by omega⟩
    simp only [arboristref02_Diff.l0]
    rw [hmono k i (by omega) (by omega) (by omega) (by omega)]
    rw [if_pos (by omega), if_pos (by omega), if_pos h0, w64 (n := i + 1) (by omega) (by omega)]
    by_cases h : bt a i = bt b i
    · rw [if_pos h, ih k (i + 1) (by omega) (by omega) (by omega), run_go (by simpa using h)]
    · rw [if_neg h, run_stop (by simpa using h)]
theorem ref_diff (a b : ByteArray) (ha : a.size ≤ 9000) (hb : b.size ≤ 9000) : arboristref02_Diff.f 20000 a b = some (dif a b) := by
  unfold arboristref02_Diff.f
  rw [ref_l0 a b ha hb (min a.size b.size) 20000 0 (by omega) (by omega) (by omega)]
  have h := run_le (fun i => bt a i == bt b i) (min a.size b.size) 0
  show arboristref02_Diff.j1 9002 a b (pre a b) = _
  have h : 0 ≤ pre a b ∧ pre a b ≤ a.size ∧ pre a b ≤ b.size := by unfold pre; omega
  simp only [arboristref02_Diff.j1]
  rw [if_pos h.1, if_pos h.2.1, if_pos h.2.2]
  have s1 : (a.extract (pre a b).toNat a.size).size ≤ 9000 := by rw [ByteArray.size_extract]; omega
  have s2 : (b.extract (pre a b).toNat b.size).size ≤ 9000 := by rw [ByteArray.size_extract]; omega
  rw [ref_l1 _ _ _ s1 s2 (min (a.extract (pre a b).toNat a.size).size (b.extract (pre a b).toNat b.size).size) 9001 0 (by omega) (by omega) (by omega)]
  rfl

/-! ### What the difference makes -/
theorem B_get (s : ByteArray) (i : Nat) (h : i < s.size) : bt s i = ((B s)[i]'(by rw [B_len]; exact h)).toNat := by
  unfold bt
  rw [dif_pos (by simpa using h)]
  rfl
theorem B_eq (a b : ByteArray) (i j : Nat) (hi : i < a.size) (hj : j < b.size) (h : bt a i = bt b j) : (B a)[i]? = (B b)[j]? := by
  rw [List.getElem?_eq_getElem (by rw [B_len]; exact hi), List.getElem?_eq_getElem (by rw [B_len]; exact hj)]
  rw [B_get a i hi, B_get b j hj] at h
  congr 1
  exact UInt8.toNat_inj.1 (by omega)
theorem put_diff (a b : ByteArray) : put a ⟨(dif a b).1, (dif a b).2.1, (dif a b).2.2⟩ = b ∧ Rt a ⟨(dif a b).1, (dif a b).2.1, (dif a b).2.2⟩ := by
  obtain ⟨n, hn⟩ : ∃ n : Nat, pre a b = n := ⟨(pre a b).toNat, by have := run_le (fun i => bt a i == bt b i) (min a.size b.size) 0; unfold pre; omega⟩
  have hn1 : n ≤ a.size ∧ n ≤ b.size := by have := run_le (fun i => bt a i == bt b i) (min a.size b.size) 0; unfold pre at hn; omega
  obtain ⟨a', ha'⟩ : ∃ a', a' = a.extract n a.size := ⟨_, rfl⟩
  obtain ⟨b', hb'⟩ : ∃ b', b' = b.extract n b.size := ⟨_, rfl⟩
  have sa : a'.size = a.size - n := by rw [ha', ByteArray.size_extract]; omega
  have sb : b'.size = b.size - n := by rw [hb', ByteArray.size_extract]; omega
  obtain ⟨k, hk⟩ : ∃ k : Nat, post a' b' = k := ⟨(post a' b').toNat, by have := run_le (fun i => bt a' (a'.size - 1 - i) == bt b' (b'.size - 1 - i)) (min a'.size b'.size) 0; unfold post; omega⟩
  have hk1 : k ≤ a'.size ∧ k ≤ b'.size := by have := run_le (fun i => bt a' (a'.size - 1 - i) == bt b' (b'.size - 1 - i)) (min a'.size b'.size) 0; unfold post at hk; omega
  have hd : dif a b = ((n : Int), (a'.size : Int) - k, b'.extract 0 ((b'.size : Int) - k).toNat) := by
    simp only [dif, hn, Int.toNat_natCast, ← ha', ← hb', hk]
  have Ba' : B a' = (B a).drop n := by rw [ha', B_extract, ← B_len, List.take_length]
  have Bb' : B b' = (B b).drop n := by rw [hb', B_extract, ← B_len, List.take_length]
  have h1 : (B a).take n = (B b).take n := by
    apply List.ext_getElem?
    intro i
    rw [List.getElem?_take, List.getElem?_take]
    split
    · refine B_eq a b i i (by omega) (by omega) ?_
      have := run_all (fun i => bt a i == bt b i) (min a.size b.size) 0 i (by omega) (by unfold pre at hn; omega)
      simpa using this
    · rfl
  have h2 : (B a').drop (a'.size - k) = (B b').drop (b'.size - k) := by
    apply List.ext_getElem?
    intro i
    rw [List.getElem?_drop, List.getElem?_drop]
    by_cases hi : i < k
    · refine B_eq a' b' _ _ (by omega) (by omega) ?_
      have := run_all (fun i => bt a' (a'.size - 1 - i) == bt b' (b'.size - 1 - i)) (min a'.size b'.size) 0 ((k - 1 - i : Nat) : Int) (by omega) (by unfold post at hk; omega)
      have q : bt a' (a'.size - 1 - ((k - 1 - i : Nat) : Int)) = bt b' (b'.size - 1 - ((k - 1 - i : Nat) : Int)) := by simpa using this
      rw [show ((a'.size - k + i : Nat) : Int) = a'.size - 1 - ((k - 1 - i : Nat) : Int) by omega, show ((b'.size - k + i : Nat) : Int) = b'.size - 1 - ((k - 1 - i : Nat) : Int) by omega]
      exact q
    · rw [List.getElem?_eq_none (by rw [B_len]; omega), List.getElem?_eq_none (by rw [B_len]; omega)]
  rw [hd]
  refine ⟨?_, ?_⟩
  · apply B_ext
    rw [B_put, B_extract]
    simp only [List.drop_zero]
    rw [show ((n : Int)).toNat = n from rfl, show ((b'.size : Int) - k).toNat = b'.size - k by omega, show ((n : Int) + ((a'.size : Int) - k)).toNat = n + (a'.size - k) by omega, ← List.drop_drop, ← Ba', h2, h1, List.append_assoc, List.take_append_drop, Bb', List.take_append_drop]
  · refine ⟨?_, ?_, ?_, ?_⟩ <;> simp only <;> omega
theorem diff_same (a : ByteArray) : (dif a a).2.1 = 0 ∧ (dif a a).2.2 = ⟨#[]⟩ := by
  have h : pre a a = a.size := by
    unfold pre
    rw [run_full _ _ _ (fun j _ _ => by simp)]
    omega
  have he : a.extract a.size a.size = ⟨#[]⟩ := by
    apply B_ext
    rw [B_extract, List.drop_eq_nil_of_le (by rw [List.length_take, B_len]; omega)]
    rfl
  have h2 : post ⟨#[]⟩ ⟨#[]⟩ = 0 := rfl
  simp only [dif, h, Int.toNat_natCast, he, h2]
  exact ⟨rfl, rfl⟩
theorem bt_B (s : ByteArray) (i : Int) : bt s i = (((B s)[i.toNat]?).map (fun c => (c.toNat : Int))).getD 0 := by
  unfold bt
  split
  · rename_i h
    rw [List.getElem?_eq_getElem (by rw [B_len]; exact h)]
    rfl
  · rename_i h
    rw [List.getElem?_eq_none (by rw [B_len]; omega)]
    rfl
theorem put_left (s : ByteArray) (e : S32) (h : Rt s e) (i : Int) (h0 : 0 ≤ i) (h1 : i < e.f0) : bt (put s e) i = bt s i := by
  obtain ⟨q1, q2, q3, q4⟩ := h
  have hs := B_len s
  rw [bt_B, bt_B, B_put, List.append_assoc, List.getElem?_append_left (by rw [List.length_take]; omega), List.getElem?_take, if_pos (by omega)]
theorem put_right (s : ByteArray) (e : S32) (h : Rt s e) (i : Int) (h0 : e.f0 + e.f1 ≤ i) (_h1 : i < s.size) : bt (put s e) (i - e.f1 + e.f2.size) = bt s i := by
  obtain ⟨q1, q2, q3, q4⟩ := h
  have hs := B_len s
  have hi := B_len e.f2
  have l1 : ((B s).take e.f0.toNat ++ B e.f2).length = e.f0.toNat + e.f2.size := by rw [List.length_append, List.length_take, hi]; omega
  rw [bt_B, bt_B, B_put, List.getElem?_append_right (by rw [l1]; omega), l1, List.getElem?_drop, show (e.f0 + e.f1).toNat + ((i - e.f1 + e.f2.size).toNat - (e.f0.toNat + e.f2.size)) = i.toNat by omega]
def shift (e : S32) (p : Int) : Int × Bool :=
  if (0 ≤ e.f0 ∧ e.f0 ≤ 65536 ∧ 0 ≤ e.f1 ∧ e.f1 ≤ 65536 ∧ e.f2.size ≤ 65536) ∧ 0 ≤ p ∧ p ≤ 65536 then (if p ≤ e.f0 then (p, true) else if e.f0 + e.f1 ≤ p then (p - e.f1 + e.f2.size, true) else (0, false)) else (0, false)
theorem small_eq (e : S32) : edit_small.f e.f0 e.f1 e.f2 = some (decide (0 ≤ e.f0 ∧ e.f0 ≤ 65536 ∧ 0 ≤ e.f1 ∧ e.f1 ≤ 65536 ∧ e.f2.size ≤ 65536)) := by
  unfold edit_small.f
  by_cases h1 : e.f0 ≥ 0
  · by_cases h2 : e.f0 ≤ 65536
    · by_cases h3 : e.f1 ≥ 0
      · by_cases h4 : e.f1 ≤ 65536
        · rw [if_pos h1, if_pos h2, if_pos h3, if_pos h4]
          congr 1
          exact decide_eq_decide.2 (by omega)
        · rw [if_pos h1, if_pos h2, if_pos h3, if_neg h4]
          congr 1
          exact (decide_eq_false (by omega)).symm
      · rw [if_pos h1, if_pos h2, if_neg h3]
        congr 1
        exact (decide_eq_false (by omega)).symm
    · rw [if_pos h1, if_neg h2]
      congr 1
      exact (decide_eq_false (by omega)).symm
  · rw [if_neg h1]
    congr 1
    exact (decide_eq_false (by omega)).symm
theorem shift_j (e : S32) (p : Int) (k : Nat) (b : Bool) (hb : b = true ↔ ¬ ((0 ≤ e.f0 ∧ e.f0 ≤ 65536 ∧ 0 ≤ e.f1 ∧ e.f1 ≤ 65536 ∧ e.f2.size ≤ 65536) ∧ 0 ≤ p ∧ p ≤ 65536)) : edit_Shift.j0 (k + 1) p b e.f0 e.f1 e.f2 = some (shift e p) := by
  simp only [edit_Shift.j0, shift]
  by_cases h : (0 ≤ e.f0 ∧ e.f0 ≤ 65536 ∧ 0 ≤ e.f1 ∧ e.f1 ≤ 65536 ∧ e.f2.size ≤ 65536) ∧ 0 ≤ p ∧ p ≤ 65536
  · rw [if_pos h, if_neg (fun q => hb.1 q h), w64 (n := e.f0 + e.f1) (by omega) (by omega), w64 (n := p - e.f1) (by omega) (by omega), w64 (n := p - e.f1 + e.f2.size) (by omega) (by omega)]
    by_cases h1 : p ≤ e.f0
    · rw [if_pos h1, if_pos h1]
    · rw [if_neg h1, if_neg h1]
      by_cases h2 : e.f0 + e.f1 ≤ p
      · rw [if_pos h2, if_pos h2]
      · rw [if_neg h2, if_neg h2]
  · rw [if_neg h, if_pos (hb.2 h)]
theorem shift_eq (e : S32) (p : Int) (k : Nat) : edit_Shift.f (k + 1) e.f0 e.f1 e.f2 p = some (shift e p) := by
  unfold edit_Shift.f
  rw [small_eq]
  simp only [Option.bind_some]
  by_cases h : 0 ≤ e.f0 ∧ e.f0 ≤ 65536 ∧ 0 ≤ e.f1 ∧ e.f1 ≤ 65536 ∧ e.f2.size ≤ 65536
  · rw [if_pos (decide_eq_true h)]
    by_cases h1 : p < 0
    · rw [if_pos h1]
      exact shift_j e p k true ⟨fun _ q => by omega, fun _ => rfl⟩
    · rw [if_neg h1]
      exact shift_j e p k _ ⟨fun q r => by have := of_decide_eq_true q; omega, fun q => decide_eq_true (by omega)⟩
  · rw [if_neg (by rw [decide_eq_false h]; decide)]
    exact shift_j e p k true ⟨fun _ q => h q.1, fun _ => rfl⟩
end Go.Proofs.Ytfofdmoakjkndaa.Pure
