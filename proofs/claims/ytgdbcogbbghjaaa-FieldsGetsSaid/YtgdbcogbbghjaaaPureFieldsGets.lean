/- The results of Get for all fields partition the flattened children that have one: of every grammar and every node that the law speaks of. -/
import Derived.Test.YtgdbcogbbghjaaaQf7
import Derived.Test.YtgdbcogbbghjaaaQOp
import Derived.Test.YtgdbcogbbghjaaaPuB
namespace Go.Proofs.Ytgdbcogbbghjaaa.Pure
open Go.RowKit Go.Proofs.Ytgdbcogbbghjaaa.Q Go.Proofs.YtgdbcogbbghjaaaW.PrintWords Go.Proofs.YtgdbcogbbghjaaaW.PrintLast Go.Proofs.Ytgdbcogbbghjaaa.Op
open Hand (It Gr kidsF kidsL cloneB nodesOf kidsOf pathsOf fieldsOf getOf kidsF_mono fieldsOf_mono getOf_mono)

theorem get_eq (k : Nat) (g : Gr) (n : S32) (s : ByteArray) : fields_Get.f k g.g0 g.g1 g.g2 g.g3 g.g4 n.f0 n.f1 n.f2 n.f3 n.f4 n.f5 n.f6 s = getOf k g n s := by unfold fields_Get.f; cases n; cases g; rfl
theorem fields_eq (k : Nat) (g : Gr) (n : S32) : fields_Fields.f k g.g0 g.g1 g.g2 g.g3 g.g4 n.f0 n.f1 n.f2 n.f3 n.f4 n.f5 n.f6 = fieldsOf k g n := by unfold fields_Fields.f; cases n; cases g; rfl
theorem knows_ev : Ev (fun k => arboristlaw46_knows.f k) true := ⟨10, fun _ hk => if_pos hk⟩
/-- What a node that the law speaks of has: its flattened children. -/
theorem its_of {k : Nat} {n : S32} {t : Int} (g : Gr) (h : NF k n 300 = some t) (ht : t < 300) : ∃ e its, kidsF e g n [] ⟨#[]⟩ = some its ∧ its.length < 300 ∧ ∀ it ∈ its, cloneB e it.node = true ∧ it.path.length ≤ 1000 := by
  obtain ⟨_, h2⟩ := spec k n 300 t h (by omega) (by omega)
  obtain ⟨hs, hc⟩ := h2 ht
  obtain ⟨e, he, hse, hce⟩ := small_low k n 300 hs (by omega)
  obtain ⟨its, h4, h5, h6⟩ := kidsF_some e g n [] ⟨#[]⟩ hse (by simp; omega)
  exact ⟨e, its, h4, by omega, fun it hit => ⟨small_clone _ _ (h6 it hit).1, (h6 it hit).2⟩⟩

section
variable (X : List (List UInt8))
def cntA (i : Nat) : Nat := (X.take i).countP fun v => decide (v ≠ [])
def cntG (i : Nat) : Nat := X.countP fun v => decide (v ≠ [] ∧ v ∈ X.take i)
theorem take_one {i : Nat} (h : i < X.length) : X.take (i + 1) = X.take i ++ [X[i]] := by rw [List.take_succ_eq_append_getElem h]
theorem cntA_succ {i : Nat} (h : i < X.length) : cntA X (i + 1) = cntA X i + if X[i] = [] then 0 else 1 := by
  unfold cntA
  rw [take_one X h, List.countP_append]
  by_cases e : X[i] = [] <;> simp [e]
theorem cntG_old {i : Nat} (h : i < X.length) (ho : X[i] = [] ∨ X[i] ∈ X.take i) : cntG X (i + 1) = cntG X i := by
  unfold cntG
  congr 1
  funext v
  rw [take_one X h]
  generalize X.take i = P at ho ⊢
  generalize X[i] = y at ho ⊢
  by_cases hv : v = y
  · subst hv
    rcases ho with ho | ho
    · simp [ho]
    · simp [ho]
  · simp [hv]
theorem cntG_new {i : Nat} (h : i < X.length) (hn : X[i] ≠ []) (ho : X[i] ∉ X.take i) : cntG X (i + 1) = cntG X i + X.countP fun v => v == X[i] := by
  unfold cntG
  rw [take_one X h]
  have key : ∀ l : List (List UInt8), l.countP (fun v => decide (v ≠ [] ∧ v ∈ X.take i ++ [X[i]])) = l.countP (fun v => decide (v ≠ [] ∧ v ∈ X.take i)) + l.countP (fun v => v == X[i]) := by
    generalize X.take i = P at ho ⊢
    generalize X[i] = y at ho hn ⊢
    intro l
    induction l with
    | nil => rfl
    | cons v l ih =>
      rw [List.countP_cons, List.countP_cons, List.countP_cons, ih]
      by_cases hv : v = y
      · rw [hv, if_pos (by simp [hn]), if_neg (by simp [ho]), if_pos (by simp)]
        omega
      · have e1 : decide (v ≠ [] ∧ v ∈ P ++ [y]) = decide (v ≠ [] ∧ v ∈ P) := by simp [hv]
        rw [e1, if_neg (show ¬ ((v == y) = true) by simpa using hv)]
        omega
  exact key X
theorem cntA_le (i : Nat) : cntA X i ≤ X.length := Nat.le_trans List.countP_le_length (by simp; omega)
theorem cntG_le (i : Nat) : cntG X i ≤ X.length := List.countP_le_length
theorem cnt_end : cntA X X.length = cntG X X.length := by
  unfold cntA cntG
  rw [List.take_length]
  exact List.countP_congr fun v hv => by simp [hv]
end

section
variable (g : Gr) (n : S32) (e : Nat) (its : List It) (hits : kidsF e g n [] ⟨#[]⟩ = some its) (hl : its.length < 300) (hall : ∀ it ∈ its, cloneB e it.node = true ∧ it.path.length ≤ 1000)
def Xs (its : List It) : List (List UInt8) := its.map (·.fld.toList)
theorem rd_F {its : List It} {i : Nat} (h : i < its.length) : (rdOf ByteArray.empty (its.map (·.fld)) (i : Int)).toList = (Xs its)[i]'(by simpa [Xs] using h) := by
  simp [rdOf, Xs, h]
include hits hl hall in
theorem get_ev (s : ByteArray) (hs : s.toList ≠ []) : ∃ l : List S32, Ev (fun k => getOf k g n s) l ∧ l.length = (Xs its).countP fun v => v == s.toList := by
  refine ⟨(its.filter fun it => it.fld.toList == s.toList).map (·.node), Ev.of (k := e) (fun k => getOf_mono k g n s) ?_, ?_⟩
  · unfold getOf
    rw [if_neg hs, hits, Option.bind_some]
    unfold nodesOf
    exact if_pos ⟨Nat.lt_of_le_of_lt (List.length_filter_le _ _) (by omega), List.all_eq_true.2 fun it hit => (hall it (List.mem_filter.1 hit).1).1⟩
  · rw [List.length_map, ← List.countP_eq_length_filter, Xs, List.countP_map]
    rfl
include hits hl hall in
theorem l0_gets : ∀ (d i : Nat), i + d = its.length → Ev (fun k => arboristlaw46_FieldsGets_.l0 k (its.map (·.fld)) (cntA (Xs its) i : Int) (cntG (Xs its) i : Int) (i : Int) g.g0 g.g1 g.g2 g.g3 g.g4 n.f0 n.f1 n.f2 n.f3 n.f4 n.f5 n.f6) true := by
  have hX : (Xs its).length = its.length := by simp [Xs]
  intro d
  induction d with
  | zero =>
    intro i hi
    obtain rfl : i = its.length := by omega
    have h0 : Ev (fun k => getOf k g n ⟨#[]⟩) [] := ⟨0, fun k _ => if_pos (show (⟨#[]⟩ : ByteArray).toList = [] from by simp [ByteArray.toList, ByteArray.toList.loop, ByteArray.size])⟩
    refine Ev.step (fun k => ?_) (Ev.bind (f := fun k (t : List S32) => if (t.length : Int) = 0 then ((arboristlaw46_knows.f k).bind fun t443 => some t443) else some false) h0 (Ev.congr (fun k => ?_) (Ev.bind (f := fun _ t => some t) knows_ev (Ev.now _))))
    · simp only [arboristlaw46_FieldsGets_.l0]
      rw [if_neg (by simp), if_pos (by rw [← hX, cnt_end]), ← get_eq]
    · rfl
  | succ d ih =>
    intro i hi
    have hin : i < its.length := by omega
    have hiX : i < (Xs its).length := by omega
    have hrd := rd_F hin
    have a1 := cntA_le (Xs its) i
    have a2 := cntG_le (Xs its) i
    have a3 := cntG_le (Xs its) (i + 1)
    have hA := cntA_succ (Xs its) hiX
    have hnext := ih (i + 1) (by omega)
    by_cases hv : (Xs its)[i] = []
    · refine Ev.step (fun k => ?_) hnext
      simp only [arboristlaw46_FieldsGets_.l0]
      rw [if_pos (by simpa using hin), if_pos (by omega), if_pos (by rw [hrd]; exact hv), w64 (by omega) (by omega), cntG_old _ hiX (.inl hv), hA, if_pos hv]
      rfl
    · -- the inner loop
      have inner : ∀ (q j : Nat), j + q = i → Ev (fun k => arboristlaw46_FieldsGets_.l1 k (its.map (·.fld)) ((cntA (Xs its) i : Int) + 1) (cntG (Xs its) i : Int) (i : Int) (decide ((Xs its)[i] ∉ (Xs its).take j)) (j : Int) g.g0 g.g1 g.g2 g.g3 g.g4 n.f0 n.f1 n.f2 n.f3 n.f4 n.f5 n.f6) true := by
        intro q
        induction q with
        | zero =>
          intro j hj
          obtain rfl : j = i := by omega
          by_cases ho : (Xs its)[j] ∈ (Xs its).take j
          · refine Ev.step (fun k => ?_) hnext
            simp only [arboristlaw46_FieldsGets_.l1]
            rw [if_neg (by omega), if_neg (by simpa using ho), w64 (by omega) (by omega), cntG_old _ hiX (.inr ho), hA, if_neg hv]
            rfl
          · obtain ⟨l, hl1, hl2⟩ := get_ev g n e its hits hl hall (rdOf ByteArray.empty (its.map (·.fld)) (j : Int)) (by rw [hrd]; exact hv)
            rw [hrd] at hl2
            have hG := cntG_new _ hiX hv ho
            refine Ev.step (fun k => ?_) (Ev.bind (f := fun k (t : List S32) => arboristlaw46_FieldsGets_.l0 k (its.map (·.fld)) ((cntA (Xs its) j : Int) + 1) (wrap64 ((cntG (Xs its) j : Int) + (t.length : Int))) ((j + 1 : Nat) : Int) g.g0 g.g1 g.g2 g.g3 g.g4 n.f0 n.f1 n.f2 n.f3 n.f4 n.f5 n.f6) hl1 (Ev.congr (fun k => ?_) hnext))
            · simp only [arboristlaw46_FieldsGets_.l1]
              rw [if_neg (by omega), if_pos (by simpa using ho), if_pos (by omega), if_pos (by simpa using hin), w64 (n := (j : Int) + 1) (by omega) (by omega), ← get_eq]
              rfl
            · show arboristlaw46_FieldsGets_.l0 k _ _ (wrap64 _) _ _ _ _ _ _ _ _ _ _ _ _ _ = _
              rw [w64 (by omega) (by omega), hA, if_neg hv, hG, hl2]
              rfl
        | succ q ihq =>
          intro j hj
          have hjX : j < (Xs its).length := by omega
          have hjn : j < its.length := by omega
          refine Ev.step (fun k => ?_) (ihq (j + 1) (by omega))
          simp only [arboristlaw46_FieldsGets_.l1]
          rw [if_pos (by omega)]
          by_cases ho : (Xs its)[i] ∈ (Xs its).take j
          · rw [if_neg (by simpa using ho), w64 (by omega) (by omega), show decide ((Xs its)[i] ∉ (Xs its).take (j + 1)) = false from decide_eq_false (fun h => h (by rw [take_one _ hjX]; exact List.mem_append_left _ ho))]
            rfl
          · rw [if_pos (by simpa using ho), if_pos (by omega), if_pos (by simpa using hjn), if_pos (by omega), if_pos (by simpa using hin), rd_F hjn, hrd, w64 (by omega) (by omega)]
            rw [show ((Xs its)[j] != (Xs its)[i]) = decide ((Xs its)[i] ∉ (Xs its).take (j + 1)) from ?_]
            · rfl
            · rw [take_one _ hjX, Bool.eq_iff_iff]
              simp only [bne_iff_ne, ne_eq, decide_eq_true_eq, List.mem_append, List.mem_singleton, not_or]
              exact ⟨fun h => ⟨ho, fun e => h e.symm⟩, fun h e => h.2 e.symm⟩
      refine Ev.step (fun k => ?_) (inner i 0 (by omega))
      simp only [arboristlaw46_FieldsGets_.l0]
      rw [if_pos (by simpa using hin), if_pos (by omega), if_neg (by rw [hrd]; exact hv), w64 (by omega) (by omega)]
      simp
end

theorem FieldsGets : ∀ (x0 : S27) (x1 : S32), W27 x0 → W32 x1 → ∃ k, arboristlaw46_FieldsGets.f k x0.f0 x0.f1 x0.f2 x0.f3 x0.f4 x1.f0 x1.f1 x1.f2 x1.f3 x1.f4 x1.f5 x1.f6 = some true := by
  intro x0 n _ _
  have hk : ∀ g : Gr, Ev (fun k => arboristlaw46_FieldsGets_.j0 k true g.g0 g.g1 g.g2 g.g3 g.g4 n.f0 n.f1 n.f2 n.f3 n.f4 n.f5 n.f6) true := fun g =>
    Ev.step (fun k => by simp only [arboristlaw46_FieldsGets_.j0, if_true]) (Ev.bind (f := fun _ t => some t) knows_ev (Ev.now _))
  have main : ∀ g : Gr, Ev (fun k => arboristlaw46_FieldsGets_.f k g.g0 g.g1 g.g2 g.g3 g.g4 n.f0 n.f1 n.f2 n.f3 n.f4 n.f5 n.f6) true := by
    intro g
    obtain ⟨b, hb⟩ := few_ev g
    unfold arboristlaw46_FieldsGets_.f
    refine Ev.bind (f := fun k t => if t = true then ((arboristlaw46_Nodes.f k n.f0 n.f1 n.f2 n.f3 n.f4 n.f5 n.f6 300).bind fun t435 => (arboristlaw46_FieldsGets_.j0 k (decide (t435 ≥ 300)) g.g0 g.g1 g.g2 g.g3 g.g4 n.f0 n.f1 n.f2 n.f3 n.f4 n.f5 n.f6)) else (arboristlaw46_FieldsGets_.j0 k true g.g0 g.g1 g.g2 g.g3 g.g4 n.f0 n.f1 n.f2 n.f3 n.f4 n.f5 n.f6)) hb ?_
    cases b with
    | false => exact Ev.congr (fun k => if_neg (by decide)) (hk g)
    | true =>
      refine Ev.congr (fun k => if_pos rfl) ?_
      obtain ⟨t, ht⟩ := nodes_ev 300 (by omega) n 300 (by omega) (by omega)
      refine Ev.bind (f := fun k t435 => arboristlaw46_FieldsGets_.j0 k (decide (t435 ≥ 300)) g.g0 g.g1 g.g2 g.g3 g.g4 n.f0 n.f1 n.f2 n.f3 n.f4 n.f5 n.f6) ht ?_
      by_cases h3 : t ≥ 300
      · rw [decide_eq_true h3]
        exact hk g
      · rw [decide_eq_false h3]
        obtain ⟨k, hkk⟩ := ht.rounds
        obtain ⟨e, its, hits, hl, hall⟩ := its_of g hkk (by omega)
        have hF : Ev (fun k => fieldsOf k g n) (its.map (·.fld)) := Ev.of (k := e) (fun k => fieldsOf_mono k g n) (by unfold fieldsOf; rw [hits, Option.bind_some, if_pos (by omega)])
        refine Ev.step (fun k => ?_) (Ev.bind (f := fun k t437 => arboristlaw46_FieldsGets_.l0 k t437 0 0 0 g.g0 g.g1 g.g2 g.g3 g.g4 n.f0 n.f1 n.f2 n.f3 n.f4 n.f5 n.f6) hF ?_)
        · simp only [arboristlaw46_FieldsGets_.j0]
          rw [if_neg (by decide), ← fields_eq]
        · have := l0_gets g n e its hits hl hall its.length 0 (by omega)
          rw [show cntA (Xs its) 0 = 0 from rfl, show cntG (Xs its) 0 = 0 from by simp [cntG]] at this
          exact this
  obtain ⟨k, hkk⟩ := (main ⟨x0.f0, x0.f1, x0.f2, x0.f3, x0.f4⟩).rounds
  refine ⟨k, ?_⟩
  unfold arboristlaw46_FieldsGets.f
  rw [hkk]
  rfl
end Go.Proofs.Ytgdbcogbbghjaaa.Pure
