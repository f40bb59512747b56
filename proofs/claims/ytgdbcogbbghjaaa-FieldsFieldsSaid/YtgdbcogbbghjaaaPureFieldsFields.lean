import Derived.Test.YtgdbcogbbghjaaaQf4
import Derived.Test.YtgdbcogbbghjaaaQOp
import Derived.Test.YtgdbcogbbghjaaaPuE
set_option linter.unusedVariables false
namespace Go.Proofs.Ytgdbcogbbghjaaa.Pure
open Go.RowKit Go.Proofs.Ytgdbcogbbghjaaa.Q Go.Proofs.YtgdbcogbbghjaaaW.PrintWords Go.Proofs.YtgdbcogbbghjaaaW.PrintLast Go.Proofs.Ytgdbcogbbghjaaa.Op
open Hand (It Gr kidsF kidsL cloneB nodesOf kidsOf pathsOf fieldsOf getOf kidsF_mono fieldsOf_mono pathsOf_mono kidsOf_mono getOf_mono)
theorem knows_ev : Ev (fun k => arboristlaw46_knows.f k) true := ⟨10, fun _ hk => if_pos hk⟩
theorem get_eq (k : Nat) (g : Gr) (n : S32) (s : ByteArray) : fields_Get.f k g.g0 g.g1 g.g2 g.g3 g.g4 n.f0 n.f1 n.f2 n.f3 n.f4 n.f5 n.f6 s = getOf k g n s := by unfold fields_Get.f; cases n; cases g; rfl
theorem fields_eq (k : Nat) (g : Gr) (n : S32) : fields_Fields.f k g.g0 g.g1 g.g2 g.g3 g.g4 n.f0 n.f1 n.f2 n.f3 n.f4 n.f5 n.f6 = fieldsOf k g n := by unfold fields_Fields.f; cases n; cases g; rfl
theorem fieldsL_ev (t : List S65) (ht : t.length < 300) : ∀ (q i : Nat), i + q = t.length → Ev (fun k => arboristref46_Fields.l0 k t ((t.take i).map (·.f2)) (i : Int)) (t.map (·.f2)) := by
  intro q
  induction q with
  | zero =>
    intro i hi
    obtain rfl : i = t.length := by omega
    rw [List.take_length]
    exact Ev.step (f := fun _ => some _) (fun k => by simp only [arboristref46_Fields.l0]; rw [if_neg (by omega)]) (Ev.now _)
  | succ q ih =>
    intro i hi
    have hi' : i < t.length := by omega
    refine Ev.step (fun k => ?_) (ih (i + 1) (by omega))
    simp only [arboristref46_Fields.l0]
    rw [if_pos (by omega), if_pos (by omega), if_pos (by simp; omega), rd65 hi', w64 (by omega) (by omega), take_snoc _ _ hi']
    rfl
theorem getL_ev (s : ByteArray) (t : List S65) (ht : t.length < 300) : ∀ (q i : Nat), i + q = t.length → Ev (fun k => arboristref46_Get.l0 k s t (((t.take i).filter fun a => decide (s.toList ≠ [] ∧ a.f2.toList = s.toList)).map (·.f0)) (i : Int)) ((t.filter fun a => decide (s.toList ≠ [] ∧ a.f2.toList = s.toList)).map (·.f0)) := by
  intro q
  induction q with
  | zero =>
    intro i hi
    obtain rfl : i = t.length := by omega
    rw [List.take_length]
    exact Ev.step (f := fun _ => some _) (fun k => by simp only [arboristref46_Get.l0]; rw [if_neg (by omega)]) (Ev.now _)
  | succ q ih =>
    intro i hi
    have hi' : i < t.length := by omega
    have hn := ih (i + 1) (by omega)
    rw [List.take_succ_eq_append_getElem hi', List.filter_append, List.map_append] at hn
    have hle := List.length_filter_le (fun a : S65 => decide (s.toList ≠ [] ∧ a.f2.toList = s.toList)) (t.take i)
    rw [List.length_take] at hle
    refine Ev.step (fun k => ?_) hn
    simp only [arboristref46_Get.l0]
    rw [if_pos (by omega), w64 (by omega) (by omega)]
    by_cases h1 : s.toList = []
    · rw [if_pos h1, List.filter_cons_of_neg (by simp [h1])]
      simp
    · rw [if_neg h1, if_pos (by omega), rd65 hi']
      by_cases h2 : t[i].f2.toList = s.toList
      · rw [if_pos h2, if_pos (by rw [List.length_map]; omega), eta32, List.filter_cons_of_pos (by simp [h1, h2])]
        rfl
      · rw [if_neg h2, List.filter_cons_of_neg (by simp [h2])]
        simp
theorem cmp_ev (l : List ByteArray) (hl : l.length < 300) : ∀ (q i : Nat), i + q = l.length → Ev (fun k => arboristlaw46_FieldsFields_.l0 k l l (i : Int)) true := by
  intro q
  induction q with
  | zero =>
    intro i hi
    refine Ev.step (fun k => ?_) (Ev.bind (f := fun _ t => some t) knows_ev (Ev.now _))
    simp only [arboristlaw46_FieldsFields_.l0]
    rw [if_neg (by omega)]
  | succ q ih =>
    intro i hi
    refine Ev.step (fun k => ?_) (ih (i + 1) (by omega))
    simp only [arboristlaw46_FieldsFields_.l0]
    rw [if_pos (by omega), if_pos (by omega), if_pos (by omega), if_pos trivial, w64 (by omega) (by omega)]
    rfl
section
variable (g : Gr) (n : S32) (s : ByteArray)
abbrev J0 (k : Nat) (b : Bool) : Option Bool := arboristlaw46_FieldsFields_.j0 k s b g.g0 g.g1 g.g2 g.g3 g.g4 n.f0 n.f1 n.f2 n.f3 n.f4 n.f5 n.f6
theorem j0_ev (hg : g.g2.length < 1000) (hg1 : g.g1.length ≤ 9223372036854775807) (hW : W32 n) (e : Nat) (its : List It) (hits : kidsF e g n [] ⟨#[]⟩ = some its) (hl : its.length < 300) (hall : ∀ it ∈ its, small e it.node = true ∧ it.path.length ≤ 1000) (hse : small e n = true) (he : e ≤ 1000) : Ev (fun k => J0 g n s k false) true := by
  have hF : Ev (fun k => fieldsOf k g n) (its.map (·.fld)) := Ev.of (k := e) (fun k => fieldsOf_mono k g n) (by unfold fieldsOf; rw [hits, Option.bind_some, if_pos (by omega)])
  have hA := all_ev g hg hg1 e n hW hse [] ⟨#[]⟩ its (by simpa using he) hits (by omega)
  have htl : (its.map toA).length = its.length := by simp
  have hRF : Ev (fun k => arboristref46_Fields.f k g.g0 g.g1 g.g2 g.g3 g.g4 n.f0 n.f1 n.f2 n.f3 n.f4 n.f5 n.f6) (its.map (·.fld)) := by
    have := fieldsL_ev (its.map toA) (by omega) (its.map toA).length 0 (by omega)
    have h2 := Ev.bind (f := fun k t => arboristref46_Fields.l0 k t [] 0) hA this
    rw [List.map_map] at h2
    unfold arboristref46_Fields.f
    exact h2
  obtain ⟨l, hG, hll, hls⟩ : ∃ l : List S32, (Ev (fun k => getOf k g n s) l ∧ Ev (fun k => arboristref46_Get.f k g.g0 g.g1 g.g2 g.g3 g.g4 n.f0 n.f1 n.f2 n.f3 n.f4 n.f5 n.f6 s) l) ∧ l.length < 300 ∧ ∀ y ∈ l, small e y = true := by
    have h2 := Ev.bind (f := fun k t => arboristref46_Get.l0 k s t [] 0) hA (getL_ev s (its.map toA) (by omega) (its.map toA).length 0 (by omega))
    have hle := List.length_filter_le (fun a : S65 => decide (s.toList ≠ [] ∧ a.f2.toList = s.toList)) (its.map toA)
    refine ⟨_, ⟨?_, by unfold arboristref46_Get.f; exact h2⟩, by rw [List.length_map]; omega, ?_⟩
    · refine Ev.of (k := e) (fun k => getOf_mono k g n s) ?_
      unfold getOf
      by_cases h1 : s.toList = []
      · rw [if_pos h1]
        congr 1
        rw [List.filter_eq_nil_iff.2 (fun a _ => by simp [h1])]
        rfl
      · rw [if_neg h1, hits, Option.bind_some]
        unfold nodesOf
        rw [if_pos ⟨Nat.lt_of_le_of_lt (List.length_filter_le _ _) (by omega), List.all_eq_true.2 fun it hit => small_clone _ _ (hall it (List.mem_filter.1 hit).1).1⟩]
        congr 1
        rw [List.filter_map, List.map_map]
        congr 1
        refine List.filter_congr fun it _ => ?_
        rw [Bool.eq_iff_iff]
        simp [toA, h1]
        exact (decide_eq_true_iff).symm
    · intro y hy
      obtain ⟨a, ha, rfl⟩ := List.mem_map.1 hy
      obtain ⟨it, hit, rfl⟩ := List.mem_map.1 (List.mem_filter.1 ha).1
      exact (hall it hit).1
  have hfl : (its.map (·.fld)).length < 300 := by simp; omega
  have hlast : Ev (fun k => arboristlaw46_FieldsFields_.j1 k (its.map (·.fld)) (its.map (·.fld)) (!true)) true :=
    Ev.step (fun k => by simp only [arboristlaw46_FieldsFields_.j1]; rw [if_neg (by decide)]; rfl) (cmp_ev _ hfl (its.map (·.fld)).length 0 (by omega))
  refine Ev.step (fun k => ?_) (Ev.bind (f := fun k t290 => (arboristref46_Fields.f k g.g0 g.g1 g.g2 g.g3 g.g4 n.f0 n.f1 n.f2 n.f3 n.f4 n.f5 n.f6).bind fun t293 => (if (t290.length : Int) = (t293.length : Int) then ((getOf k g n s).bind fun t296 => ((arboristref46_Get.f k g.g0 g.g1 g.g2 g.g3 g.g4 n.f0 n.f1 n.f2 n.f3 n.f4 n.f5 n.f6 s).bind fun t299 => ((arboristlaw46_sameNodes.f k t296 t299).bind fun t302 => (arboristlaw46_FieldsFields_.j1 k t290 t293 (!t302))))) else (arboristlaw46_FieldsFields_.j1 k t290 t293 true))) hF
    (Ev.bind (f := fun k t293 => (if ((its.map (·.fld)).length : Int) = (t293.length : Int) then ((getOf k g n s).bind fun t296 => ((arboristref46_Get.f k g.g0 g.g1 g.g2 g.g3 g.g4 n.f0 n.f1 n.f2 n.f3 n.f4 n.f5 n.f6 s).bind fun t299 => ((arboristlaw46_sameNodes.f k t296 t299).bind fun t302 => (arboristlaw46_FieldsFields_.j1 k (its.map (·.fld)) t293 (!t302))))) else (arboristlaw46_FieldsFields_.j1 k (its.map (·.fld)) t293 true))) hRF
    (Ev.congr (fun k => if_pos rfl) (Ev.bind (f := fun k t296 => ((arboristref46_Get.f k g.g0 g.g1 g.g2 g.g3 g.g4 n.f0 n.f1 n.f2 n.f3 n.f4 n.f5 n.f6 s).bind fun t299 => ((arboristlaw46_sameNodes.f k t296 t299).bind fun t302 => (arboristlaw46_FieldsFields_.j1 k (its.map (·.fld)) (its.map (·.fld)) (!t302))))) hG.1
    (Ev.bind (f := fun k t299 => ((arboristlaw46_sameNodes.f k l t299).bind fun t302 => (arboristlaw46_FieldsFields_.j1 k (its.map (·.fld)) (its.map (·.fld)) (!t302)))) hG.2
    (Ev.bind (f := fun k t302 => (arboristlaw46_FieldsFields_.j1 k (its.map (·.fld)) (its.map (·.fld)) (!t302))) (sameNodes_ev e l hll hls) hlast))))))
  simp only [J0, arboristlaw46_FieldsFields_.j0]
  rw [if_neg (by decide), fields_eq]
  simp only [get_eq]
end
theorem FieldsFields : ∀ (x0 : S27) (x1 : S32) (x2 : ByteArray), x0.f1.length ≤ 9223372036854775807 → W32 x1 → ∃ k, arboristlaw46_FieldsFields.f k x0.f0 x0.f1 x0.f2 x0.f3 x0.f4 x1.f0 x1.f1 x1.f2 x1.f3 x1.f4 x1.f5 x1.f6 x2 = some true := by
  intro x0 n s hg1 hW
  have hk : ∀ g : Gr, Ev (fun k => J0 g n s k true) true := fun g =>
    Ev.step (fun k => by simp only [J0, arboristlaw46_FieldsFields_.j0, if_true]) (Ev.bind (f := fun _ t => some t) knows_ev (Ev.now _))
  have main : ∀ g : Gr, g.g1.length ≤ 9223372036854775807 → Ev (fun k => arboristlaw46_FieldsFields_.f k g.g0 g.g1 g.g2 g.g3 g.g4 n.f0 n.f1 n.f2 n.f3 n.f4 n.f5 n.f6 s) true := by
    intro g hg1
    obtain ⟨b, hb⟩ := few_ev g
    unfold arboristlaw46_FieldsFields_.f
    refine Ev.bind (f := fun k t => if t = true then ((arboristlaw46_Nodes.f k n.f0 n.f1 n.f2 n.f3 n.f4 n.f5 n.f6 300).bind fun t435 => J0 g n s k (decide (t435 ≥ 300))) else J0 g n s k true) hb ?_
    cases b with
    | false => exact Ev.congr (fun k => if_neg (by decide)) (hk g)
    | true =>
      refine Ev.congr (fun k => if_pos rfl) ?_
      obtain ⟨t, ht⟩ := nodes_ev 300 (by omega) n 300 (by omega) (by omega)
      refine Ev.bind (f := fun k t435 => J0 g n s k (decide (t435 ≥ 300))) ht ?_
      by_cases h3 : t ≥ 300
      · rw [decide_eq_true h3]
        exact hk g
      · rw [decide_eq_false h3]
        obtain ⟨k0, hk0⟩ := hb.rounds
        have hg := few_true hk0
        obtain ⟨k, hkk⟩ := ht.rounds
        obtain ⟨e, its, hits, hl, hall, hse, he⟩ := its_of' g hkk (by omega)
        exact j0_ev g n s hg hg1 hW e its hits hl hall hse he
  obtain ⟨k, hkk⟩ := (main ⟨x0.f0, x0.f1, x0.f2, x0.f3, x0.f4⟩ hg1).rounds
  refine ⟨k, ?_⟩
  unfold arboristlaw46_FieldsFields.f
  rw [hkk]
  rfl
end Go.Proofs.Ytgdbcogbbghjaaa.Pure
