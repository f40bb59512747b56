import Derived.Test.YtgdbcogbbghjaaaQf3
import Derived.Test.YtgdbcogbbghjaaaQOp
import Derived.Test.YtgdbcogbbghjaaaPuE
set_option linter.unusedVariables false
namespace Go.Proofs.Ytgdbcogbbghjaaa.Pure
open Go.RowKit Go.Proofs.Ytgdbcogbbghjaaa.Q Go.Proofs.YtgdbcogbbghjaaaW.PrintWords Go.Proofs.YtgdbcogbbghjaaaW.PrintLast Go.Proofs.Ytgdbcogbbghjaaa.Op
open Hand (It Gr kidsF kidsL cloneB nodesOf kidsOf pathsOf fieldsOf getOf kidsF_mono fieldsOf_mono pathsOf_mono kidsOf_mono getOf_mono)
theorem knows_ev : Ev (fun k => arboristlaw46_knows.f k) true := ⟨10, fun _ hk => if_pos hk⟩
theorem kids_eq (k : Nat) (g : Gr) (n : S32) : fields_Kids.f k g.g0 g.g1 g.g2 g.g3 g.g4 n.f0 n.f1 n.f2 n.f3 n.f4 n.f5 n.f6 = kidsOf k g n := by unfold fields_Kids.f; cases n; cases g; rfl
theorem paths_eq (k : Nat) (g : Gr) (n : S32) : fields_Paths.f k g.g0 g.g1 g.g2 g.g3 g.g4 n.f0 n.f1 n.f2 n.f3 n.f4 n.f5 n.f6 = pathsOf k g n := by unfold fields_Paths.f; cases n; cases g; rfl
theorem pathsL_ev (t : List S65) (ht : t.length < 300) : ∀ (q i : Nat), i + q = t.length → Ev (fun k => arboristref46_Paths.l0 k t ((t.take i).map (·.f1)) (i : Int)) (t.map (·.f1)) := by
  intro q
  induction q with
  | zero =>
    intro i hi
    obtain rfl : i = t.length := by omega
    rw [List.take_length]
    exact Ev.step (f := fun _ => some _) (fun k => by simp only [arboristref46_Paths.l0]; rw [if_neg (by omega)]) (Ev.now _)
  | succ q ih =>
    intro i hi
    have hi' : i < t.length := by omega
    refine Ev.step (fun k => ?_) (ih (i + 1) (by omega))
    simp only [arboristref46_Paths.l0]
    rw [if_pos (by omega), if_pos (by omega), if_pos (by simp; omega), rd65 hi', w64 (by omega) (by omega), take_snoc _ _ hi']
    rfl
theorem kidsR_ev (t : List S65) (ht : t.length < 300) : ∀ (q i : Nat), i + q = t.length → Ev (fun k => arboristref46_Kids.l0 k t ((t.take i).map (·.f0)) (i : Int)) (t.map (·.f0)) := by
  intro q
  induction q with
  | zero =>
    intro i hi
    obtain rfl : i = t.length := by omega
    rw [List.take_length]
    exact Ev.step (f := fun _ => some _) (fun k => by simp only [arboristref46_Kids.l0]; rw [if_neg (by omega)]) (Ev.now _)
  | succ q ih =>
    intro i hi
    have hi' : i < t.length := by omega
    refine Ev.step (fun k => ?_) (ih (i + 1) (by omega))
    simp only [arboristref46_Kids.l0]
    rw [if_pos (by omega), if_pos (by omega), if_pos (by simp; omega), rd65 hi', eta32, w64 (by omega) (by omega), take_snoc _ _ hi']
    rfl
theorem ints_ev (l : List Int) (hl : l.length ≤ 1000) : Ev (fun k => arboristlaw46_ints.f k l l) true := by
  have key : ∀ (q i : Nat), i + q = l.length → Ev (fun k => arboristlaw46_ints.l0 k l l (i : Int)) true := by
    intro q
    induction q with
    | zero =>
      intro i hi
      exact Ev.step (f := fun _ => some true) (fun k => by simp only [arboristlaw46_ints.l0]; rw [if_neg (by omega)]) (Ev.now _)
    | succ q ih =>
      intro i hi
      refine Ev.step (fun k => ?_) (ih (i + 1) (by omega))
      simp only [arboristlaw46_ints.l0]
      rw [if_pos (by omega), if_pos (by omega), if_pos (by omega), if_pos trivial, w64 (by omega) (by omega)]
      rfl
  unfold arboristlaw46_ints.f
  exact Ev.congr (fun k => if_pos rfl) (key l.length 0 (by omega))
theorem cmp_ev (l : List (List Int)) (hl : l.length < 300) (hs : ∀ p ∈ l, p.length ≤ 1000) : ∀ (q i : Nat), i + q = l.length → Ev (fun k => arboristlaw46_FieldsTells_.l0 k l l (i : Int)) true := by
  intro q
  induction q with
  | zero =>
    intro i hi
    refine Ev.step (fun k => ?_) (Ev.bind (f := fun _ t => some t) knows_ev (Ev.now _))
    simp only [arboristlaw46_FieldsTells_.l0]
    rw [if_neg (by omega)]
  | succ q ih =>
    intro i hi
    have hi' : i < l.length := by omega
    have hr : rd_L1 l (i : Int) = l[i] := by simp [rd_L1, hi']
    refine Ev.step (fun k => ?_) (Ev.bind (f := fun k t => if t = true then arboristlaw46_FieldsTells_.l0 k l l ((i + 1 : Nat) : Int) else some false) (ints_ev (l[i]) (hs _ (List.getElem_mem hi'))) (Ev.congr (fun k => if_pos rfl) (ih (i + 1) (by omega))))
    simp only [arboristlaw46_FieldsTells_.l0]
    rw [if_pos (by omega), if_pos (by omega), if_pos (by omega), hr, w64 (by omega) (by omega)]
    rfl
section
variable (g : Gr) (n : S32)
theorem sym_ev (hg1 : g.g1.length ≤ 9223372036854775807) (hW : W32 n) : ∃ s, (∀ k, fields_Name.j0 (k + 2) false g.g0 g.g1 g.g2 g.g3 g.g4 n.f0 n.f1 n.f2 n.f3 n.f4 n.f5 n.f6 = some s) ∧ ∀ k, arboristref46_Symbol.f (k + 1) g.g0 g.g1 g.g2 g.g3 g.g4 n.f0 = some s := by
  obtain ⟨ha, hb⟩ := wf_f0 hW
  have e1 : wrap64 ((-1) - n.f0) = (-1) - n.f0 := w64 (by omega) (by omega)
  have e2 : wrap64 (-(g.g1.length : Int)) = -(g.g1.length : Int) := w64 (by omega) (by omega)
  by_cases c : n.f0 ≥ 0
  · by_cases c2 : n.f0 < (g.g0.length : Int)
    · refine ⟨rdOf ByteArray.empty g.g0 n.f0, fun k => ?_, fun k => ?_⟩
      · simp only [fields_Name.j0, fields_Name.j1]
        rw [if_neg (by decide), if_pos c, if_pos (decide_eq_true c2), if_pos (by omega), if_pos c2]
      · simp only [arboristref46_Symbol.f, arboristref46_Symbol.j0]
        rw [if_pos c, if_pos (decide_eq_true c2), if_pos (by omega), if_pos c2]
    · refine ⟨⟨#[]⟩, fun k => ?_, fun k => ?_⟩
      · simp only [fields_Name.j0, fields_Name.j1]
        rw [if_neg (by decide), if_pos c, if_neg (by simpa using c2), e1, if_neg (by omega)]
      · simp only [arboristref46_Symbol.f, arboristref46_Symbol.j0]
        rw [if_pos c, if_neg (by simpa using c2), if_neg (by omega)]
  · by_cases c2 : (-1) - n.f0 < (g.g1.length : Int)
    · refine ⟨rdOf ByteArray.empty g.g1 ((-1) - n.f0), fun k => ?_, fun k => ?_⟩
      · simp only [fields_Name.j0, fields_Name.j1]
        rw [if_neg (by decide), if_neg c, if_neg (by decide), e1, if_pos (by omega), if_pos c2, if_pos (by omega)]
      · simp only [arboristref46_Symbol.f, arboristref46_Symbol.j0]
        rw [if_neg c, if_neg (by decide), if_pos (by omega), e2, if_pos (by omega), e1, if_pos (by omega), if_pos c2]
    · refine ⟨⟨#[]⟩, fun k => ?_, fun k => ?_⟩
      · simp only [fields_Name.j0, fields_Name.j1]
        rw [if_neg (by decide), if_neg c, if_neg (by decide), e1, if_pos (by omega), if_neg c2]
      · simp only [arboristref46_Symbol.f, arboristref46_Symbol.j0]
        rw [if_neg c, if_neg (by decide), if_pos (by omega), e2, if_neg (by omega)]
theorem nilL : (⟨#[]⟩ : ByteArray).toList = [] := by
  unfold ByteArray.toList
  unfold ByteArray.toList.loop
  rfl
theorem name_ev (hg1 : g.g1.length ≤ 9223372036854775807) (hW : W32 n) : ∃ s, Ev (fun k => fields_Name.f k g.g0 g.g1 g.g2 g.g3 g.g4 n.f0 n.f1 n.f2 n.f3 n.f4 n.f5 n.f6) s ∧ Ev (fun k => arboristref46_Name.f k g.g0 g.g1 g.g2 g.g3 g.g4 n.f0 n.f1 n.f2 n.f3 n.f4 n.f5 n.f6) s := by
  obtain ⟨s, hs, hr⟩ := sym_ev g n hg1 hW
  have low : ∀ {f : Nat → Option ByteArray} {s : ByteArray}, (∀ k, f (k + 2) = some s) → Ev f s := fun h => ⟨2, fun k hk => by obtain ⟨j, rfl⟩ : ∃ j, k = j + 2 := ⟨k - 2, by omega⟩; exact h j⟩
  by_cases c : n.f1 ≥ 0 ∧ n.f1 < (g.g3.length : Int)
  · obtain ⟨c1, c2⟩ := c
    have hL : arboristref46_Label.f g.g0 g.g1 g.g2 g.g3 g.g4 n.f0 n.f1 n.f2 n.f3 n.f4 n.f5 n.f6 = some ((rd_T67 g.g3 n.f1).f3) := by
      unfold arboristref46_Label.f
      rw [if_neg (by omega), if_neg (by omega), if_pos (by omega), if_pos c2]
    by_cases c3 : ((rd_T67 g.g3 n.f1).f3).toList = ([] : List UInt8)
    · refine ⟨s, low fun k => ?_, low fun k => ?_⟩
      · unfold fields_Name.f
        rw [if_pos c1, if_pos c2, if_pos (by omega), c3]
        exact hs k
      · unfold arboristref46_Name.f
        rw [hL, Option.bind_some, if_pos c3, hr (k + 1)]
        rfl
    · refine ⟨(rd_T67 g.g3 n.f1).f3, low fun k => ?_, low fun k => ?_⟩
      · unfold fields_Name.f
        rw [if_pos c1, if_pos c2, if_pos (by omega)]
        simp only [fields_Name.j0]
        rw [if_pos (by simpa using c3), if_pos (by omega), if_pos c2]
      · unfold arboristref46_Name.f
        rw [hL, Option.bind_some, if_neg c3]
        rfl
  · have hL : arboristref46_Label.f g.g0 g.g1 g.g2 g.g3 g.g4 n.f0 n.f1 n.f2 n.f3 n.f4 n.f5 n.f6 = some (⟨#[]⟩ : ByteArray) := by
      unfold arboristref46_Label.f
      by_cases c1 : n.f1 < 0
      · rw [if_pos c1]
      · rw [if_neg c1, if_pos (by omega)]
    refine ⟨s, low fun k => ?_, low fun k => ?_⟩
    · unfold fields_Name.f
      by_cases c1 : n.f1 ≥ 0
      · rw [if_pos c1, if_neg (by omega)]
        exact hs k
      · rw [if_neg c1]
        exact hs k
    · unfold arboristref46_Name.f
      rw [hL, Option.bind_some, if_pos nilL, hr (k + 1)]
      rfl
abbrev J0 (k : Nat) (b : Bool) : Option Bool := arboristlaw46_FieldsTells_.j0 k b g.g0 g.g1 g.g2 g.g3 g.g4 n.f0 n.f1 n.f2 n.f3 n.f4 n.f5 n.f6
theorem j0_ev (hg : g.g2.length < 1000) (hg1 : g.g1.length ≤ 9223372036854775807) (hW : W32 n) (e : Nat) (its : List It) (hits : kidsF e g n [] ⟨#[]⟩ = some its) (hl : its.length < 300) (hall : ∀ it ∈ its, small e it.node = true ∧ it.path.length ≤ 1000) (hse : small e n = true) (he : e ≤ 1000) : Ev (fun k => J0 g n k false) true := by
  have hP : Ev (fun k => pathsOf k g n) (its.map (·.path)) := Ev.of (k := e) (fun k => pathsOf_mono k g n) (by unfold pathsOf; rw [hits, Option.bind_some, if_pos ⟨by omega, List.all_eq_true.2 fun it hit => decide_eq_true (by have := (hall it hit).2; omega)⟩])
  have hK : Ev (fun k => kidsOf k g n) (its.map (·.node)) := by
    refine Ev.of (k := e) (fun k => kidsOf_mono k g n) ?_
    unfold kidsOf
    rw [hits, Option.bind_some]
    unfold nodesOf
    rw [if_pos ⟨by omega, List.all_eq_true.2 fun it hit => small_clone _ _ (hall it hit).1⟩]
  have hA := all_ev g hg hg1 e n hW hse [] ⟨#[]⟩ its (by simpa using he) hits (by omega)
  have hRP : Ev (fun k => arboristref46_Paths.f k g.g0 g.g1 g.g2 g.g3 g.g4 n.f0 n.f1 n.f2 n.f3 n.f4 n.f5 n.f6) (its.map (·.path)) := by
    have h2 := Ev.bind (f := fun k t => arboristref46_Paths.l0 k t [] 0) hA (pathsL_ev (its.map toA) (by simpa using hl) (its.map toA).length 0 (by omega))
    rw [List.map_map] at h2
    unfold arboristref46_Paths.f
    exact h2
  have hRK : Ev (fun k => arboristref46_Kids.f k g.g0 g.g1 g.g2 g.g3 g.g4 n.f0 n.f1 n.f2 n.f3 n.f4 n.f5 n.f6) (its.map (·.node)) := by
    have h2 := Ev.bind (f := fun k t => arboristref46_Kids.l0 k t [] 0) hA (kidsR_ev (its.map toA) (by simpa using hl) (its.map toA).length 0 (by omega))
    rw [List.map_map] at h2
    unfold arboristref46_Kids.f
    exact h2
  obtain ⟨s, hN, hRN⟩ := name_ev g n hg1 hW
  obtain ⟨p, hp, hpl, hps⟩ : ∃ p, p = its.map (·.path) ∧ p.length < 300 ∧ ∀ q ∈ p, q.length ≤ 1000 := ⟨_, rfl, by simpa using hl, fun q hq => by obtain ⟨it, hit, rfl⟩ := List.mem_map.1 hq; exact (hall it hit).2⟩
  obtain ⟨l, hl2, hll, hls⟩ : ∃ l, l = its.map (·.node) ∧ l.length < 300 ∧ ∀ y ∈ l, small e y = true := ⟨_, rfl, by simpa using hl, fun q hq => by obtain ⟨it, hit, rfl⟩ := List.mem_map.1 hq; exact (hall it hit).1⟩
  rw [← hp] at hP hRP
  rw [← hl2] at hK hRK
  have hlast : Ev (fun k => arboristlaw46_FieldsTells_.j1 k p p ((p.length : Int) != (p.length : Int))) true :=
    Ev.step (fun k => by simp only [arboristlaw46_FieldsTells_.j1]; rw [if_neg (by simp)]; rfl) (cmp_ev p hpl hps p.length 0 (by omega))
  let E6 : Nat → Bool → Option Bool := fun k t => if t = true then arboristlaw46_FieldsTells_.j1 k p p ((p.length : Int) != (p.length : Int)) else arboristlaw46_FieldsTells_.j1 k p p true
  let E5 : Nat → List S32 → Option Bool := fun k t => (arboristlaw46_sameNodes.f k l t).bind (E6 k)
  let E4 : Nat → List S32 → Option Bool := fun k a => (arboristref46_Kids.f k g.g0 g.g1 g.g2 g.g3 g.g4 n.f0 n.f1 n.f2 n.f3 n.f4 n.f5 n.f6).bind fun t => (arboristlaw46_sameNodes.f k a t).bind (E6 k)
  let E3 : Nat → ByteArray → Option Bool := fun k t => if s.toList = t.toList then (kidsOf k g n).bind (E4 k) else arboristlaw46_FieldsTells_.j1 k p p true
  have h5 : Ev (fun k => (arboristlaw46_sameNodes.f k l l).bind (E6 k)) true := Ev.bind (f := E6) (sameNodes_ev e l hll hls) (Ev.congr (fun k => if_pos rfl) hlast)
  have h4 : Ev (fun k => (kidsOf k g n).bind (E4 k)) true := Ev.bind (f := E4) hK (Ev.bind (f := E5) hRK h5)
  have h3 : Ev (fun k => (arboristref46_Name.f k g.g0 g.g1 g.g2 g.g3 g.g4 n.f0 n.f1 n.f2 n.f3 n.f4 n.f5 n.f6).bind (E3 k)) true := Ev.bind (f := E3) hRN (Ev.congr (fun k => if_pos rfl) h4)
  refine Ev.step (fun k => ?_) (Ev.bind (f := fun k t247 => (arboristref46_Paths.f k g.g0 g.g1 g.g2 g.g3 g.g4 n.f0 n.f1 n.f2 n.f3 n.f4 n.f5 n.f6).bind fun t250 => ((fields_Name.f k g.g0 g.g1 g.g2 g.g3 g.g4 n.f0 n.f1 n.f2 n.f3 n.f4 n.f5 n.f6).bind fun t253 => ((arboristref46_Name.f k g.g0 g.g1 g.g2 g.g3 g.g4 n.f0 n.f1 n.f2 n.f3 n.f4 n.f5 n.f6).bind fun t254 => (if t253.toList = t254.toList then ((kidsOf k g n).bind fun t255 => ((arboristref46_Kids.f k g.g0 g.g1 g.g2 g.g3 g.g4 n.f0 n.f1 n.f2 n.f3 n.f4 n.f5 n.f6).bind fun t258 => ((arboristlaw46_sameNodes.f k t255 t258).bind fun t261 => (if t261 = true then (arboristlaw46_FieldsTells_.j1 k t247 t250 ((t247.length : Int) != (t250.length : Int))) else (arboristlaw46_FieldsTells_.j1 k t247 t250 true))))) else (arboristlaw46_FieldsTells_.j1 k t247 t250 true))))) hP
    (Ev.bind (f := fun k t250 => ((fields_Name.f k g.g0 g.g1 g.g2 g.g3 g.g4 n.f0 n.f1 n.f2 n.f3 n.f4 n.f5 n.f6).bind fun t253 => ((arboristref46_Name.f k g.g0 g.g1 g.g2 g.g3 g.g4 n.f0 n.f1 n.f2 n.f3 n.f4 n.f5 n.f6).bind fun t254 => (if t253.toList = t254.toList then ((kidsOf k g n).bind fun t255 => ((arboristref46_Kids.f k g.g0 g.g1 g.g2 g.g3 g.g4 n.f0 n.f1 n.f2 n.f3 n.f4 n.f5 n.f6).bind fun t258 => ((arboristlaw46_sameNodes.f k t255 t258).bind fun t261 => (if t261 = true then (arboristlaw46_FieldsTells_.j1 k p t250 ((p.length : Int) != (t250.length : Int))) else (arboristlaw46_FieldsTells_.j1 k p t250 true))))) else (arboristlaw46_FieldsTells_.j1 k p t250 true))))) hRP
    (Ev.bind (f := fun k t253 => ((arboristref46_Name.f k g.g0 g.g1 g.g2 g.g3 g.g4 n.f0 n.f1 n.f2 n.f3 n.f4 n.f5 n.f6).bind fun t254 => (if t253.toList = t254.toList then ((kidsOf k g n).bind (E4 k)) else (arboristlaw46_FieldsTells_.j1 k p p true)))) hN h3)))
  simp only [J0, arboristlaw46_FieldsTells_.j0]
  rw [if_neg (by decide), paths_eq]
  simp only [kids_eq]
end
theorem FieldsTells : ∀ (x0 : S27) (x1 : S32), x0.f1.length ≤ 9223372036854775807 → W32 x1 → ∃ k, arboristlaw46_FieldsTells.f k x0.f0 x0.f1 x0.f2 x0.f3 x0.f4 x1.f0 x1.f1 x1.f2 x1.f3 x1.f4 x1.f5 x1.f6 = some true := by
  intro x0 n hg1 hW
  have hk : ∀ g : Gr, Ev (fun k => J0 g n k true) true := fun g =>
    Ev.step (fun k => by simp only [J0, arboristlaw46_FieldsTells_.j0, if_true]) (Ev.bind (f := fun _ t => some t) knows_ev (Ev.now _))
  have main : ∀ g : Gr, g.g1.length ≤ 9223372036854775807 → Ev (fun k => arboristlaw46_FieldsTells_.f k g.g0 g.g1 g.g2 g.g3 g.g4 n.f0 n.f1 n.f2 n.f3 n.f4 n.f5 n.f6) true := by
    intro g hg1
    obtain ⟨b, hb⟩ := few_ev g
    unfold arboristlaw46_FieldsTells_.f
    refine Ev.bind (f := fun k t => if t = true then ((arboristlaw46_Nodes.f k n.f0 n.f1 n.f2 n.f3 n.f4 n.f5 n.f6 300).bind fun t435 => J0 g n k (decide (t435 ≥ 300))) else J0 g n k true) hb ?_
    cases b with
    | false => exact Ev.congr (fun k => if_neg (by decide)) (hk g)
    | true =>
      refine Ev.congr (fun k => if_pos rfl) ?_
      obtain ⟨t, ht⟩ := nodes_ev 300 (by omega) n 300 (by omega) (by omega)
      refine Ev.bind (f := fun k t435 => J0 g n k (decide (t435 ≥ 300))) ht ?_
      by_cases h3 : t ≥ 300
      · rw [decide_eq_true h3]
        exact hk g
      · rw [decide_eq_false h3]
        obtain ⟨k0, hk0⟩ := hb.rounds
        have hg := few_true hk0
        obtain ⟨k, hkk⟩ := ht.rounds
        obtain ⟨e, its, hits, hl, hall, hse, he⟩ := its_of' g hkk (by omega)
        exact j0_ev g n hg hg1 hW e its hits hl hall hse he
  obtain ⟨k, hkk⟩ := (main ⟨x0.f0, x0.f1, x0.f2, x0.f3, x0.f4⟩ hg1).rounds
  refine ⟨k, ?_⟩
  unfold arboristlaw46_FieldsTells.f
  rw [hkk]
  rfl
end Go.Proofs.Ytgdbcogbbghjaaa.Pure
