import Derived.Test.YtgdbcogbbghjaaaQf5
import Derived.Test.YtgdbcogbbghjaaaQOp
import Derived.Test.YtgdbcogbbghjaaaPuC
namespace Go.Proofs.Ytgdbcogbbghjaaa.Pure
open Go.RowKit Go.Proofs.Ytgdbcogbbghjaaa.Q Go.Proofs.YtgdbcogbbghjaaaW.PrintWords Go.Proofs.YtgdbcogbbghjaaaW.PrintLast Go.Proofs.Ytgdbcogbbghjaaa.Op
open Hand (It Gr kidsF kidsL cloneB nodesOf kidsOf pathsOf fieldsOf getOf kidsF_mono fieldsOf_mono pathsOf_mono kidsOf_mono)
theorem knows_ev : Ev (fun k => arboristlaw46_knows.f k) true := ⟨10, fun _ hk => if_pos hk⟩
theorem kids_eq (k : Nat) (g : Gr) (n : S32) : fields_Kids.f k g.g0 g.g1 g.g2 g.g3 g.g4 n.f0 n.f1 n.f2 n.f3 n.f4 n.f5 n.f6 = kidsOf k g n := by unfold fields_Kids.f; cases n; cases g; rfl
theorem paths_eq (k : Nat) (g : Gr) (n : S32) : fields_Paths.f k g.g0 g.g1 g.g2 g.g3 g.g4 n.f0 n.f1 n.f2 n.f3 n.f4 n.f5 n.f6 = pathsOf k g n := by unfold fields_Paths.f; cases n; cases g; rfl
theorem fields_eq (k : Nat) (g : Gr) (n : S32) : fields_Fields.f k g.g0 g.g1 g.g2 g.g3 g.g4 n.f0 n.f1 n.f2 n.f3 n.f4 n.f5 n.f6 = fieldsOf k g n := by unfold fields_Fields.f; cases n; cases g; rfl
theorem its_of {k : Nat} {n : S32} {t : Int} (g : Gr) (h : NF k n 300 = some t) (ht : t < 300) : ∃ e its, kidsF e g n [] ⟨#[]⟩ = some its ∧ its.length < 300 ∧ (∀ it ∈ its, small e it.node = true ∧ it.path.length ≤ 1000) := by
  obtain ⟨_, h2⟩ := spec k n 300 t h (by omega) (by omega)
  obtain ⟨hs, hc⟩ := h2 ht
  obtain ⟨e, he, hse, hce⟩ := small_low k n 300 hs (by omega)
  obtain ⟨its, h4, h5, h6⟩ := kidsF_some e g n [] ⟨#[]⟩ hse (by simp; omega)
  exact ⟨e, its, h4, by omega, h6⟩
theorem get_ev (p : List Int) (hp : p.length ≤ 1000) (m : S32) : ∀ (q : List Int) (j : Nat) (n : S32), p.drop j = q → Leads n q m → Ev (fun k => arboristlaw46_get.l0 k p (j : Int) n.f0 n.f1 n.f2 n.f3 n.f4 n.f5 n.f6) (m.f0, m.f1, m.f2, m.f3, m.f4, m.f5, m.f6, true) := by
  intro q
  induction q with
  | nil =>
    intro j n hd hm
    have hj : p.length ≤ j := List.drop_eq_nil_iff.1 hd
    obtain rfl : m = n := hm
    exact Ev.step (f := fun _ => some _) (fun k => by simp only [arboristlaw46_get.l0]; rw [if_neg (by omega)]) (Ev.now _)
  | cons i q ih =>
    intro j n hd hm
    obtain ⟨jj, hij, y, hy, hl⟩ := hm
    have hj : j < p.length := by
      by_cases h : j < p.length
      · exact h
      · rw [List.drop_eq_nil_of_le (by omega)] at hd
        cases hd
    have hd' := hd
    rw [List.drop_eq_getElem_cons hj] at hd'
    injection hd' with h1 h2
    have hr : rd p (j : Int) = (jj : Int) := by
      unfold rd
      rw [Int.toNat_natCast, List.getD_eq_getElem?_getD, List.getElem?_eq_getElem hj, h1, hij]
      rfl
    have hy' : jj < n.f6.length := by
      by_cases h : jj < n.f6.length
      · exact h
      · rw [List.getElem?_eq_none (by omega)] at hy
        cases hy
    refine Ev.step (fun k => ?_) (ih (j + 1) y h2 hl)
    simp only [arboristlaw46_get.l0]
    rw [if_pos (by omega), if_pos (by omega), hr, if_neg (by omega), if_neg (by omega), if_pos (by omega), if_pos (by omega), w64 (by omega) (by omega), rd32 hy]
    rfl
section
variable (g : Gr) (n : S32) (e : Nat) (its : List It) (hits : kidsF e g n [] ⟨#[]⟩ = some its) (hl : its.length < 300) (hall : ∀ it ∈ its, small e it.node = true ∧ it.path.length ≤ 1000) (hg : g.g2.length < 1000)
include hits hl hall hg in
theorem l0_along : ∀ (d i : Nat), i + d = its.length → Ev (fun k => arboristlaw46_FieldsAlong_.l0 k (its.map (·.node)) (its.map (·.path)) (i : Int) g.g0 g.g1 g.g2 g.g3 g.g4 n.f0 n.f1 n.f2 n.f3 n.f4 n.f5 n.f6) true := by
  intro d
  induction d with
  | zero =>
    intro i hi
    refine Ev.step (fun k => ?_) (Ev.bind (f := fun _ t => some t) knows_ev (Ev.now _))
    simp only [arboristlaw46_FieldsAlong_.l0]
    rw [if_neg (by simp; omega)]
  | succ d ih =>
    intro i hi
    have hin : i < its.length := by omega
    have hmem := List.getElem_mem hin
    obtain ⟨q, h1, h2, h3, h4⟩ := kidsF_leads e g n [] ⟨#[]⟩ its hits _ hmem
    rw [List.nil_append] at h1
    subst h1
    obtain ⟨hs, hp⟩ := hall _ hmem
    have hrp : rd_L1 (its.map (·.path)) (i : Int) = its[i].path := by simp [rd_L1, hin]
    have hrn : rd_T32 (its.map (·.node)) (i : Int) = its[i].node := rd32 (by simp [hin])
    have hget := get_ev its[i].path hp its[i].node its[i].path 0 n rfl h3
    have hsame := same_ev e its[i].node hs
    have hpos : 0 < its[i].path.length := List.length_pos_iff.2 h2
    have e1 : ((its.map (·.path)).length : Int) = its.length := by simp
    have e2 : ((its.map (·.node)).length : Int) = its.length := by simp
    refine Ev.step (fun k => ?_) (Ev.bind (f := fun k (bt328 : Int × Int × Int × Int × (List (S53)) × ByteArray × (List (S32)) × Bool) => if bt328.2.2.2.2.2.2.2 = true then (arboristref42_Same.f k bt328.1 bt328.2.1 bt328.2.2.1 bt328.2.2.2.1 bt328.2.2.2.2.1 bt328.2.2.2.2.2.1 bt328.2.2.2.2.2.2.1 its[i].node.f0 its[i].node.f1 its[i].node.f2 its[i].node.f3 its[i].node.f4 its[i].node.f5 its[i].node.f6).bind (fun t345 => if t345 = true then (arboristlaw46_FieldsAlong_.l0 k (its.map (·.node)) (its.map (·.path)) ((i + 1 : Nat) : Int) g.g0 g.g1 g.g2 g.g3 g.g4 n.f0 n.f1 n.f2 n.f3 n.f4 n.f5 n.f6) else (some false)) else some false) hget (Ev.congr (fun k => if_pos rfl) (Ev.bind (f := fun k t345 => if t345 = true then (arboristlaw46_FieldsAlong_.l0 k (its.map (·.node)) (its.map (·.path)) ((i + 1 : Nat) : Int) g.g0 g.g1 g.g2 g.g3 g.g4 n.f0 n.f1 n.f2 n.f3 n.f4 n.f5 n.f6) else (some false)) hsame (Ev.congr (fun k => if_pos rfl) (ih (i + 1) (by omega))))))
    simp only [arboristlaw46_FieldsAlong_.l0]
    rw [if_pos (by omega), if_pos (by omega), hrp, hrn]
    unfold arboristlaw46_get.f
    refine congrArg (Option.bind _) (funext fun bt328 => ?_)
    rw [if_neg (show ¬ ((its[i].path.length : Int) = 0) by omega), if_pos (show (i : Int) < ((its.map (·.node)).length : Int) by omega), plain_ref hg h4, Option.bind_some, if_neg (show ¬ (false = true) by decide), w64 (n := (i : Int) + 1) (by omega) (by omega)]
    rfl
end
theorem FieldsAlong : ∀ (x0 : S27) (x1 : S32), W27 x0 → W32 x1 → ∃ k, arboristlaw46_FieldsAlong.f k x0.f0 x0.f1 x0.f2 x0.f3 x0.f4 x1.f0 x1.f1 x1.f2 x1.f3 x1.f4 x1.f5 x1.f6 = some true := by
  intro x0 n _ _
  have hk : ∀ g : Gr, Ev (fun k => arboristlaw46_FieldsAlong_.j0 k true g.g0 g.g1 g.g2 g.g3 g.g4 n.f0 n.f1 n.f2 n.f3 n.f4 n.f5 n.f6) true := fun g =>
    Ev.step (fun k => by simp only [arboristlaw46_FieldsAlong_.j0, if_true]) (Ev.bind (f := fun _ t => some t) knows_ev (Ev.now _))
  have main : ∀ g : Gr, Ev (fun k => arboristlaw46_FieldsAlong_.f k g.g0 g.g1 g.g2 g.g3 g.g4 n.f0 n.f1 n.f2 n.f3 n.f4 n.f5 n.f6) true := by
    intro g
    obtain ⟨b, hb⟩ := few_ev g
    unfold arboristlaw46_FieldsAlong_.f
    refine Ev.bind (f := fun k t => if t = true then ((arboristlaw46_Nodes.f k n.f0 n.f1 n.f2 n.f3 n.f4 n.f5 n.f6 300).bind fun t435 => (arboristlaw46_FieldsAlong_.j0 k (decide (t435 ≥ 300)) g.g0 g.g1 g.g2 g.g3 g.g4 n.f0 n.f1 n.f2 n.f3 n.f4 n.f5 n.f6)) else (arboristlaw46_FieldsAlong_.j0 k true g.g0 g.g1 g.g2 g.g3 g.g4 n.f0 n.f1 n.f2 n.f3 n.f4 n.f5 n.f6)) hb ?_
    cases b with
    | false => exact Ev.congr (fun k => if_neg (by decide)) (hk g)
    | true =>
      refine Ev.congr (fun k => if_pos rfl) ?_
      obtain ⟨t, ht⟩ := nodes_ev 300 (by omega) n 300 (by omega) (by omega)
      refine Ev.bind (f := fun k t435 => arboristlaw46_FieldsAlong_.j0 k (decide (t435 ≥ 300)) g.g0 g.g1 g.g2 g.g3 g.g4 n.f0 n.f1 n.f2 n.f3 n.f4 n.f5 n.f6) ht ?_
      by_cases h3 : t ≥ 300
      · rw [decide_eq_true h3]
        exact hk g
      · rw [decide_eq_false h3]
        obtain ⟨k0, hk0⟩ := hb.rounds
        have hg := few_true hk0
        obtain ⟨k, hkk⟩ := ht.rounds
        obtain ⟨e, its, hits, hl, hall⟩ := its_of g hkk (by omega)
        have hF : Ev (fun k => fieldsOf k g n) (its.map (·.fld)) := Ev.of (k := e) (fun k => fieldsOf_mono k g n) (by unfold fieldsOf; rw [hits, Option.bind_some, if_pos (by omega)])
        have hP : Ev (fun k => pathsOf k g n) (its.map (·.path)) := Ev.of (k := e) (fun k => pathsOf_mono k g n) (by unfold pathsOf; rw [hits, Option.bind_some]; exact if_pos ⟨by omega, List.all_eq_true.2 fun it hit => decide_eq_true (by have := (hall it hit).2; omega)⟩)
        have hK : Ev (fun k => kidsOf k g n) (its.map (·.node)) := Ev.of (k := e) (fun k => kidsOf_mono k g n) (by unfold kidsOf; rw [hits, Option.bind_some]; exact if_pos ⟨by omega, List.all_eq_true.2 fun it hit => small_clone _ _ (hall it hit).1⟩)
        have hlast : Ev (fun k => arboristlaw46_FieldsAlong_.j1 k (its.map (·.node)) (its.map (·.path)) false g.g0 g.g1 g.g2 g.g3 g.g4 n.f0 n.f1 n.f2 n.f3 n.f4 n.f5 n.f6) true :=
          Ev.step (fun k => by simp only [arboristlaw46_FieldsAlong_.j1]; rw [if_neg (by decide)]; rfl) (l0_along g n e its hits hl hall hg its.length 0 (by omega))
        refine Ev.step (fun k => ?_) (Ev.bind (f := fun k t317 => (pathsOf k g n).bind fun t320 => (fieldsOf k g n).bind fun t323 => (if (t317.length : Int) = (t320.length : Int) then (arboristlaw46_FieldsAlong_.j1 k t317 t320 ((t317.length : Int) != (t323.length : Int)) g.g0 g.g1 g.g2 g.g3 g.g4 n.f0 n.f1 n.f2 n.f3 n.f4 n.f5 n.f6) else (arboristlaw46_FieldsAlong_.j1 k t317 t320 true g.g0 g.g1 g.g2 g.g3 g.g4 n.f0 n.f1 n.f2 n.f3 n.f4 n.f5 n.f6))) hK
          (Ev.bind (f := fun k t320 => (fieldsOf k g n).bind fun t323 => (if ((its.map (·.node)).length : Int) = (t320.length : Int) then (arboristlaw46_FieldsAlong_.j1 k (its.map (·.node)) t320 (((its.map (·.node)).length : Int) != (t323.length : Int)) g.g0 g.g1 g.g2 g.g3 g.g4 n.f0 n.f1 n.f2 n.f3 n.f4 n.f5 n.f6) else (arboristlaw46_FieldsAlong_.j1 k (its.map (·.node)) t320 true g.g0 g.g1 g.g2 g.g3 g.g4 n.f0 n.f1 n.f2 n.f3 n.f4 n.f5 n.f6))) hP
          (Ev.bind (f := fun k t323 => (if ((its.map (·.node)).length : Int) = ((its.map (·.path)).length : Int) then (arboristlaw46_FieldsAlong_.j1 k (its.map (·.node)) (its.map (·.path)) (((its.map (·.node)).length : Int) != (t323.length : Int)) g.g0 g.g1 g.g2 g.g3 g.g4 n.f0 n.f1 n.f2 n.f3 n.f4 n.f5 n.f6) else (arboristlaw46_FieldsAlong_.j1 k (its.map (·.node)) (its.map (·.path)) true g.g0 g.g1 g.g2 g.g3 g.g4 n.f0 n.f1 n.f2 n.f3 n.f4 n.f5 n.f6))) hF
          (Ev.congr (fun k => ?_) hlast))))
        · simp only [arboristlaw46_FieldsAlong_.j0]
          rw [if_neg (by decide)]
          simp only [kids_eq, paths_eq, fields_eq]
        · rw [if_pos (by simp), show (((its.map (·.node)).length : Int) != ((its.map (·.fld)).length : Int)) = false by simp]
  obtain ⟨k, hkk⟩ := (main ⟨x0.f0, x0.f1, x0.f2, x0.f3, x0.f4⟩).rounds
  refine ⟨k, ?_⟩
  unfold arboristlaw46_FieldsAlong.f
  rw [hkk]
  rfl
end Go.Proofs.Ytgdbcogbbghjaaa.Pure
