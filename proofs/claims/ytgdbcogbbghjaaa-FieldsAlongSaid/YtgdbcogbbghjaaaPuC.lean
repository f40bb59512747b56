import Derived.Test.YtgdbcogbbghjaaaPuB
import Derived.Test.YtgdbcogbbghjaaaQf24
import Derived.Test.YtgdbcogbbghjaaaQf25
set_option linter.unusedVariables false
namespace Go.Proofs.Ytgdbcogbbghjaaa.Pure
open Go.RowKit Go.Proofs.Ytgdbcogbbghjaaa.Q Go.Proofs.YtgdbcogbbghjaaaW.PrintWords Go.Proofs.YtgdbcogbbghjaaaW.PrintLast
open Hand (It Gr kidsF kidsL cloneB nodesOf kidsOf pathsOf fieldsOf getOf kidsF_mono)
def Leads : S32 → List Int → S32 → Prop
  | n, [], m => m = n
  | n, i :: q, m => ∃ j : Nat, i = j ∧ ∃ y, n.f6[j]? = some y ∧ Leads y q m
def Plain (g : Gr) (y : S32) : Prop := fields_dissolves.f g.g0 g.g1 g.g2 g.g3 g.g4 y.f0 y.f1 y.f2 y.f3 y.f4 y.f5 y.f6 = some false
theorem kidsL_leads {d : Nat} (g : Gr) (n : S32) (path : List Int) (fd : ByteArray) (H : ∀ y p f r, kidsF d g y p f = some r → ∀ it ∈ r, ∃ q, it.path = p ++ q ∧ q ≠ [] ∧ Leads y q it.node ∧ Plain g it.node) :
    ∀ (l : List S32) (i : Nat) (r : List It), (∀ j y, l[j]? = some y → n.f6[i + j]? = some y) → kidsL (kidsF d g) g n path fd l i = some r → ∀ it ∈ r, ∃ q, it.path = path ++ q ∧ q ≠ [] ∧ Leads n q it.node ∧ Plain g it.node := by
  intro l
  induction l with
  | nil =>
    intro i r _ h it hit
    simp only [kidsL] at h
    rw [← Option.some.inj h] at hit
    cases hit
  | cons y l ih =>
    intro i r hl h it hit
    simp only [kidsL] at h
    obtain ⟨f, hf, h⟩ := Option.bind_eq_some_iff.1 h
    obtain ⟨b, hb, h⟩ := Option.bind_eq_some_iff.1 h
    obtain ⟨a, ha, h⟩ := Option.bind_eq_some_iff.1 h
    obtain ⟨a2, ha2, h⟩ := Option.bind_eq_some_iff.1 h
    obtain rfl := Option.some.inj h
    rcases List.mem_append.1 hit with hit | hit
    · cases b with
      | true =>
        rw [if_pos rfl] at ha
        obtain ⟨q, h1, h2, h3, h4⟩ := H y _ _ _ ha it hit
        exact ⟨(i : Int) :: q, by rw [h1, List.append_assoc]; rfl, by simp, ⟨i, rfl, y, hl 0 y rfl, h3⟩, h4⟩
      | false =>
        rw [if_neg (by decide)] at ha
        obtain rfl := Option.some.inj ha
        rw [List.mem_singleton.1 hit]
        exact ⟨[(i : Int)], rfl, by simp, ⟨i, rfl, y, hl 0 y rfl, rfl⟩, hb⟩
    · exact ih (i + 1) a2 (fun j z hz => by rw [Nat.add_assoc, Nat.add_comm 1 j]; exact hl (j + 1) z hz) ha2 it hit
theorem kidsF_leads : ∀ (d : Nat) (g : Gr) (n : S32) (path : List Int) (fd : ByteArray) (r : List It), kidsF d g n path fd = some r → ∀ it ∈ r, ∃ q, it.path = path ++ q ∧ q ≠ [] ∧ Leads n q it.node ∧ Plain g it.node
  | 0, _, _, _, _, _, h => by simp [kidsF] at h
  | d + 1, g, n, path, fd, r, h => by
    simp only [kidsF] at h
    split at h
    · exact kidsL_leads g n path fd (fun y p f r h => kidsF_leads d g y p f r h) n.f6 0 r (fun j y hj => by rw [Nat.zero_add]; exact hj) h
    · cases h
theorem pieces_ev (l : List S53) (hl : l.length < 300) : Ev (fun k => arboristref42_SamePieces.f k l l) true := by
  have key : ∀ (q i : Nat), i + q = l.length → Ev (fun k => arboristref42_SamePieces.l0 k l l (i : Int)) true := by
    intro q
    induction q with
    | zero =>
      intro i hi
      exact Ev.step (f := fun _ => some true) (fun k => by simp only [arboristref42_SamePieces.l0]; rw [if_neg (by omega)]) (Ev.now _)
    | succ q ih =>
      intro i hi
      refine Ev.step (fun k => ?_) (ih (i + 1) (by omega))
      simp only [arboristref42_SamePieces.l0]
      rw [if_pos (by omega), if_pos (by omega), if_pos (by omega), if_neg (by simp), w64 (by omega) (by omega)]
      rfl
  unfold arboristref42_SamePieces.f
  exact Ev.congr (fun k => if_pos rfl) (key l.length 0 (by omega))
abbrev SF (k : Nat) (a b : S32) : Option Bool := arboristref42_Same.f k a.f0 a.f1 a.f2 a.f3 a.f4 a.f5 a.f6 b.f0 b.f1 b.f2 b.f3 b.f4 b.f5 b.f6
theorem rd32 {l : List S32} {i : Nat} {y : S32} (h : l[i]? = some y) : rd_T32 l (i : Int) = y := by
  unfold rd_T32
  rw [Int.toNat_natCast, List.getD_eq_getElem?_getD, h]
  rfl
theorem same_ev : ∀ (d : Nat) (n : S32), small d n = true → Ev (fun k => SF k n n) true
  | 0, n, h => by simp [small] at h
  | d + 1, n, h => by
    obtain ⟨h1, h2, h3⟩ := small_succ.1 h
    have key : ∀ (q i : Nat), i + q = n.f6.length → Ev (fun k => arboristref42_Same.l0 k (i : Int) n.f0 n.f1 n.f2 n.f3 n.f4 n.f5 n.f6 n.f0 n.f1 n.f2 n.f3 n.f4 n.f5 n.f6) true := by
      intro q
      induction q with
      | zero =>
        intro i hi
        exact Ev.step (f := fun _ => some true) (fun k => by simp only [arboristref42_Same.l0]; rw [if_neg (by omega)]) (Ev.now _)
      | succ q ih =>
        intro i hi
        have hi' : i < n.f6.length := by omega
        have hr : rd_T32 n.f6 (i : Int) = n.f6[i] := rd32 (List.getElem?_eq_getElem hi')
        have := same_ev d (n.f6[i]) (h3 _ (List.getElem_mem hi'))
        refine Ev.step (fun k => ?_) (Ev.bind (f := fun k t => if t = true then arboristref42_Same.l0 k ((i + 1 : Nat) : Int) n.f0 n.f1 n.f2 n.f3 n.f4 n.f5 n.f6 n.f0 n.f1 n.f2 n.f3 n.f4 n.f5 n.f6 else some false) this (Ev.congr (fun k => if_pos rfl) (ih (i + 1) (by omega))))
        simp only [arboristref42_Same.l0]
        rw [if_pos (by omega), if_pos (by omega), if_pos (by omega), w64 (by omega) (by omega), hr]
        rfl
    refine Ev.step (fun k => ?_) (Ev.bind (f := fun k t => if t = true then arboristref42_Same.j0 k ((n.f6.length : Int) != (n.f6.length : Int)) n.f0 n.f1 n.f2 n.f3 n.f4 n.f5 n.f6 n.f0 n.f1 n.f2 n.f3 n.f4 n.f5 n.f6 else arboristref42_Same.j0 k true n.f0 n.f1 n.f2 n.f3 n.f4 n.f5 n.f6 n.f0 n.f1 n.f2 n.f3 n.f4 n.f5 n.f6) (pieces_ev n.f4 h1) (Ev.congr (fun k => if_pos rfl) (Ev.step (fun k => ?_) (key n.f6.length 0 (by omega)))))
    · simp only [SF, arboristref42_Same.f, if_true]
    · simp only [arboristref42_Same.j0]
      rw [if_neg (by simp)]
      rfl
theorem few_true {g : Gr} {k : Nat} (h : arboristlaw46_fewGram.f k g.g0 g.g1 g.g2 g.g3 g.g4 = some true) : g.g2.length < 1000 := by
  unfold arboristlaw46_fewGram.f at h
  obtain ⟨b, _, h⟩ := Option.bind_eq_some_iff.1 h
  split at h
  · have := of_decide_eq_true (Option.some.inj h)
    omega
  · cases h
theorem plain_ref {g : Gr} {y : S32} (hg : g.g2.length < 1000) (h : Plain g y) : arboristref46_Dissolves.f g.g0 g.g1 g.g2 g.g3 g.g4 y.f0 y.f1 y.f2 y.f3 y.f4 y.f5 y.f6 = some false := by
  unfold arboristref46_Dissolves.f
  by_cases c1 : y.f0 < 0
  · rw [if_pos c1]
    by_cases c2 : y.f0 ≥ wrap64 (-(g.g1.length : Int))
    · rw [if_pos c2]
      by_cases c3 : y.f0 ≥ wrap64 (-(g.g2.length : Int))
      · rw [if_pos c3]
        rw [w64 (n := -(g.g2.length : Int)) (by omega) (by omega)] at c3
        have e : wrap64 ((-1) - y.f0) = (-1) - y.f0 := w64 (by omega) (by omega)
        unfold Plain fields_dissolves.f at h
        rw [e] at h ⊢
        rw [if_pos c1, if_pos (by omega)] at h
        have c4 : (-1) - y.f0 < (g.g1.length : Int) := by
          by_cases hb : g.g1.length ≤ 9223372036854775807
          · rw [w64 (by omega) (by omega)] at c2
            omega
          · omega
        rw [if_pos c4, if_pos (by omega), if_pos (by omega)] at h
        rw [if_pos (by omega), if_pos (by omega)]
        exact h
      · rw [if_neg c3]
    · rw [if_neg c2]
  · rw [if_neg c1]
end Go.Proofs.Ytgdbcogbbghjaaa.Pure
