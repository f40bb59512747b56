import Derived.Test.YtgdbcogbbghjaaaPuB
import Derived.Test.YtgdbcogbbghjaaaQf24
import Derived.Test.YtgdbcogbbghjaaaQf25
set_option linter.unusedVariables false
namespace Go.Proofs.Ytgdbcogbbghjaaa.Pure
open Go.RowKit Go.Proofs.Ytgdbcogbbghjaaa.Q Go.Proofs.YtgdbcogbbghjaaaW.PrintWords Go.Proofs.YtgdbcogbbghjaaaW.PrintLast
open Hand (It Gr kidsF kidsL cloneB nodesOf kidsOf pathsOf fieldsOf getOf kidsF_mono)
def Leads : S32 → List Int → S32 → Prop
  | n, [], m => m = n
  | n, i :: q, m => ∃ j : Nat, i = j ∧ ∃ y, n.f6[j]? = some y ∧ Leads y q m
def Plain (g : Gr) (y : S32) : Prop := fields_dissolves.f g.g0 g.g1 g.g2 g.g3 g.g4 y.f0 y.f1 y.f2 y.f3 y.f4 y.f5 y.f6 = some false
theorem kidsL_leads {d : Nat} (g : Gr) (n : S32) (path : List Int) (fd : ByteArray) (H : ∀ y p f r, kidsF d g y p f = some r → ∀ it ∈ r, ∃ q, it.path = p ++ q ∧ q ≠ [] ∧ Leads y q it.node ∧ Plain g it.node) :
    ∀ (l : List S32) (i : Nat) (r : List It), (∀ j y, l[j]? = some y → n.f6[i + j]? = some y) → kidsL (kidsF d g) g n path fd l i = some r → ∀ it ∈ r, ∃ q, it.path = path ++ q ∧ q ≠ [] ∧ Leads n q it.node ∧ Plain g it.node := by
  intro l
  induction l with
  | nil =>
    intro i r _ h it hit
    simp only [kidsL] at h
    rw [← Option.some.inj h] at hit
    cases hit
  | cons y l ih =>
    intro i r hl h it hit
    simp only [kidsL] at h
    obtain ⟨f, hf, h⟩ := Option.bind_eq_some_iff.1 h
    obtain ⟨b, hb, h⟩ := Option.bind_eq_some_iff.1 h
    obtain ⟨a, ha, h⟩ := Option.bind_eq_some_iff.1 h
    obtain ⟨a2, ha2, h⟩ := Option.bind_eq_some_iff.1 h
    obtain rfl := Option.some.inj h
    rcases List.mem_append.1 hit with hit | hit
    · cases b with
      | true =>
        rw [if_pos rfl] at ha
        obtain ⟨q, h1, h2, h3, h4⟩ := H y _ _ _ ha it hit
        exact ⟨(i : Int) :: q, by rw [h1, List.append_assoc]; rfl, by simp, ⟨i, rfl, y, hl 0 y rfl, h3⟩, h4⟩
      | false =>
        rw [if_neg (by decide)] at ha
        obtain rfl := Option.some.inj ha
        rw [List.mem_singleton.1 hit]
        exact ⟨[(i : Int)], rfl, by simp, ⟨i, rfl, y, hl 0 y rfl, rfl⟩, hb⟩
    · exact ih (i + 1) a2 (fun j z hz => by rw [Nat.add_assoc, Nat.add_comm 1 j]; exact hl (j + 1) z hz) ha2 it hit
theorem kidsF_leads : ∀ (d : Nat) (g : Gr) (n : S32) (path : List Int) (fd : ByteArray) (r : List It), kidsF d g n path fd = some r → ∀ it ∈ r, ∃ q, it.path = path ++ q ∧ q ≠ [] ∧ Leads n q it.node ∧ Plain g it.node
  | 0, _, _, _, _, _, h => by simp [kidsF] at h
  | d + 1, g, n, path, fd, r, h => by
    simp only [kidsF] at h
    split at h
    · exact kidsL_leads g n path fd (fun y p f r h => kidsF_leads d g y p f r h) n.f6 0 r (fun j y hj => by rw [Nat.zero_add]; exact hj) h
    · cases h
theorem rd32 {l : List S32} {i : Nat} {y : S32} (h : l[i]? = some y) : rd_T32 l (i : Int) = y := by
  unfold rd_T32
  rw [Int.toNat_natCast, List.getD_eq_getElem?_getD, h]
  rfl
end Go.Proofs.Ytgdbcogbbghjaaa.Pure
