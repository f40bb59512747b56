import Derived.Test.YtgdbcogbbghjaaaPuC
import Derived.Test.YtgdbcogbbghjaaaPuD
import Derived.Test.YtgdbcogbbghjaaaQf15
set_option linter.unusedVariables false
namespace Go.Proofs.Ytgdbcogbbghjaaa.Pure
open Go.RowKit Go.Proofs.Ytgdbcogbbghjaaa.Q Go.Proofs.YtgdbcogbbghjaaaW.PrintWords Go.Proofs.YtgdbcogbbghjaaaW.PrintLast Go.Proofs.Ytgdbcogbbghjaaa.Op
open Hand (It Gr kidsF kidsL cloneB nodesOf kidsOf pathsOf fieldsOf getOf kidsF_mono fieldsOf_mono pathsOf_mono kidsOf_mono getOf_mono)
theorem sameNodes_ev (e : Nat) (l : List S32) (hl : l.length < 300) (hs : ∀ y ∈ l, small e y = true) : Ev (fun k => arboristlaw46_sameNodes.f k l l) true := by
  have key : ∀ (q i : Nat), i + q = l.length → Ev (fun k => arboristlaw46_sameNodes.l0 k l l (i : Int)) true := by
    intro q
    induction q with
    | zero =>
      intro i hi
      exact Ev.step (f := fun _ => some true) (fun k => by simp only [arboristlaw46_sameNodes.l0]; rw [if_neg (by omega)]) (Ev.now _)
    | succ q ih =>
      intro i hi
      have hi' : i < l.length := by omega
      have hr : rd_T32 l (i : Int) = l[i] := rd32 (List.getElem?_eq_getElem hi')
      have := same_ev e (l[i]) (hs _ (List.getElem_mem hi'))
      refine Ev.step (fun k => ?_) (Ev.bind (f := fun k t => if t = true then arboristlaw46_sameNodes.l0 k l l ((i + 1 : Nat) : Int) else some false) this (Ev.congr (fun k => if_pos rfl) (ih (i + 1) (by omega))))
      simp only [arboristlaw46_sameNodes.l0]
      rw [if_pos (by omega), if_pos (by omega), if_pos (by omega), w64 (by omega) (by omega), hr]
      rfl
  unfold arboristlaw46_sameNodes.f
  exact Ev.congr (fun k => if_pos rfl) (key l.length 0 (by omega))
theorem rd65 {l : List S65} {i : Nat} (h : i < l.length) : rd_T65 l (i : Int) = l[i] := by simp [rd_T65, h]
theorem take_snoc {α β : Type} (f : α → β) (t : List α) {i : Nat} (h : i < t.length) : (t.take (i + 1)).map f = (t.take i).map f ++ [f t[i]] := by
  rw [List.take_succ_eq_append_getElem h, List.map_append]
  rfl
theorem its_of' {k : Nat} {n : S32} {t : Int} (g : Gr) (h : NF k n 300 = some t) (ht : t < 300) : ∃ e its, kidsF e g n [] ⟨#[]⟩ = some its ∧ its.length < 300 ∧ (∀ it ∈ its, small e it.node = true ∧ it.path.length ≤ 1000) ∧ small e n = true ∧ e ≤ 1000 := by
  obtain ⟨_, h2⟩ := spec k n 300 t h (by omega) (by omega)
  obtain ⟨hs, hc⟩ := h2 ht
  obtain ⟨e, he, hse, hce⟩ := small_low k n 300 hs (by omega)
  obtain ⟨its, h4, h5, h6⟩ := kidsF_some e g n [] ⟨#[]⟩ hse (by simp; omega)
  exact ⟨e, its, h4, by omega, h6, hse, by omega⟩
end Go.Proofs.Ytgdbcogbbghjaaa.Pure
