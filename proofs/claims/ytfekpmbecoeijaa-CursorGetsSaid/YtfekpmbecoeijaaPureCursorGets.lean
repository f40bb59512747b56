/- Get agrees with the reference. -/
import Derived.Test.YtfekpmbecoeijaaQf4
import Derived.Test.YtfekpmbecoeijaaQOp
import Derived.Test.YtfekpmbecoeijaaPuC
set_option linter.unusedVariables false
namespace Go.Proofs.Ytfekpmbecoeijaa.Pure
open Go.RowKit Go.Proofs.Ytfekpmbecoeijaa.Q Go.Proofs.YtfekpmbecoeijaaW.PrintWords Go.Proofs.YtfekpmbecoeijaaW.PrintLast Go.Proofs.Ytfekpmbecoeijaa.Op
open Hand (cloneB)

theorem small_z : small 1 z26 = true := by kernel_rfl
theorem found_small {o : Option S26} (h : ∀ y, o = some y → ∃ d, small d y = true) : ∃ y b, found o = tup y b ∧ ∃ d, small d y = true := by
  cases o with
  | none => exact ⟨z26, false, rfl, 1, small_z⟩
  | some y => exact ⟨y, true, rfl, h y rfl⟩
theorem CursorGets : ∀ (x0 : S26) (x1 : List Int), Bnd x0 → (∀ a_ ∈ x1, (Lit.int .i64 a_).wf = true) → ∃ k, arboristlaw45_CursorGets.f k x0.f0 x0.f1 x0.f2 x0.f3 x0.f4 x0.f5 x0.f6 x1 = some true := by
  intro n p hB _
  suffices hE : Ev (fun k => arboristlaw45_CursorGets_.f k n.f0 n.f1 n.f2 n.f3 n.f4 n.f5 n.f6 p) true by
    obtain ⟨k, hk⟩ := hE.rounds
    refine ⟨k, ?_⟩
    unfold arboristlaw45_CursorGets.f
    rw [show arboristlaw45_CursorGets_.f k n.f0 n.f1 n.f2 n.f3 n.f4 n.f5 n.f6 p = some true from hk]
    rfl
  have hkn : Ev (fun k => arboristlaw45_CursorGets_.j0 k p true n.f0 n.f1 n.f2 n.f3 n.f4 n.f5 n.f6) true := by
    refine Ev.step (fun k => ?_) (Ev.bind (f := fun _ (t : Bool) => some t) knows_ev (Ev.now _))
    simp only [arboristlaw45_CursorGets_.j0, if_true]
  obtain ⟨b, hb, hs⟩ := few_ev n 300 hB (by omega) (by omega)
  unfold arboristlaw45_CursorGets_.f
  refine Ev.bind (f := fun k (t : Bool) => if t = true then arboristlaw45_CursorGets_.j0 k p (decide ((p.length : Int) > 100)) n.f0 n.f1 n.f2 n.f3 n.f4 n.f5 n.f6 else arboristlaw45_CursorGets_.j0 k p true n.f0 n.f1 n.f2 n.f3 n.f4 n.f5 n.f6) hb ?_
  cases b with
  | false => exact Ev.congr (fun k => if_neg (by simp)) hkn
  | true =>
    refine Ev.congr (fun k => if_pos rfl) ?_
    by_cases hl : (p.length : Int) > 100
    · rw [decide_eq_true hl]
      exact hkn
    · rw [decide_eq_false hl]
      obtain ⟨d, hd, _⟩ := hs rfl
      have hsm := fun y (h : getP n p = some y) => small_get p d n y hd h
      obtain ⟨y, b, hf, e, he⟩ := found_small hsm
      have h1 : Ev (fun k => cursor_Get.f k n.f0 n.f1 n.f2 n.f3 n.f4 n.f5 n.f6 p) (tup y b) := by
        have := get_ev p (by omega) p.length 0 n (by omega) (by rw [List.drop_zero]; exact fun y h => (hsm y h).imp fun e he => small_clone e y he)
        rw [List.drop_zero, hf] at this
        exact this
      have h2 : Ev (fun k => arboristref45_Get.f k n.f0 n.f1 n.f2 n.f3 n.f4 n.f5 n.f6 p) (tup y b) := by
        have := ref_get_ev p (by omega) p.length 0 n (by omega)
        rw [List.drop_zero, hf] at this
        exact this
      refine Ev.step (fun k => ?_) (Ev.bind (f := fun k t => (arboristref45_Get.f k n.f0 n.f1 n.f2 n.f3 n.f4 n.f5 n.f6 p).bind fun u => if (t.2.2.2.2.2.2.2 == u.2.2.2.2.2.2.2) = true then ((arboristref42_Same.f k t.1 t.2.1 t.2.2.1 t.2.2.2.1 t.2.2.2.2.1 t.2.2.2.2.2.1 t.2.2.2.2.2.2.1 u.1 u.2.1 u.2.2.1 u.2.2.2.1 u.2.2.2.2.1 u.2.2.2.2.2.1 u.2.2.2.2.2.2.1).bind fun t200 => if t200 = true then (arboristlaw45_knows.f k).bind fun t201 => some t201 else some false) else some false) h1 (Ev.bind (f := fun k u => if ((tup y b).2.2.2.2.2.2.2 == u.2.2.2.2.2.2.2) = true then ((arboristref42_Same.f k (tup y b).1 (tup y b).2.1 (tup y b).2.2.1 (tup y b).2.2.2.1 (tup y b).2.2.2.2.1 (tup y b).2.2.2.2.2.1 (tup y b).2.2.2.2.2.2.1 u.1 u.2.1 u.2.2.1 u.2.2.2.1 u.2.2.2.2.1 u.2.2.2.2.2.1 u.2.2.2.2.2.2.1).bind fun t200 => if t200 = true then (arboristlaw45_knows.f k).bind fun t201 => some t201 else some false) else some false) h2 ?_))
      · simp only [arboristlaw45_CursorGets_.j0, Bool.false_eq_true, if_false]
      · refine Ev.congr (fun k => if_pos (by simp)) ?_
        refine Ev.bind (f := fun k (t200 : Bool) => if t200 = true then (arboristlaw45_knows.f k).bind fun t201 => some t201 else some false) (same_ev e y he) ?_
        refine Ev.congr (fun k => if_pos rfl) ?_
        exact Ev.bind (f := fun _ (t : Bool) => some t) knows_ev (Ev.now _)
end Go.Proofs.Ytfekpmbecoeijaa.Pure
