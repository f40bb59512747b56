import Derived.Test.YtfekpmbecoeijaaQf3
import Derived.Test.YtfekpmbecoeijaaQOp
import Derived.Test.YtfekpmbecoeijaaPuK
set_option linter.unusedVariables false
namespace Go.Proofs.Ytfekpmbecoeijaa.Pure
open Go.RowKit Go.Proofs.Ytfekpmbecoeijaa.Q Go.Proofs.YtfekpmbecoeijaaW.PrintWords Go.Proofs.YtfekpmbecoeijaaW.PrintLast Go.Proofs.Ytfekpmbecoeijaa.Op
theorem CursorMoves : ∀ (x0 : S26) (x1 : List (S39)), Bnd x0 → (∀ a_ ∈ x1, W39 a_) → ∃ k, arboristlaw45_CursorMoves.f k x0.f0 x0.f1 x0.f2 x0.f3 x0.f4 x0.f5 x0.f6 x1 = some true := by
  intro n l hB _
  obtain ⟨b, hb, hs⟩ := few80 n hB
  refine Ev.rounds ?_
  unfold arboristlaw45_CursorMoves.f
  refine Ev.bind (f := fun k (b : Bool) => if (b = true ∧ l.length ≤ 30) ∧ (okT ⟨n.f0, n.f1, n.f2, n.f3, n.f4, n.f5, n.f6⟩) = false then none else arboristlaw45_knows.f k) hb ?_
  refine Ev.congr (fun k => if_neg ?_) knows_ev
  rintro ⟨⟨h1, _⟩, h2⟩
  rw [eta26, okT_iff.2 (hs h1)] at h2
  cases h2
end Go.Proofs.Ytfekpmbecoeijaa.Pure
