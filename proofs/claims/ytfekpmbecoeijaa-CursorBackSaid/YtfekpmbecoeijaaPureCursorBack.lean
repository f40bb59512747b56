/- The law CursorBack ends true. -/
import Derived.Test.YtfekpmbecoeijaaQf5
import Derived.Test.YtfekpmbecoeijaaQOp
import Derived.Test.YtfekpmbecoeijaaPuM
set_option linter.unusedVariables false
namespace Go.Proofs.Ytfekpmbecoeijaa.Pure
open Go.RowKit Go.Proofs.Ytfekpmbecoeijaa.Q Go.Proofs.YtfekpmbecoeijaaW.PrintWords Go.Proofs.YtfekpmbecoeijaaW.PrintLast Go.Proofs.Ytfekpmbecoeijaa.Op

theorem CursorBack : ∀ (x0 : S26) (x1 : List Int) (x2 : Int), Bnd x0 → (∀ a_ ∈ x1, (Lit.int .i64 a_).wf = true) → (Lit.int .i64 x2).wf = true → ∃ k, arboristlaw45_CursorBack.f k x0.f0 x0.f1 x0.f2 x0.f3 x0.f4 x0.f5 x0.f6 x1 x2 = some true := by
  intro n p at_ hB _ _
  obtain ⟨b, hb, hs⟩ := few80 n hB
  have hT : b = true → (okT n && decide (tot 100 n ≤ 2480)) = true := fun h => by
    obtain ⟨k, hk⟩ := hb.rounds
    subst h
    have h2 := few80_tot n hB hk
    exact Bool.and_eq_true_iff.2 ⟨okT_iff.2 h2.1, decide_eq_true h2.2⟩
  refine Ev.rounds ?_
  unfold arboristlaw45_CursorBack.f
  refine Ev.bind (f := fun k (b : Bool) => if (b = true ∧ p.length ≤ 20) ∧ (okT ⟨n.f0, n.f1, n.f2, n.f3, n.f4, n.f5, n.f6⟩ && decide (tot 100 ⟨n.f0, n.f1, n.f2, n.f3, n.f4, n.f5, n.f6⟩ ≤ 2480)) = false then none else arboristlaw45_knows.f k) hb ?_
  refine Ev.congr (fun k => if_neg ?_) knows_ev
  rintro ⟨⟨h1, _⟩, h2⟩
  rw [eta26, hT h1] at h2
  cases h2
end Go.Proofs.Ytfekpmbecoeijaa.Pure
