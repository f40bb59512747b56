import Derived.Test.YtgdbcogbbghjaaaPuB
import Derived.Test.YtgdbcogbbghjaaaQf24
import Derived.Test.YtgdbcogbbghjaaaQf25
set_option linter.unusedVariables false
namespace Go.Proofs.Ytgdbcogbbghjaaa.Pure
open Go.RowKit Go.Proofs.Ytgdbcogbbghjaaa.Q Go.Proofs.YtgdbcogbbghjaaaW.PrintWords Go.Proofs.YtgdbcogbbghjaaaW.PrintLast
open Hand (It Gr kidsF kidsL cloneB nodesOf kidsOf pathsOf fieldsOf getOf kidsF_mono)
theorem pieces_ev (l : List S53) (hl : l.length < 300) : Ev (fun k => arboristref42_SamePieces.f k l l) true := by
  have key : ∀ (q i : Nat), i + q = l.length → Ev (fun k => arboristref42_SamePieces.l0 k l l (i : Int)) true := by
    intro q
    induction q with
    | zero =>
      intro i hi
      exact Ev.step (f := fun _ => some true) (fun k => by simp only [arboristref42_SamePieces.l0]; rw [if_neg (by omega)]) (Ev.now _)
    | succ q ih =>
      intro i hi
      refine Ev.step (fun k => ?_) (ih (i + 1) (by omega))
      simp only [arboristref42_SamePieces.l0]
      rw [if_pos (by omega), if_pos (by omega), if_pos (by omega), if_neg (by simp), w64 (by omega) (by omega)]
      rfl
  unfold arboristref42_SamePieces.f
  exact Ev.congr (fun k => if_pos rfl) (key l.length 0 (by omega))
abbrev SF (k : Nat) (a b : S32) : Option Bool := arboristref42_Same.f k a.f0 a.f1 a.f2 a.f3 a.f4 a.f5 a.f6 b.f0 b.f1 b.f2 b.f3 b.f4 b.f5 b.f6
theorem rd32 {l : List S32} {i : Nat} {y : S32} (h : l[i]? = some y) : rd_T32 l (i : Int) = y := by
  unfold rd_T32
  rw [Int.toNat_natCast, List.getD_eq_getElem?_getD, h]
  rfl
theorem same_ev : ∀ (d : Nat) (n : S32), small d n = true → Ev (fun k => SF k n n) true
  | 0, n, h => by simp [small] at h
  | d + 1, n, h => by
    obtain ⟨h1, h2, h3⟩ := small_succ.1 h
    have key : ∀ (q i : Nat), i + q = n.f6.length → Ev (fun k => arboristref42_Same.l0 k (i : Int) n.f0 n.f1 n.f2 n.f3 n.f4 n.f5 n.f6 n.f0 n.f1 n.f2 n.f3 n.f4 n.f5 n.f6) true := by
      intro q
      induction q with
      | zero =>
        intro i hi
        exact Ev.step (f := fun _ => some true) (fun k => by simp only [arboristref42_Same.l0]; rw [if_neg (by omega)]) (Ev.now _)
      | succ q ih =>
        intro i hi
        have hi' : i < n.f6.length := by omega
        have hr : rd_T32 n.f6 (i : Int) = n.f6[i] := rd32 (List.getElem?_eq_getElem hi')
        have := same_ev d (n.f6[i]) (h3 _ (List.getElem_mem hi'))
        refine Ev.step (fun k => ?_) (Ev.bind (f := fun k t => if t = true then arboristref42_Same.l0 k ((i + 1 : Nat) : Int) n.f0 n.f1 n.f2 n.f3 n.f4 n.f5 n.f6 n.f0 n.f1 n.f2 n.f3 n.f4 n.f5 n.f6 else some false) this (Ev.congr (fun k => if_pos rfl) (ih (i + 1) (by omega))))
        simp only [arboristref42_Same.l0]
        rw [if_pos (by omega), if_pos (by omega), if_pos (by omega), w64 (by omega) (by omega), hr]
        rfl
    refine Ev.step (fun k => ?_) (Ev.bind (f := fun k t => if t = true then arboristref42_Same.j0 k ((n.f6.length : Int) != (n.f6.length : Int)) n.f0 n.f1 n.f2 n.f3 n.f4 n.f5 n.f6 n.f0 n.f1 n.f2 n.f3 n.f4 n.f5 n.f6 else arboristref42_Same.j0 k true n.f0 n.f1 n.f2 n.f3 n.f4 n.f5 n.f6 n.f0 n.f1 n.f2 n.f3 n.f4 n.f5 n.f6) (pieces_ev n.f4 h1) (Ev.congr (fun k => if_pos rfl) (Ev.step (fun k => ?_) (key n.f6.length 0 (by omega)))))
    · simp only [SF, arboristref42_Same.f, if_true]
    · simp only [arboristref42_Same.j0]
      rw [if_neg (by simp)]
      rfl
theorem few_true {g : Gr} {k : Nat} (h : arboristlaw46_fewGram.f k g.g0 g.g1 g.g2 g.g3 g.g4 = some true) : g.g2.length < 1000 := by
  unfold arboristlaw46_fewGram.f at h
  obtain ⟨b, _, h⟩ := Option.bind_eq_some_iff.1 h
  split at h
  · have := of_decide_eq_true (Option.some.inj h)
    omega
  · cases h
end Go.Proofs.Ytgdbcogbbghjaaa.Pure
