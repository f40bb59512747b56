/- A small tree is the same as itself; what Get finds. -/
import Derived.Test.YtfekpmbecoeijaaPuA
import Derived.Test.YtfekpmbecoeijaaQf16
import Derived.Test.YtfekpmbecoeijaaQf19
import Derived.Test.YtfekpmbecoeijaaQf20
import Derived.Test.YtfekpmbecoeijaaQf8
set_option linter.unusedVariables false
namespace Go.Proofs.Ytfekpmbecoeijaa.Pure
open Go.RowKit Go.Proofs.Ytfekpmbecoeijaa.Q Go.Proofs.YtfekpmbecoeijaaW.PrintWords Go.Proofs.YtfekpmbecoeijaaW.PrintLast
open Hand (cloneB)

theorem knows_ev : Ev (fun k => arboristlaw45_knows.f k) true := ⟨10, fun _ hk => if_pos hk⟩
theorem eta26 (y : S26) : (⟨y.f0, y.f1, y.f2, y.f3, y.f4, y.f5, y.f6⟩ : S26) = y := by cases y; rfl
/-! ### A small tree is the same as itself -/
theorem pieces_ev (l : List S76) (hl : l.length < 300) : Ev (fun k => arboristref42_SamePieces.f k l l) true := by
  have key : ∀ (q i : Nat), i + q = l.length → Ev (fun k => arboristref42_SamePieces.l0 k l l (i : Int)) true := by
    intro q
    induction q with
    | zero =>
      intro i hi
      exact Ev.step (f := fun _ => some true) (fun k => by simp only [arboristref42_SamePieces.l0]; rw [if_neg (by omega)]) (Ev.now _)
    | succ q ih =>
      intro i hi
      refine Ev.step (fun k => ?_) (ih (i + 1) (by omega))
      simp only [arboristref42_SamePieces.l0]
      rw [if_pos (by omega), if_pos (by omega), if_pos (by omega), if_neg (by simp), w64 (by omega) (by omega)]
      rfl
  unfold arboristref42_SamePieces.f
  exact Ev.congr (fun k => if_pos rfl) (key l.length 0 (by omega))
abbrev SF (k : Nat) (a b : S26) : Option Bool := arboristref42_Same.f k a.f0 a.f1 a.f2 a.f3 a.f4 a.f5 a.f6 b.f0 b.f1 b.f2 b.f3 b.f4 b.f5 b.f6
theorem rd26 {l : List S26} {i : Nat} {y : S26} (h : l[i]? = some y) : rd_T26 l (i : Int) = y := by
  unfold rd_T26
  rw [Int.toNat_natCast, List.getD_eq_getElem?_getD, h]
  rfl
theorem same_ev : ∀ (d : Nat) (n : S26), small d n = true → Ev (fun k => SF k n n) true
  | 0, n, h => by simp [small] at h
  | d + 1, n, h => by
    obtain ⟨h1, h2, h3⟩ := small_succ.1 h
    have key : ∀ (q i : Nat), i + q = n.f6.length → Ev (fun k => arboristref42_Same.l0 k (i : Int) n.f0 n.f1 n.f2 n.f3 n.f4 n.f5 n.f6 n.f0 n.f1 n.f2 n.f3 n.f4 n.f5 n.f6) true := by
      intro q
      induction q with
      | zero =>
        intro i hi
        exact Ev.step (f := fun _ => some true) (fun k => by simp only [arboristref42_Same.l0]; rw [if_neg (by omega)]) (Ev.now _)
      | succ q ih =>
        intro i hi
        have hi' : i < n.f6.length := by omega
        have hr : rd_T26 n.f6 (i : Int) = n.f6[i] := rd26 (List.getElem?_eq_getElem hi')
        have := same_ev d (n.f6[i]) (h3 _ (List.getElem_mem hi'))
        refine Ev.step (fun k => ?_) (Ev.bind (f := fun k t => if t = true then arboristref42_Same.l0 k ((i + 1 : Nat) : Int) n.f0 n.f1 n.f2 n.f3 n.f4 n.f5 n.f6 n.f0 n.f1 n.f2 n.f3 n.f4 n.f5 n.f6 else some false) this (Ev.congr (fun k => if_pos rfl) (ih (i + 1) (by omega))))
        simp only [arboristref42_Same.l0]
        rw [if_pos (by omega), if_pos (by omega), if_pos (by omega), w64 (by omega) (by omega), hr]
        rfl
    refine Ev.step (fun k => ?_) (Ev.bind (f := fun k t => if t = true then arboristref42_Same.j0 k ((n.f6.length : Int) != (n.f6.length : Int)) n.f0 n.f1 n.f2 n.f3 n.f4 n.f5 n.f6 n.f0 n.f1 n.f2 n.f3 n.f4 n.f5 n.f6 else arboristref42_Same.j0 k true n.f0 n.f1 n.f2 n.f3 n.f4 n.f5 n.f6 n.f0 n.f1 n.f2 n.f3 n.f4 n.f5 n.f6) (pieces_ev n.f4 h1) (Ev.congr (fun k => if_pos rfl) (Ev.step (fun k => ?_) (key n.f6.length 0 (by omega)))))
    · simp only [SF, arboristref42_Same.f, if_true]
    · simp only [arboristref42_Same.j0]
      rw [if_neg (by simp)]
      rfl

/-- The node at a path. -/
def getP : S26 → List Int → Option S26
  | n, [] => some n
  | n, i :: p => if 0 ≤ i ∧ i < (n.f6.length : Int) then getP (rd_T26 n.f6 i) p else none
def tup (y : S26) (b : Bool) : Int × Int × Int × Int × (List (S76)) × ByteArray × (List (S26)) × Bool := (y.f0, y.f1, y.f2, y.f3, y.f4, y.f5, y.f6, b)
def found : Option S26 → Int × Int × Int × Int × (List (S76)) × ByteArray × (List (S26)) × Bool
  | some y => tup y true
  | none => tup z26 false
theorem small_rd {d : Nat} {n : S26} {i : Int} (h : small (d + 1) n = true) (h0 : 0 ≤ i) (h1 : i < (n.f6.length : Int)) : small d (rd_T26 n.f6 i) = true := by
  have hl : i.toNat < n.f6.length := by omega
  have : rd_T26 n.f6 i = n.f6[i.toNat] := by simp [rd_T26, hl]
  rw [this]
  exact (small_succ.1 h).2.2 _ (List.getElem_mem hl)
theorem small_get : ∀ (p : List Int) (d : Nat) (n y : S26), small d n = true → getP n p = some y → ∃ e, small e y = true
  | [], d, n, y, h, hg => by
    obtain rfl := Option.some.inj hg
    exact ⟨d, h⟩
  | i :: p, 0, n, y, h, hg => by simp [small] at h
  | i :: p, d + 1, n, y, h, hg => by
    unfold getP at hg
    split at hg
    · rename_i hi
      exact small_get p d _ y (small_rd h hi.1 hi.2) hg
    · cases hg
theorem ref_get_ev (p : List Int) (hp : p.length ≤ 100) : ∀ (q i : Nat) (n : S26), i + q = p.length → Ev (fun k => arboristref45_Get.l0 k p (i : Int) n.f0 n.f1 n.f2 n.f3 n.f4 n.f5 n.f6) (found (getP n (p.drop i))) := by
  intro q
  induction q with
  | zero =>
    intro i n hi
    rw [List.drop_of_length_le (by omega)]
    refine Ev.step (f := fun _ => some (found (getP n []))) (fun k => ?_) (Ev.now _)
    simp only [arboristref45_Get.l0]
    rw [if_neg (by omega)]
    rfl
  | succ q ih =>
    intro i n hi
    have hi' : i < p.length := by omega
    have hr : rd p (i : Int) = p[i] := by simp [rd, hi']
    rw [List.drop_eq_getElem_cons hi']
    unfold getP
    by_cases h0 : p[i] < 0
    · rw [if_neg (by omega)]
      refine Ev.step (f := fun _ => some (found none)) (fun k => ?_) (Ev.now _)
      simp only [arboristref45_Get.l0]
      rw [if_pos (by omega), if_pos (by omega), hr, if_pos h0]
      rfl
    by_cases h1 : p[i] ≥ (n.f6.length : Int)
    · rw [if_neg (by omega)]
      refine Ev.step (f := fun _ => some (found none)) (fun k => ?_) (Ev.now _)
      simp only [arboristref45_Get.l0]
      rw [if_pos (by omega), if_pos (by omega), hr, if_neg h0, if_pos h1]
      rfl
    · rw [if_pos (by omega)]
      refine Ev.step (fun k => ?_) (ih (i + 1) (rd_T26 n.f6 p[i]) (by omega))
      simp only [arboristref45_Get.l0]
      rw [if_pos (by omega), if_pos (by omega), hr, if_neg h0, if_neg h1, if_pos (by omega), if_pos (by omega), w64 (by omega) (by omega)]
      rfl
theorem clone_ev {d : Nat} {n : S26} (h : cloneB d n = true) : Ev (fun k => cursor_clone.f k n.f0 n.f1 n.f2 n.f3 n.f4 n.f5 n.f6) (n.f0, n.f1, n.f2, n.f3, n.f4, n.f5, n.f6) := by
  refine ⟨d, fun k hk => ?_⟩
  show cursor_clone.f k n.f0 n.f1 n.f2 n.f3 n.f4 n.f5 n.f6 = _
  unfold cursor_clone.f
  rw [if_pos]
  rw [eta26]
  obtain ⟨j, rfl⟩ := Nat.exists_eq_add_of_le hk
  clear hk
  induction j with
  | zero => exact h
  | succ j ih => exact Hand.cloneB_mono _ _ ih
theorem get_ev (p : List Int) (hp : p.length ≤ 100) : ∀ (q i : Nat) (n : S26), i + q = p.length → (∀ y, getP n (p.drop i) = some y → ∃ d, cloneB d y = true) → Ev (fun k => cursor_Get.l0 k p (p.length : Int) (i : Int) n.f0 n.f1 n.f2 n.f3 n.f4 n.f5 n.f6) (found (getP n (p.drop i))) := by
  intro q
  induction q with
  | zero =>
    intro i n hi hc
    rw [List.drop_of_length_le (by omega)] at hc ⊢
    obtain ⟨d, hd⟩ := hc n rfl
    refine Ev.step (fun k => ?_) (Ev.bind (f := fun _ (t : Int × Int × Int × Int × (List (S76)) × ByteArray × (List (S26))) => some (t.1, t.2.1, t.2.2.1, t.2.2.2.1, t.2.2.2.2.1, t.2.2.2.2.2.1, t.2.2.2.2.2.2, true)) (clone_ev hd) (Ev.now _))
    simp only [cursor_Get.l0]
    rw [if_neg (by omega)]
  | succ q ih =>
    intro i n hi hc
    have hi' : i < p.length := by omega
    have hr : rd p (i : Int) = p[i] := by simp [rd, hi']
    rw [List.drop_eq_getElem_cons hi'] at hc ⊢
    unfold getP at hc ⊢
    by_cases h0 : p[i] < 0
    · rw [if_neg (by omega)]
      refine Ev.step (f := fun _ => some (found none)) (fun k => ?_) (Ev.now _)
      simp only [cursor_Get.l0]
      rw [if_pos (by omega), if_pos (by omega), if_pos (by omega), hr, if_pos h0]
      rfl
    by_cases h1 : p[i] ≥ (n.f6.length : Int)
    · rw [if_neg (by omega)]
      refine Ev.step (f := fun _ => some (found none)) (fun k => ?_) (Ev.now _)
      simp only [cursor_Get.l0]
      rw [if_pos (by omega), if_pos (by omega), if_pos (by omega), hr, if_neg h0, if_pos h1]
      rfl
    · rw [if_pos (by omega)] at hc ⊢
      refine Ev.step (fun k => ?_) (ih (i + 1) (rd_T26 n.f6 p[i]) (by omega) hc)
      simp only [cursor_Get.l0]
      rw [if_pos (by omega), if_pos (by omega), if_pos (by omega), hr, if_neg h0, if_neg h1, if_pos (by omega), if_pos (by omega), w64 (by omega) (by omega)]
      rfl
end Go.Proofs.Ytfekpmbecoeijaa.Pure
