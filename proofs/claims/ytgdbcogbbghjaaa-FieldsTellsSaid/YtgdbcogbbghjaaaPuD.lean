import Derived.Test.YtgdbcogbbghjaaaPuB
import Derived.Test.YtgdbcogbbghjaaaQOp
import Derived.Test.YtgdbcogbbghjaaaQf32
set_option linter.unusedVariables false
namespace Go.Proofs.Ytgdbcogbbghjaaa.Pure
open Go.RowKit Go.Proofs.Ytgdbcogbbghjaaa.Q Go.Proofs.YtgdbcogbbghjaaaW.PrintWords Go.Proofs.YtgdbcogbbghjaaaW.PrintLast Go.Proofs.Ytgdbcogbbghjaaa.Op
open Hand (It Gr kidsF kidsL cloneB nodesOf kidsOf pathsOf fieldsOf getOf kidsF_mono)
def toA (it : It) : S65 := ⟨it.node, it.path, it.fld⟩
theorem eta32 (y : S32) : (⟨y.f0, y.f1, y.f2, y.f3, y.f4, y.f5, y.f6⟩ : S32) = y := by cases y; rfl
theorem rd32' {l : List S32} {i : Nat} {y : S32} (h : l[i]? = some y) : rd_T32 l (i : Int) = y := by
  unfold rd_T32
  rw [Int.toNat_natCast, List.getD_eq_getElem?_getD, h]
  rfl
theorem wf_f0 {y : S32} (h : W32 y) : -9223372036854775808 ≤ y.f0 ∧ y.f0 ≤ 9223372036854775807 := by
  obtain ⟨_, h0, _⟩ := h
  have := h0
  simp only [Lit.wf, Bool.and_eq_true, decide_eq_true_eq] at this
  exact this
theorem wf_kids {y : S32} (h : W32 y) : ∀ z ∈ y.f6, W32 z := by
  obtain ⟨_, _, _, _, _, _, _, h6⟩ := h
  exact h6
theorem field_ref (g : Gr) (n : S32) (i : Int) : fields_field.f 3 g.g0 g.g1 g.g2 g.g3 g.g4 n.f0 n.f1 n.f2 n.f3 n.f4 n.f5 n.f6 i = arboristref46_field.f g.g0 g.g1 g.g2 g.g3 g.g4 n.f0 n.f1 n.f2 n.f3 n.f4 n.f5 n.f6 i := by
  unfold fields_field.f arboristref46_field.f
  by_cases h1 : n.f1 < 0
  · rw [if_pos h1, if_pos h1]
    simp only [fields_field.j0, if_true]
  · rw [if_neg h1, if_neg h1]
    simp only [fields_field.j0]
    by_cases h2 : n.f1 ≥ (g.g3.length : Int)
    · rw [if_pos (by simpa using h2), if_pos h2]
    · rw [if_neg (by simpa using h2), if_neg h2]
theorem diss_ref {g : Gr} {y : S32} (hg : g.g2.length < 1000) (hg1 : g.g1.length ≤ 9223372036854775807) (hy : W32 y) : fields_dissolves.f g.g0 g.g1 g.g2 g.g3 g.g4 y.f0 y.f1 y.f2 y.f3 y.f4 y.f5 y.f6 = arboristref46_Dissolves.f g.g0 g.g1 g.g2 g.g3 g.g4 y.f0 y.f1 y.f2 y.f3 y.f4 y.f5 y.f6 := by
  obtain ⟨ha, hb⟩ := wf_f0 hy
  unfold fields_dissolves.f arboristref46_Dissolves.f
  by_cases c1 : y.f0 < 0
  · rw [if_pos c1, if_pos c1]
    rw [show wrap64 ((-1) - y.f0) = (-1) - y.f0 from w64 (by omega) (by omega), show wrap64 (-(g.g1.length : Int)) = -(g.g1.length : Int) from w64 (by omega) (by omega), show wrap64 (-(g.g2.length : Int)) = -(g.g2.length : Int) from w64 (by omega) (by omega), if_pos (show (-1) - y.f0 ≥ 0 by omega)]
    by_cases c2 : y.f0 ≥ -(g.g1.length : Int)
    · rw [if_pos c2, if_pos (show (-1) - y.f0 < (g.g1.length : Int) by omega)]
      by_cases c3 : y.f0 ≥ -(g.g2.length : Int)
      · rw [if_pos c3, if_pos (show (-1) - y.f0 < (g.g2.length : Int) by omega), if_pos (show 0 ≤ (-1) - y.f0 by omega), if_pos (show 0 ≤ (-1) - y.f0 by omega), if_pos (show (-1) - y.f0 < (g.g2.length : Int) by omega)]
      · rw [if_neg c3, if_neg (show ¬ (-1) - y.f0 < (g.g2.length : Int) by omega)]
    · rw [if_neg c2, if_neg (show ¬ (-1) - y.f0 < (g.g1.length : Int) by omega)]
  · rw [if_neg c1, if_neg c1]
abbrev AF (k : Nat) (g : Gr) (n : S32) (p : List Int) (f : ByteArray) : Option (List S65) := arboristref46_All.f k g.g0 g.g1 g.g2 g.g3 g.g4 n.f0 n.f1 n.f2 n.f3 n.f4 n.f5 n.f6 p f
theorem allL_ev {d : Nat} (g : Gr) (hg : g.g2.length < 1000) (hg1 : g.g1.length ≤ 9223372036854775807) (n : S32) (hn : n.f6.length < 300) (hW : ∀ y ∈ n.f6, W32 y) (path : List Int) (fd : ByteArray) (hp : path.length + d < 1000)
    (H : ∀ y ∈ n.f6, ∀ p f r, p.length + d ≤ 1000 → kidsF d g y p f = some r → r.length < 1000000 → Ev (fun k => AF k g y p f) (r.map toA)) :
    ∀ (l : List S32) (i : Nat) (r : List It) (acc : List S65), n.f6.drop i = l → kidsL (kidsF d g) g n path fd l i = some r → acc.length + r.length < 1000000 →
      Ev (fun k => arboristref46_All.l0 k path fd acc (i : Int) g.g0 g.g1 g.g2 g.g3 g.g4 n.f0 n.f1 n.f2 n.f3 n.f4 n.f5 n.f6) (acc ++ r.map toA) := by
  intro l
  induction l with
  | nil =>
    intro i r acc hd h _
    simp only [kidsL] at h
    obtain rfl := Option.some.inj h
    have hi : n.f6.length ≤ i := List.drop_eq_nil_iff.1 hd
    rw [List.map_nil, List.append_nil]
    exact Ev.step (f := fun _ => some acc) (fun k => by simp only [arboristref46_All.l0]; rw [if_neg (by omega)]) (Ev.now _)
  | cons y l ih =>
    intro i r acc hd h hr
    have hi : i < n.f6.length := by
      by_cases h : i < n.f6.length
      · exact h
      · rw [List.drop_eq_nil_of_le (by omega)] at hd
        cases hd
    have hd' := hd
    rw [List.drop_eq_getElem_cons hi] at hd'
    injection hd' with e1 e2
    have hmem : y ∈ n.f6 := e1 ▸ List.getElem_mem hi
    have hrd : rd_T32 n.f6 (i : Int) = y := rd32' (by rw [List.getElem?_eq_getElem hi, e1])
    simp only [kidsL] at h
    obtain ⟨f, hf, h⟩ := Option.bind_eq_some_iff.1 h
    obtain ⟨b, hb, h⟩ := Option.bind_eq_some_iff.1 h
    obtain ⟨a, ha, h⟩ := Option.bind_eq_some_iff.1 h
    obtain ⟨a2, ha2, h⟩ := Option.bind_eq_some_iff.1 h
    obtain rfl := Option.some.inj h
    rw [List.length_append] at hr
    rw [field_ref] at hf
    rw [diss_ref hg hg1 (hW y hmem)] at hb
    have hj : Ev (fun k => arboristref46_All.j1 k path fd acc (i : Int) (path ++ [(i : Int)]) (if f.toList = [] then fd else f) g.g0 g.g1 g.g2 g.g3 g.g4 n.f0 n.f1 n.f2 n.f3 n.f4 n.f5 n.f6) (acc ++ (a ++ a2).map toA) := by
      cases b with
      | true =>
        rw [if_pos rfl] at ha
        have h1 := H y hmem _ _ _ (by simp; omega) ha (by omega)
        have h2 := ih (i + 1) a2 (acc ++ a.map toA) e2 ha2 (by simp; omega)
        rw [List.append_assoc, ← List.map_append] at h2
        refine Ev.step (fun k => ?_) (Ev.bind (f := fun k (t190 : List S65) => if acc.length + t190.length < 1034834473200 then arboristref46_All.l0 k path fd (acc ++ t190) ((i + 1 : Nat) : Int) g.g0 g.g1 g.g2 g.g3 g.g4 n.f0 n.f1 n.f2 n.f3 n.f4 n.f5 n.f6 else none) h1 (Ev.congr (fun k => if_pos (by simp; omega)) h2))
        simp only [arboristref46_All.j1]
        rw [if_pos (by omega), if_pos (by omega), hrd, hb, Option.bind_some, if_pos rfl, w64 (by omega) (by omega)]
        rfl
      | false =>
        rw [if_neg (by decide)] at ha
        obtain rfl := Option.some.inj ha
        have h2 := ih (i + 1) a2 (acc ++ [toA ⟨path ++ [(i : Int)], if f.toList = [] then fd else f, y⟩]) e2 ha2 (by simp at hr ⊢; omega)
        rw [List.append_assoc] at h2
        refine Ev.step (fun k => ?_) h2
        simp only [arboristref46_All.j1]
        rw [if_pos (by omega), if_pos (by omega), hrd, hb, Option.bind_some, if_neg (by decide), if_pos (by omega), w64 (by omega) (by omega), eta32]
        rfl
    refine Ev.step (fun k => ?_) hj
    simp only [arboristref46_All.l0]
    rw [if_pos (by omega), if_pos (by simp; omega), Option.bind_some, if_pos (by simp; omega), Option.bind_some, hf, Option.bind_some, List.nil_append]
    by_cases c : f.toList = []
    · rw [if_pos c, if_pos c]
    · rw [if_neg c, if_neg c]
theorem all_ev (g : Gr) (hg : g.g2.length < 1000) (hg1 : g.g1.length ≤ 9223372036854775807) : ∀ (d : Nat) (n : S32), W32 n → small d n = true → ∀ (p : List Int) (f : ByteArray) (r : List It), p.length + d ≤ 1000 → kidsF d g n p f = some r → r.length < 1000000 → Ev (fun k => AF k g n p f) (r.map toA)
  | 0, n, _, h => by simp [small] at h
  | d + 1, n, hW, h => by
    intro p f r hp hr hl
    obtain ⟨h1, h2, h3⟩ := small_succ.1 h
    simp only [kidsF] at hr
    split at hr
    · have := allL_ev (d := d) g hg hg1 n h2 (wf_kids hW) p f (by omega) (fun y hy p f r hp hr hl => all_ev g hg hg1 d y (wf_kids hW y hy) (h3 y hy) p f r hp hr hl) n.f6 0 r [] rfl hr (by simpa using hl)
      exact Ev.step (fun k => by simp only [AF, arboristref46_All.f]; rfl) this
    · cases hr
end Go.Proofs.Ytgdbcogbbghjaaa.Pure
