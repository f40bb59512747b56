import Derived.Test.YtgdbcogbbghjaaaPuC
import Derived.Test.YtgdbcogbbghjaaaQf26
set_option linter.unusedVariables false
namespace Go.Proofs.Ytgdbcogbbghjaaa.Pure
open Go.RowKit Go.Proofs.Ytgdbcogbbghjaaa.Q Go.Proofs.YtgdbcogbbghjaaaW.PrintWords Go.Proofs.YtgdbcogbbghjaaaW.PrintLast
open Hand (It Gr kidsF kidsL cloneB nodesOf kidsOf pathsOf fieldsOf getOf kidsF_mono)
def TotP {α : Type} (P : α → Prop) (f : Nat → Option α) : Prop := ∃ v, Ev f v ∧ P v
theorem TotP.now {α : Type} {P : α → Prop} {v : α} (h : P v) : TotP P (fun _ => some v) := ⟨v, Ev.now v, h⟩
theorem TotP.step {α : Type} {P : α → Prop} {f g : Nat → Option α} (h : ∀ k, f (k + 1) = g k) (t : TotP P g) : TotP P f := by
  obtain ⟨v, a, b⟩ := t
  exact ⟨v, Ev.step h a, b⟩
theorem TotP.ite {α : Type} {P : α → Prop} {f g : Nat → Option α} {c : Prop} [Decidable c] (a : c → TotP P f) (b : ¬ c → TotP P g) : TotP P (fun k => if c then f k else g k) := by
  by_cases h : c
  · simp only [if_pos h]
    exact a h
  · simp only [if_neg h]
    exact b h
theorem TotP.bind {α β : Type} {P : β → Prop} {Q : α → Prop} {f : Nat → Option α} {g : Nat → α → Option β} (a : TotP Q f) (b : ∀ v, Q v → TotP P (fun k => g k v)) : TotP P (fun k => (f k).bind (g k)) := by
  obtain ⟨v, h, q⟩ := a
  obtain ⟨u, h2, q2⟩ := b v q
  exact ⟨u, Ev.bind h h2, q2⟩
theorem TotP.mono {α : Type} {P Q : α → Prop} {f : Nat → Option α} (a : TotP P f) (h : ∀ v, P v → Q v) : TotP Q f := by
  obtain ⟨v, e, p⟩ := a
  exact ⟨v, e, h v p⟩
section
variable (g : Gr)
theorem nx {i n : Nat} (h : i < n) (hn : n ≤ 9223372036854775807) : wrap64 ((i : Int) + 1) = ((i + 1 : Nat) : Int) := by
  rw [w64 (by omega) (by omega)]
  rfl
theorem counts_tot (h2 : g.g2.length < 1000) (h3 : g.g3.length ≤ 9223372036854775807) : TotP (fun b => b = false → 1 ≤ g.g3.length ∧ g.g3.length ≤ 1024 ∧ g.g0.length ≤ 256 ∧ g.g1.length ≤ 512) (fun k => arboristref15_counts.f k g.g0 g.g1 g.g2 g.g3 g.g4) := by
  have L1 : g.g0.length ≤ 256 → g.g1.length ≤ 512 → ∀ (q i : Nat) (x4 : Int), i + q = g.g3.length → TotP (fun b => b = false → 1 ≤ g.g3.length ∧ g.g3.length ≤ 1024 ∧ g.g0.length ≤ 256 ∧ g.g1.length ≤ 512) (fun k => arboristref15_counts.l1 k x4 (i : Int) g.g0 g.g1 g.g2 g.g3 g.g4) := by
    intro a0 a1 q
    induction q with
    | zero =>
      intro i x4 hi
      refine TotP.step (fun k => (by rw [arboristref15_counts.l1])) ?_
      refine TotP.ite (fun h => by omega) (fun _ => ?_)
      refine TotP.ite (fun h => TotP.now (by simp)) (fun h => ?_)
      refine TotP.ite (fun h => TotP.now (by simp)) (fun h => ?_)
      refine TotP.ite (fun h => TotP.now (by simp)) (fun h => TotP.now (fun _ => ⟨by omega, by omega, a0, a1⟩))
    | succ q ih =>
      intro i x4 hi
      refine TotP.step (fun k => (by rw [arboristref15_counts.l1])) ?_
      rw [nx (n := g.g3.length) (by omega) h3]
      refine TotP.ite (fun h => ?_) (fun _ => by omega)
      refine TotP.ite (fun h => ih (i + 1) _ (by omega)) (fun _ => by omega)
  have L0 : g.g0.length ≤ 256 → g.g1.length ≤ 512 → ∀ (q i : Nat), i + q = g.g2.length → TotP (fun b => b = false → 1 ≤ g.g3.length ∧ g.g3.length ≤ 1024 ∧ g.g0.length ≤ 256 ∧ g.g1.length ≤ 512) (fun k => arboristref15_counts.l0 k (i : Int) g.g0 g.g1 g.g2 g.g3 g.g4) := by
    intro a0 a1 q
    induction q with
    | zero =>
      intro i hi
      refine TotP.step (fun k => (by rw [arboristref15_counts.l0])) ?_
      refine TotP.ite (fun h => by omega) (fun _ => L1 a0 a1 g.g3.length 0 0 (by omega))
    | succ q ih =>
      intro i hi
      refine TotP.step (fun k => (by rw [arboristref15_counts.l0])) ?_
      rw [nx (n := g.g2.length) (by omega) (by omega)]
      refine TotP.ite (fun h => ?_) (fun _ => by omega)
      refine TotP.ite (fun h => ?_) (fun _ => by omega)
      exact TotP.ite (fun h => TotP.now (by simp)) (fun h => TotP.ite (fun h => TotP.now (by simp)) (fun h => ih (i + 1) (by omega)))
  have J : ∀ b : Bool, (b = false → g.g0.length ≤ 256 ∧ g.g1.length ≤ 512) → TotP (fun b => b = false → 1 ≤ g.g3.length ∧ g.g3.length ≤ 1024 ∧ g.g0.length ≤ 256 ∧ g.g1.length ≤ 512) (fun k => arboristref15_counts.j0 k b g.g0 g.g1 g.g2 g.g3 g.g4) := by
    intro b hb
    refine TotP.step (fun k => (by rw [arboristref15_counts.j0])) ?_
    refine TotP.ite (fun h => TotP.now (by simp)) (fun h => ?_)
    obtain ⟨a0, a1⟩ := hb (by simpa using h)
    exact L0 a0 a1 g.g2.length 0 (by omega)
  unfold arboristref15_counts.f
  refine TotP.ite (fun h => J _ (by simp)) (fun h => TotP.ite (fun h => J _ (by simp)) (fun h => TotP.ite (fun h => J _ (by simp)) (fun h => TotP.ite (fun h => J _ (by simp)) (fun h => J _ (fun _ => ⟨by omega, by omega⟩)))))
theorem twice_tot (l : List ByteArray) (hl : l.length ≤ 1000) : TotP (fun _ => True) (fun k => arboristref15_twice.f k l) := by
  have key : ∀ (q i : Nat), i + q = l.length → TotP (fun _ => True) (fun k => arboristref15_twice.l0 k l (i : Int)) := by
    intro q
    induction q with
    | zero =>
      intro i hi
      refine TotP.step (fun k => (by rw [arboristref15_twice.l0])) ?_
      exact TotP.ite (fun h => by omega) (fun _ => TotP.now trivial)
    | succ q ih =>
      intro i hi
      refine TotP.step (fun k => (by rw [arboristref15_twice.l0])) ?_
      refine TotP.ite (fun h => ?_) (fun _ => TotP.now trivial)
      have k1 : ∀ (p j : Nat), j + p = i → TotP (fun _ => True) (fun k => arboristref15_twice.l1 k l (i : Int) (j : Int)) := by
        intro p
        induction p with
        | zero =>
          intro j hj
          refine TotP.step (fun k => (by rw [arboristref15_twice.l1])) ?_
          rw [nx (n := l.length) (i := i) (by omega) (by omega)]
          exact TotP.ite (fun h => by omega) (fun _ => ih (i + 1) (by omega))
        | succ p ihp =>
          intro j hj
          refine TotP.step (fun k => (by rw [arboristref15_twice.l1])) ?_
          rw [nx (n := l.length) (i := j) (by omega) (by omega)]
          repeat' first
            | exact ihp (j + 1) (by omega)
            | exact TotP.now trivial
            | refine TotP.ite (fun h => ?_) (fun h => ?_)
            | (exfalso; omega)
      exact k1 i 0 (by omega)
  exact key l.length 0 (by omega)
theorem is_tot (s : Int) : TotP (fun _ => True) (fun _ => arboristref15_Is.f g.g0 g.g1 g.g2 g.g3 g.g4 s) := by
  unfold arboristref15_Is.f
  repeat' first
    | exact TotP.now trivial
    | refine TotP.ite (fun h => ?_) (fun h => ?_)
theorem start_tot (h1 : 1 ≤ g.g3.length) (h3 : g.g3.length ≤ 1024) : TotP (fun b => b = false → (rd_T67 g.g3 0).f1.length = 1) (fun k => arboristref15_start.f k g.g0 g.g1 g.g2 g.g3 g.g4) := by
  have L : (rd_T67 g.g3 0).f1.length = 1 → ∀ (q i : Nat), i + q = g.g3.length → TotP (fun b => b = false → (rd_T67 g.g3 0).f1.length = 1) (fun k => arboristref15_start.l0 k (i : Int) g.g0 g.g1 g.g2 g.g3 g.g4) := by
    intro hr q
    induction q with
    | zero =>
      intro i hi
      refine TotP.step (fun k => (by rw [arboristref15_start.l0])) ?_
      exact TotP.ite (fun h => by omega) (fun _ => TotP.now (fun _ => hr))
    | succ q ih =>
      intro i hi
      refine TotP.step (fun k => (by rw [arboristref15_start.l0])) ?_
      rw [nx (n := g.g3.length) (by omega) (by omega)]
      repeat' first
        | exact ih (i + 1) (by omega)
        | exact TotP.now (fun _ => hr)
        | refine TotP.ite (fun h => ?_) (fun h => ?_)
        | (exfalso; omega)
  have J : ∀ b : Bool, (b = false → (rd_T67 g.g3 0).f1.length = 1) → TotP (fun b => b = false → (rd_T67 g.g3 0).f1.length = 1) (fun k => arboristref15_start.j0 k b g.g0 g.g1 g.g2 g.g3 g.g4) := by
    intro b hb
    refine TotP.step (fun k => (by rw [arboristref15_start.j0])) ?_
    exact TotP.ite (fun h => TotP.now (by simp)) (fun h => L (hb (by simpa using h)) (g.g3.length - 1) 1 (by omega))
  unfold arboristref15_start.f
  refine TotP.ite (fun h => ?_) (fun h => by omega)
  refine TotP.ite (fun h => ?_) (fun h => J _ (by simp))
  refine TotP.ite (fun hr => ?_) (fun h => J _ (by simp))
  have hr' : (rd_T67 g.g3 0).f1.length = 1 := by omega
  refine TotP.ite (fun h => ?_) (fun h => by omega)
  refine TotP.ite (fun h => J _ (by simp)) (fun h => ?_)
  exact TotP.bind (is_tot g _) (fun v _ => J _ (fun _ => hr'))
theorem levels_tot (h0 : g.g0.length ≤ 256) (h4 : g.g4.length ≤ 1000) (hl : ∀ i : Nat, (rd_T78 g.g4 (i : Int)).f1.length ≤ 1000) : TotP (fun _ => True) (fun k => arboristref15_levels.f k g.g0 g.g1 g.g2 g.g3 g.g4) := by
  have L : ∀ (q i : Nat) (x3 : List Bool), i + q = g.g4.length → x3.length = g.g0.length → TotP (fun _ => True) (fun k => arboristref15_levels.l0 k x3 (i : Int) g.g0 g.g1 g.g2 g.g3 g.g4) := by
    intro q
    induction q with
    | zero =>
      intro i x3 hi hx
      refine TotP.step (fun k => (by rw [arboristref15_levels.l0])) ?_
      exact TotP.ite (fun h => by omega) (fun _ => TotP.now trivial)
    | succ q ih =>
      intro i x3 hi hx
      have L1 : ∀ (p j : Nat) (x3 : List Bool), j + p = (rd_T78 g.g4 (i : Int)).f1.length → x3.length = g.g0.length → TotP (fun _ => True) (fun k => arboristref15_levels.l1 k x3 (i : Int) (j : Int) g.g0 g.g1 g.g2 g.g3 g.g4 (rd_T78 g.g4 (i : Int)).f0 (rd_T78 g.g4 (i : Int)).f1) := by
        intro p
        induction p with
        | zero =>
          intro j x3 hj hx
          refine TotP.step (fun k => (by rw [arboristref15_levels.l1])) ?_
          rw [nx (n := g.g4.length) (i := i) (by omega) (by omega)]
          exact TotP.ite (fun h => by omega) (fun _ => ih (i + 1) x3 (by omega) hx)
        | succ p ihp =>
          intro j x3 hj hx
          have := hl i
          refine TotP.step (fun k => (by rw [arboristref15_levels.l1])) ?_
          rw [nx (n := (rd_T78 g.g4 (i : Int)).f1.length) (i := j) (by omega) (by omega)]
          repeat' first
            | exact ihp (j + 1) _ (by omega) (by rw [List.length_set]; exact hx)
            | exact TotP.now trivial
            | refine TotP.ite (fun h => ?_) (fun h => ?_)
            | (exfalso; omega)
      have J : ∀ b : Bool, TotP (fun _ => True) (fun k => arboristref15_levels.j1 k x3 (i : Int) b g.g0 g.g1 g.g2 g.g3 g.g4 (rd_T78 g.g4 (i : Int)).f0 (rd_T78 g.g4 (i : Int)).f1) := by
        intro b
        refine TotP.step (fun k => (by rw [arboristref15_levels.j1])) ?_
        exact TotP.ite (fun h => TotP.now trivial) (fun h => L1 (rd_T78 g.g4 (i : Int)).f1.length 0 x3 (by omega) hx)
      refine TotP.step (fun k => (by rw [arboristref15_levels.l0])) ?_
      repeat' first
        | exact J _
        | exact TotP.now trivial
        | refine TotP.ite (fun h => ?_) (fun h => ?_)
        | (exfalso; omega)
  unfold arboristref15_levels.f
  refine TotP.ite (fun h => TotP.ite (fun h => ?_) (fun h => by omega)) (fun h => by omega)
  exact L g.g4.length 0 _ (by omega) (by simp)
theorem size_tot : ∀ (d : Nat) (n : S32), small d n = true → TotP (fun _ => True) (fun k => arboristref42_Size.f k n.f0 n.f1 n.f2 n.f3 n.f4 n.f5 n.f6)
  | 0, n, h => by simp [small] at h
  | d + 1, n, h => by
    obtain ⟨h1, h2, h3⟩ := small_succ.1 h
    have L : ∀ (q i : Nat) (x : Int), i + q = n.f6.length → TotP (fun _ => True) (fun k => arboristref42_Size.l0 k x (i : Int) n.f0 n.f1 n.f2 n.f3 n.f4 n.f5 n.f6) := by
      intro q
      induction q with
      | zero =>
        intro i x hi
        refine TotP.step (fun k => (by rw [arboristref42_Size.l0])) ?_
        exact TotP.ite (fun h => by omega) (fun _ => TotP.now trivial)
      | succ q ih =>
        intro i x hi
        have hi' : i < n.f6.length := by omega
        have hr : rd_T32 n.f6 (i : Int) = n.f6[i] := rd32 (List.getElem?_eq_getElem hi')
        refine TotP.step (fun k => (by rw [arboristref42_Size.l0])) ?_
        rw [nx (n := n.f6.length) (by omega) (by omega), hr]
        refine TotP.ite (fun h => TotP.ite (fun h => ?_) (fun h => by omega)) (fun h => by omega)
        exact TotP.bind (size_tot d (n.f6[i]) (h3 _ (List.getElem_mem hi'))) (fun v _ => ih (i + 1) _ (by omega))
    refine TotP.step (fun k => (by rw [arboristref42_Size.f])) ?_
    exact L n.f6.length 0 1 (by omega)
theorem lead_tot (l : List S53) (hl : l.length < 300) : TotP (fun _ => True) (fun k => arboristref42_lead.f k g.g0 g.g1 g.g2 g.g3 g.g4 l) := by
  have L : ∀ (q i : Nat), i + q = l.length → TotP (fun _ => True) (fun k => arboristref42_lead.l0 k l (i : Int) g.g0 g.g1 g.g2 g.g3 g.g4) := by
    intro q
    induction q with
    | zero =>
      intro i hi
      refine TotP.step (fun k => (by rw [arboristref42_lead.l0])) ?_
      exact TotP.ite (fun h => by omega) (fun _ => TotP.now trivial)
    | succ q ih =>
      intro i hi
      refine TotP.step (fun k => (by rw [arboristref42_lead.l0])) ?_
      rw [nx (n := l.length) (by omega) (by omega)]
      repeat' first
        | exact ih (i + 1) (by omega)
        | exact TotP.now trivial
        | refine TotP.ite (fun h => ?_) (fun h => ?_)
        | (exfalso; omega)
  unfold arboristref42_lead.f
  exact L l.length 0 (by omega)
theorem byRule_tot (n : S32) (hn : n.f6.length < 300) : TotP (fun _ => True) (fun k => arboristref42_byRule.f k g.g0 g.g1 g.g2 g.g3 g.g4 n.f0 n.f1 n.f2 n.f3 n.f4 n.f5 n.f6) := by
  have L : 0 ≤ n.f1 → n.f1 < (g.g3.length : Int) → n.f6.length = (rd_T67 g.g3 n.f1).f1.length → ∀ (q i : Nat), i + q = n.f6.length → TotP (fun _ => True) (fun k => arboristref42_byRule.l0 k (i : Int) g.g0 g.g1 g.g2 g.g3 g.g4 n.f0 n.f1 n.f2 n.f3 n.f4 n.f5 n.f6) := by
    intro a1 a2 a3 q
    induction q with
    | zero =>
      intro i hi
      refine TotP.step (fun k => (by rw [arboristref42_byRule.l0])) ?_
      exact TotP.ite (fun h => by omega) (fun _ => TotP.now trivial)
    | succ q ih =>
      intro i hi
      refine TotP.step (fun k => (by rw [arboristref42_byRule.l0])) ?_
      rw [nx (n := n.f6.length) (by omega) (by omega)]
      repeat' first
        | exact ih (i + 1) (by omega)
        | exact TotP.now trivial
        | refine TotP.ite (fun h => ?_) (fun h => ?_)
        | (exfalso; omega)
  have J : ∀ b : Bool, (b = false → 0 ≤ n.f1 ∧ n.f1 < (g.g3.length : Int) ∧ n.f6.length = (rd_T67 g.g3 n.f1).f1.length) → TotP (fun _ => True) (fun k => arboristref42_byRule.j0 k b g.g0 g.g1 g.g2 g.g3 g.g4 n.f0 n.f1 n.f2 n.f3 n.f4 n.f5 n.f6) := by
    intro b hb
    refine TotP.step (fun k => (by rw [arboristref42_byRule.j0])) ?_
    refine TotP.ite (fun h => TotP.now trivial) (fun h => ?_)
    obtain ⟨a1, a2, a3⟩ := hb (by simpa using h)
    exact L a1 a2 a3 n.f6.length 0 (by omega)
  unfold arboristref42_byRule.f
  refine TotP.ite (fun h => J _ (by simp)) (fun h => TotP.ite (fun h => J _ (by simp)) (fun h2 => TotP.ite (fun h3 => TotP.ite (fun h4 => TotP.ite (fun h5 => J _ (fun hb => ⟨h3, h4, ?_⟩)) (fun h => J _ (by simp))) (fun h => by omega)) (fun h => by omega)))
  simp at hb
  omega
theorem rule_tot (h3 : g.g3.length ≤ 1024) (i : Nat) (hi : i < g.g3.length) : TotP (fun _ => True) (fun k => arboristref15_rule.f k g.g0 g.g1 g.g2 g.g3 g.g4 (i : Int)) := by
  obtain ⟨x, hx⟩ : ∃ x, x = rd_T67 g.g3 (i : Int) := ⟨_, rfl⟩
  have J2 : ∀ b : Bool, TotP (fun _ => True) (fun k => arboristref15_rule.j2 k b g.g0 g.g1 g.g2 g.g3 g.g4 x.f0 x.f1 x.f2 x.f3 x.f4) := by
    intro b
    refine TotP.step (fun k => (by rw [arboristref15_rule.j2])) ?_
    repeat' first
      | exact TotP.now trivial
      | refine TotP.ite (fun h => ?_) (fun h => ?_)
  have L : x.f1.length ≤ 32 → ∀ (q j : Nat), j + q = x.f1.length → TotP (fun _ => True) (fun k => arboristref15_rule.l0 k (j : Int) g.g0 g.g1 g.g2 g.g3 g.g4 x.f0 x.f1 x.f2 x.f3 x.f4) := by
    intro hx q
    induction q with
    | zero =>
      intro j hj
      refine TotP.step (fun k => (by rw [arboristref15_rule.l0])) ?_
      exact TotP.ite (fun h => by omega) (fun _ => TotP.ite (fun h => J2 _) (fun h => J2 _))
    | succ q ih =>
      intro j hj
      refine TotP.step (fun k => (by rw [arboristref15_rule.l0])) ?_
      rw [nx (n := x.f1.length) (by omega) (by omega)]
      refine TotP.ite (fun h => TotP.ite (fun h => TotP.bind (is_tot g _) (fun v _ => ?_)) (fun h => by omega)) (fun h => by omega)
      repeat' first
        | exact ih (j + 1) (by omega)
        | exact TotP.now trivial
        | refine TotP.ite (fun h => ?_) (fun h => ?_)
        | (exfalso; omega)
  have J : ∀ b : Bool, (b = false → x.f1.length ≤ 32) → TotP (fun _ => True) (fun k => arboristref15_rule.j0 k b g.g0 g.g1 g.g2 g.g3 g.g4 x.f0 x.f1 x.f2 x.f3 x.f4) := by
    intro b hb
    refine TotP.step (fun k => (by rw [arboristref15_rule.j0])) ?_
    exact TotP.ite (fun h => TotP.now trivial) (fun h => L (hb (by simpa using h)) x.f1.length 0 (by omega))
  unfold arboristref15_rule.f
  rw [← hx]
  refine TotP.ite (fun h => ?_) (fun h => by omega)
  refine TotP.ite (fun h => ?_) (fun h => by omega)
  refine TotP.ite (fun h => J _ (by simp)) (fun h => ?_)
  refine TotP.ite (fun h => J _ (by simp)) (fun h => ?_)
  refine TotP.ite (fun h => ?_) (fun h => J _ (fun hb => by simp at hb; omega))
  rw [w64 (n := (i : Int) - 1) (by omega) (by omega)]
  refine TotP.ite (fun h => ?_) (fun h => by omega)
  refine TotP.ite (fun h => ?_) (fun h => by omega)
  exact TotP.ite (fun h => J _ (by simp)) (fun h => J _ (fun hb => by simp at hb; omega))
theorem right15_tot (h2 : g.g2.length < 1000) (h3 : g.g3.length ≤ 9223372036854775807) (h4 : g.g4.length ≤ 1000) (hl : ∀ i : Nat, (rd_T78 g.g4 (i : Int)).f1.length ≤ 1000) : TotP (fun t => t = 0 → 1 ≤ g.g3.length ∧ (rd_T67 g.g3 0).f1.length = 1) (fun k => arboristref15_Right.f k g.g0 g.g1 g.g2 g.g3 g.g4) := by
  have L : 1 ≤ g.g3.length → g.g3.length ≤ 1024 → g.g0.length ≤ 256 → (rd_T67 g.g3 0).f1.length = 1 → ∀ (q i : Nat), i + q = g.g3.length → TotP (fun t => t = 0 → 1 ≤ g.g3.length ∧ (rd_T67 g.g3 0).f1.length = 1) (fun k => arboristref15_Right.l0 k (i : Int) g.g0 g.g1 g.g2 g.g3 g.g4) := by
    intro a1 a2 a0 a3 q
    induction q with
    | zero =>
      intro i hi
      refine TotP.step (fun k => (by rw [arboristref15_Right.l0])) ?_
      refine TotP.ite (fun h => by omega) (fun _ => ?_)
      exact TotP.bind (levels_tot g a0 h4 hl) (fun v _ => TotP.ite (fun h => TotP.now (fun _ => ⟨a1, a3⟩)) (fun h => TotP.now (by simp)))
    | succ q ih =>
      intro i hi
      refine TotP.step (fun k => (by rw [arboristref15_Right.l0])) ?_
      rw [nx (n := g.g3.length) (by omega) (by omega)]
      refine TotP.ite (fun h => ?_) (fun h => by omega)
      refine TotP.bind (rule_tot g a2 i (by omega)) (fun v _ => ?_)
      exact TotP.ite (fun h => ih (i + 1) (by omega)) (fun h => TotP.now (fun h0 => absurd h0 h))
  have J : ∀ b : Bool, 1 ≤ g.g3.length → g.g3.length ≤ 1024 → g.g0.length ≤ 256 → TotP (fun t => t = 0 → 1 ≤ g.g3.length ∧ (rd_T67 g.g3 0).f1.length = 1) (fun k => arboristref15_Right.j0 k b g.g0 g.g1 g.g2 g.g3 g.g4) := by
    intro b a1 a2 a0
    refine TotP.step (fun k => (by rw [arboristref15_Right.j0])) ?_
    refine TotP.ite (fun h => TotP.now (by simp)) (fun h => ?_)
    refine TotP.bind (start_tot g a1 a2) (fun v hv => ?_)
    exact TotP.ite (fun h => TotP.now (by simp)) (fun h => L a1 a2 a0 (hv (by simpa using h)) g.g3.length 0 (by omega))
  unfold arboristref15_Right.f
  refine TotP.bind (counts_tot g h2 h3) (fun v hv => ?_)
  refine TotP.ite (fun h => TotP.now (by simp)) (fun h => ?_)
  obtain ⟨a1, a2, a0, a5⟩ := hv (by simpa using h)
  refine TotP.bind (twice_tot g.g0 (by omega)) (fun v2 _ => ?_)
  refine TotP.ite (fun h => J _ a1 a2 a0) (fun h => ?_)
  exact TotP.bind (twice_tot g.g1 (by omega)) (fun v3 _ => J _ a1 a2 a0)
theorem within_tot : ∀ (d : Nat) (n : S32) (e : Bool), small d n = true → TotP (fun _ => True) (fun k => arboristref42_within.f k g.g0 g.g1 g.g2 g.g3 g.g4 n.f0 n.f1 n.f2 n.f3 n.f4 n.f5 n.f6 e)
  | 0, n, e, h => by simp [small] at h
  | d + 1, n, e, h => by
    obtain ⟨h1, h2, h3⟩ := small_succ.1 h
    have L : ∀ (q i : Nat), i + q = n.f6.length → TotP (fun _ => True) (fun k => arboristref42_within.l0 k (i : Int) g.g0 g.g1 g.g2 g.g3 g.g4 n.f0 n.f1 n.f2 n.f3 n.f4 n.f5 n.f6) := by
      intro q
      induction q with
      | zero =>
        intro i hi
        refine TotP.step (fun k => (by rw [arboristref42_within.l0])) ?_
        refine TotP.ite (fun h => by omega) (fun _ => ?_)
        exact TotP.ite (fun h => TotP.now trivial) (fun h => TotP.ite (fun h => TotP.bind (byRule_tot g n h2) (fun v _ => TotP.now trivial)) (fun h => TotP.now trivial))
      | succ q ih =>
        intro i hi
        have hi' : i < n.f6.length := by omega
        have hr : rd_T32 n.f6 (i : Int) = n.f6[i] := rd32 (List.getElem?_eq_getElem hi')
        refine TotP.step (fun k => (by rw [arboristref42_within.l0])) ?_
        rw [nx (n := n.f6.length) (by omega) (by omega), hr]
        refine TotP.ite (fun h => TotP.ite (fun h => ?_) (fun h => by omega)) (fun h => by omega)
        exact TotP.bind (within_tot d (n.f6[i]) false (h3 _ (List.getElem_mem hi'))) (fun v _ => TotP.ite (fun h => ih (i + 1) (by omega)) (fun h => TotP.now trivial))
    have J2 : ∀ b : Bool, TotP (fun _ => True) (fun k => arboristref42_within.j2 k b g.g0 g.g1 g.g2 g.g3 g.g4 n.f0 n.f1 n.f2 n.f3 n.f4 n.f5 n.f6) := by
      intro b
      refine TotP.step (fun k => (by rw [arboristref42_within.j2])) ?_
      exact TotP.ite (fun h => TotP.now trivial) (fun h => L n.f6.length 0 (by omega))
    have J1 : ∀ b : Bool, TotP (fun _ => True) (fun k => arboristref42_within.j1 k b g.g0 g.g1 g.g2 g.g3 g.g4 n.f0 n.f1 n.f2 n.f3 n.f4 n.f5 n.f6) := by
      intro b
      refine TotP.step (fun k => (by rw [arboristref42_within.j1])) ?_
      repeat' first
        | exact TotP.now trivial
        | refine TotP.ite (fun h => ?_) (fun h => ?_)
        | exact TotP.bind (lead_tot g n.f4 h1) (fun v _ => TotP.now trivial)
    have J0 : ∀ b : Bool, TotP (fun _ => True) (fun k => arboristref42_within.j0 k b g.g0 g.g1 g.g2 g.g3 g.g4 n.f0 n.f1 n.f2 n.f3 n.f4 n.f5 n.f6) := by
      intro b
      refine TotP.step (fun k => (by rw [arboristref42_within.j0])) ?_
      repeat' first
        | exact TotP.now trivial
        | exact J1 _
        | exact J2 _
        | refine TotP.ite (fun h => ?_) (fun h => ?_)
    refine TotP.step (fun k => (by rw [arboristref42_within.f])) ?_
    refine TotP.ite (fun h => J0 _) (fun h => TotP.bind (is_tot g _) (fun v _ => ?_))
    repeat' first
      | exact J0 _
      | refine TotP.ite (fun h => ?_) (fun h => ?_)
theorem right_tot (n : S32) (d : Nat) (hs : small (d + 1) n = true) (h2 : g.g2.length < 1000) (h3 : g.g3.length ≤ 9223372036854775807) (h4 : g.g4.length ≤ 1000) (hl : ∀ i : Nat, (rd_T78 g.g4 (i : Int)).f1.length ≤ 1000) : TotP (fun b => b = true → n.f0 = -1) (fun k => arboristref42_Right.f k g.g0 g.g1 g.g2 g.g3 g.g4 n.f0 n.f1 n.f2 n.f3 n.f4 n.f5 n.f6) := by
  obtain ⟨s1, s2, s3⟩ := small_succ.1 hs
  have J1 : ∀ b : Bool, (b = false → n.f0 = -1 ∧ n.f6.length = 2 ∧ 1 ≤ g.g3.length ∧ (rd_T67 g.g3 0).f1.length = 1) → TotP (fun b => b = true → n.f0 = -1) (fun k => arboristref42_Right.j1 k b g.g0 g.g1 g.g2 g.g3 g.g4 n.f0 n.f1 n.f2 n.f3 n.f4 n.f5 n.f6) := by
    intro b hb
    refine TotP.step (fun k => (by rw [arboristref42_Right.j1])) ?_
    refine TotP.ite (fun h => TotP.now (by simp)) (fun h => ?_)
    obtain ⟨a0, a1, a2, a3⟩ := hb (by simpa using h)
    have r0 : rd_T32 n.f6 0 = n.f6[0] := rd32 (i := 0) (List.getElem?_eq_getElem (by omega))
    have r1 : rd_T32 n.f6 1 = n.f6[1] := rd32 (i := 1) (List.getElem?_eq_getElem (by omega))
    rw [r0, r1]
    refine TotP.ite (fun h => ?_) (fun h => by omega)
    refine TotP.ite (fun h => ?_) (fun h => by omega)
    refine TotP.ite (fun h => ?_) (fun h => by omega)
    refine TotP.ite (fun h => ?_) (fun h => TotP.now (by simp))
    refine TotP.bind (within_tot g d (n.f6[0]) false (s3 _ (List.getElem_mem _))) (fun v _ => ?_)
    refine TotP.ite (fun h => ?_) (fun h => TotP.now (by simp))
    refine TotP.ite (fun h => ?_) (fun h => by omega)
    exact TotP.bind (within_tot g d (n.f6[1]) true (s3 _ (List.getElem_mem _))) (fun v _ => TotP.now (fun _ => a0))
  have J0 : ∀ b : Bool, (b = false → 1 ≤ g.g3.length ∧ (rd_T67 g.g3 0).f1.length = 1) → TotP (fun b => b = true → n.f0 = -1) (fun k => arboristref42_Right.j0 k b g.g0 g.g1 g.g2 g.g3 g.g4 n.f0 n.f1 n.f2 n.f3 n.f4 n.f5 n.f6) := by
    intro b hb
    refine TotP.step (fun k => (by rw [arboristref42_Right.j0])) ?_
    refine TotP.ite (fun h => TotP.now (by simp)) (fun h => ?_)
    obtain ⟨a2, a3⟩ := hb (by simpa using h)
    refine TotP.ite (fun h0 => ?_) (fun h => J1 _ (by simp))
    refine TotP.ite (fun h => ?_) (fun h => J1 _ (by simp))
    refine TotP.ite (fun h => ?_) (fun h => J1 _ (by simp))
    refine TotP.ite (fun h => J1 _ (by simp)) (fun h => ?_)
    refine TotP.ite (fun h => J1 _ (by simp)) (fun h => ?_)
    refine TotP.ite (fun h => J1 _ (fun hb => ⟨h0, ?_, a2, a3⟩)) (fun h => J1 _ (by simp))
    simp at hb
    omega
  unfold arboristref42_Right.f
  refine TotP.bind (right15_tot g h2 h3 h4 hl) (fun v hv => ?_)
  exact TotP.ite (fun h => TotP.bind (size_tot (d + 1) n hs) (fun v2 _ => J0 _ (fun _ => hv h))) (fun h => J0 _ (by simp))
end
end Go.Proofs.Ytgdbcogbbghjaaa.Pure
