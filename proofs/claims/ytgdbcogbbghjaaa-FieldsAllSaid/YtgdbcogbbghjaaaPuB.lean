import Derived.Test.YtgdbcogbbghjaaaPuA
set_option linter.unusedVariables false
namespace Go.Proofs.Ytgdbcogbbghjaaa.Pure
open Go.RowKit Go.Proofs.Ytgdbcogbbghjaaa.Q Go.Proofs.YtgdbcogbbghjaaaW.PrintWords Go.Proofs.YtgdbcogbbghjaaaW.PrintLast
open Hand (It Gr kidsF kidsL cloneB nodesOf kidsOf pathsOf fieldsOf getOf kidsF_mono)
theorem field_some (g : Gr) (n : S32) (i : Nat) (h : i < n.f6.length) : ∃ f, fields_field.f 3 g.g0 g.g1 g.g2 g.g3 g.g4 n.f0 n.f1 n.f2 n.f3 n.f4 n.f5 n.f6 (i : Int) = some f := by
  unfold fields_field.f
  by_cases h1 : n.f1 < 0
  · rw [if_pos h1]
    exact ⟨_, by simp only [fields_field.j0]; rfl⟩
  · rw [if_neg h1]
    by_cases h2 : n.f1 ≥ (g.g3.length : Int)
    · exact ⟨_, by simp only [fields_field.j0]; rw [if_pos (by simpa using h2)]⟩
    · simp only [fields_field.j0]
      rw [if_neg (by simpa using h2), if_pos (by omega), if_pos (by omega)]
      by_cases h3 : (((rd_T67 g.g3 n.f1).f2).length : Int) = (n.f6.length : Int)
      · rw [if_pos h3, if_pos (by omega), if_pos (by omega)]
        exact ⟨_, rfl⟩
      · rw [if_neg h3]
        exact ⟨_, rfl⟩
theorem dissolves_some (g : Gr) (n : S32) : ∃ b, fields_dissolves.f g.g0 g.g1 g.g2 g.g3 g.g4 n.f0 n.f1 n.f2 n.f3 n.f4 n.f5 n.f6 = some b := by
  unfold fields_dissolves.f
  split
  · split
    · split
      · split
        · exact ⟨_, rfl⟩
        · exact ⟨_, rfl⟩
      · exact ⟨_, rfl⟩
    · exact ⟨_, rfl⟩
  · exact ⟨_, rfl⟩
theorem kidsL_some {d : Nat} (g : Gr) (n : S32) (path : List Int) (fd : ByteArray) (hp : path.length + d < 1000)
    (H : ∀ y, small d y = true → ∀ p f, p.length + d ≤ 1000 → ∃ r, kidsF d g y p f = some r ∧ r.length + 1 ≤ cnt d y ∧ ∀ it ∈ r, small d it.node = true ∧ it.path.length ≤ 1000) :
    ∀ (l : List S32) (i : Nat), i + l.length = n.f6.length → (∀ y ∈ l, small d y = true) → ∃ r, kidsL (kidsF d g) g n path fd l i = some r ∧ r.length ≤ (l.map (cnt d)).sum ∧ ∀ it ∈ r, small d it.node = true ∧ it.path.length ≤ 1000 := by
  intro l
  induction l with
  | nil => exact fun i _ _ => ⟨[], rfl, by simp, fun it h => (by cases h)⟩
  | cons y l ih =>
    intro i hi hs
    obtain ⟨f, hf⟩ := field_some g n i (by rw [← hi]; simp)
    obtain ⟨b, hb⟩ := dissolves_some g y
    obtain ⟨r2, h2, h3, h4⟩ := ih (i + 1) (by rw [← hi]; simp; omega) (fun z hz => hs z (List.mem_cons_of_mem _ hz))
    have hy := hs y List.mem_cons_self
    have hc := cnt_pos hy
    cases b with
    | true =>
      obtain ⟨r1, h5, h6, h7⟩ := H y hy (path ++ [(i : Int)]) (if f.toList = [] then fd else f) (by simp; omega)
      refine ⟨r1 ++ r2, ?_, ?_, fun it hit => (List.mem_append.1 hit).elim (h7 it) (h4 it)⟩
      · simp only [kidsL]
        rw [hf, Option.bind_some, hb, Option.bind_some, if_pos rfl, h5, Option.bind_some, h2, Option.bind_some]
      · rw [List.length_append, List.map_cons, List.sum_cons]
        omega
    | false =>
      refine ⟨[⟨path ++ [(i : Int)], if f.toList = [] then fd else f, y⟩] ++ r2, ?_, ?_, fun it hit => (List.mem_append.1 hit).elim (fun h => ?_) (h4 it)⟩
      · simp only [kidsL]
        rw [hf, Option.bind_some, hb, Option.bind_some, if_neg (by decide), Option.bind_some, h2, Option.bind_some]
      · rw [List.length_append, List.map_cons, List.sum_cons, List.length_singleton]
        omega
      · rw [List.mem_singleton.1 h]
        exact ⟨hy, by simp; omega⟩
theorem kidsF_some : ∀ (d : Nat) (g : Gr) (n : S32) (path : List Int) (fd : ByteArray), small d n = true → path.length + d ≤ 1000 →
    ∃ r, kidsF d g n path fd = some r ∧ r.length + 1 ≤ cnt d n ∧ ∀ it ∈ r, small d it.node = true ∧ it.path.length ≤ 1000
  | 0, _, _, _, _, h, _ => by simp [small] at h
  | d + 1, g, n, path, fd, h, hp => by
    obtain ⟨h1, h2, h3⟩ := small_succ.1 h
    obtain ⟨r, h4, h5, h6⟩ := kidsL_some (d := d) g n path fd (by omega) (fun y hy p f hp => kidsF_some d g y p f hy hp) n.f6 0 (by simp) h3
    refine ⟨r, ?_, ?_, fun it hit => ⟨(small_mono d _ (h6 it hit).1).1, (h6 it hit).2⟩⟩
    · simp only [kidsF]
      rw [if_pos ⟨by omega, by omega⟩, h4]
    · show r.length + 1 ≤ 1 + _
      omega
theorem le_sum {l : List Nat} {x : Nat} (h : x ∈ l) : x ≤ l.sum := by
  induction l with
  | nil => cases h
  | cons y l ih =>
    rw [List.sum_cons]
    rcases List.mem_cons.1 h with rfl | h
    · omega
    · have := ih h; omega
theorem small_low : ∀ (d : Nat) (n : S32) (c : Nat), small d n = true → cnt d n ≤ c → ∃ e, e ≤ c ∧ small e n = true ∧ cnt e n = cnt d n
  | 0, n, c, h, _ => by simp [small] at h
  | d + 1, n, c, h, hc => by
    obtain ⟨h1, h2, h3⟩ := small_succ.1 h
    have hsum : 1 + (n.f6.map (cnt d)).sum ≤ c := hc
    have key : ∀ y ∈ n.f6, small (c - 1) y = true ∧ cnt (c - 1) y = cnt d y := fun y hy => by
      have hle : cnt d y ≤ (n.f6.map (cnt d)).sum := le_sum (List.mem_map_of_mem hy)
      obtain ⟨e, he, hs, hce⟩ := small_low d y (c - 1) (h3 y hy) (by omega)
      have up : ∀ q, small (e + q) y = true ∧ cnt (e + q) y = cnt e y := fun q => by
        induction q with
        | zero => exact ⟨hs, rfl⟩
        | succ q ih => exact ⟨(small_mono _ _ ih.1).1, ((small_mono _ _ ih.1).2).trans ih.2⟩
      have := up (c - 1 - e)
      rw [show e + (c - 1 - e) = c - 1 by omega] at this
      exact ⟨this.1, this.2.trans hce⟩
    refine ⟨c, Nat.le_refl _, ?_, ?_⟩
    · rw [show c = (c - 1) + 1 by omega]
      exact small_succ.2 ⟨h1, h2, fun y hy => (key y hy).1⟩
    · rw [show c = (c - 1) + 1 by omega]
      show 1 + _ = 1 + _
      rw [List.map_congr_left (fun y hy => (key y hy).2)]
end Go.Proofs.Ytgdbcogbbghjaaa.Pure
