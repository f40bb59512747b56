import Derived.Test.YtgdbcogbbghjaaaPuB
import Derived.Test.YtgdbcogbbghjaaaPuF
import Derived.Test.YtgdbcogbbghjaaaQf27
namespace Go.Proofs.Ytgdbcogbbghjaaa.Pure
open Go.RowKit Go.Proofs.Ytgdbcogbbghjaaa.Q Go.Proofs.YtgdbcogbbghjaaaW.PrintWords Go.Proofs.YtgdbcogbbghjaaaW.PrintLast
open Hand (It Gr kidsF kidsL cloneB nodesOf kidsOf pathsOf fieldsOf getOf)
def cntL : Nat → S32 → Nat
  | 0, _ => 0
  | d + 1, n => 1 + n.f4.length + (n.f6.map (cntL d)).sum
theorem small_monoL : ∀ (d : Nat) (n : S32), small d n = true → small (d + 1) n = true ∧ cntL (d + 1) n = cntL d n
  | 0, _, h => by simp [small] at h
  | d + 1, n, h => by
    obtain ⟨h1, h2, h3⟩ := small_succ.1 h
    refine ⟨small_succ.2 ⟨h1, h2, fun y hy => (small_monoL d y (h3 y hy)).1⟩, ?_⟩
    show 1 + n.f4.length + (n.f6.map (cntL (d + 1))).sum = 1 + n.f4.length + (n.f6.map (cntL d)).sum
    rw [List.map_congr_left (fun y hy => (small_monoL d y (h3 y hy)).2)]
theorem cnt_posL {d : Nat} {n : S32} (h : small d n = true) : 1 ≤ cntL d n := by
  cases d with
  | zero => simp [small] at h
  | succ d => show 1 ≤ 1 + _ + _; omega
theorem sum_lenL {l : List S32} {d : Nat} (h : ∀ y ∈ l, small d y = true) : l.length ≤ (l.map (cntL d)).sum := by
  induction l with
  | nil => simp
  | cons y l ih =>
    have h1 := cnt_posL (h y List.mem_cons_self)
    have h2 := ih fun z hz => h z (List.mem_cons_of_mem _ hz)
    simp only [List.length_cons, List.map_cons, List.sum_cons]
    omega
theorem sum_monoL {l : List S32} {d : Nat} (h : ∀ y ∈ l, small d y = true) : (l.map (cntL (d + 1))).sum = (l.map (cntL d)).sum := by
  rw [List.map_congr_left (fun y hy => (small_monoL d y (h y hy)).2)]
def SpecL (k : Nat) : Prop := ∀ (n : S32) (m t : Int), NF k n m = some t → 0 ≤ m → m ≤ 300 → (1 ≤ t ∧ t ≤ 1051 + 350 * m) ∧ (t < m → small k n = true ∧ (cntL k n : Int) ≤ t)
theorem l1_specL (x1 : Int) (n : S32) (hx0 : 0 ≤ x1) (hx : x1 ≤ 300) : ∀ (k : Nat), (∀ j, j < k → SpecL j) → ∀ (x5 t : Int) (i : Nat), arboristlaw46_Nodes.l1 k x1 x5 (i : Int) n.f0 n.f1 n.f2 n.f3 n.f4 n.f5 n.f6 = some t → 1 ≤ x5 → x5 ≤ 1051 + 350 * x1 → (i : Int) ≤ x5 →
    x5 ≤ t ∧ t ≤ 1051 + 350 * x1 ∧ (t < x1 → (∀ y ∈ n.f6.drop i, small k y = true) ∧ (((n.f6.drop i).map (cntL k)).sum : Int) + x5 ≤ t) := by
  intro k
  induction k with
  | zero => intro _ x5 t i h; simp [arboristlaw46_Nodes.l1] at h
  | succ k ih =>
    intro H x5 t i h h1 h2 h3
    simp only [arboristlaw46_Nodes.l1] at h
    by_cases hi : (i : Int) < (n.f6.length : Int)
    · rw [if_pos hi] at h
      by_cases hlt : x5 < x1
      · rw [if_pos hlt, if_pos (by omega)] at h
        obtain ⟨u, hu, h⟩ := Option.bind_eq_some_iff.1 h
        rw [w64 (by omega) (by omega)] at hu
        obtain ⟨hu1, hu2⟩ := H k (by omega) (rd_T32 n.f6 (i : Int)) _ _ hu (by omega) (by omega)
        rw [w64 (by omega) (by omega), w64 (by omega) (by omega), show (i : Int) + 1 = ((i + 1 : Nat) : Int) from by omega] at h
        obtain ⟨g1, g2, g3⟩ := ih (fun j hj => H j (by omega)) (x5 + u) t (i + 1) h (by omega) (by omega) (by omega)
        refine ⟨by omega, g2, fun ht => ?_⟩
        obtain ⟨g4, g5⟩ := g3 ht
        obtain ⟨hs, hc⟩ := hu2 (by omega)
        have hin : i < n.f6.length := by omega
        have hrd : rd_T32 n.f6 (i : Int) = n.f6[i] := by simp [rd_T32, hin]
        rw [hrd] at hs hc
        rw [List.drop_eq_getElem_cons hin]
        refine ⟨fun y hy => ?_, ?_⟩
        · rcases List.mem_cons.1 hy with rfl | hy
          · exact (small_monoL k _ hs).1
          · exact (small_monoL k _ (g4 y hy)).1
        · rw [List.map_cons, List.sum_cons, (small_monoL k _ hs).2, sum_monoL g4]
          omega
      · rw [if_neg hlt] at h
        obtain rfl := Option.some.inj h
        exact ⟨by omega, h2, fun h => by omega⟩
    · rw [if_neg hi] at h
      obtain rfl := Option.some.inj h
      refine ⟨by omega, h2, fun _ => ?_⟩
      rw [List.drop_of_length_le (by omega)]
      exact ⟨fun y hy => (by cases hy), by rw [List.map_nil, List.sum_nil]; simp⟩
theorem l0_specL (x1 : Int) (n : S32) (hx0 : 0 ≤ x1) (hx : x1 ≤ 300) : ∀ (k : Nat), (∀ j, j < k → SpecL j) → ∀ (x5 t : Int) (i : Nat), arboristlaw46_Nodes.l0 k x1 x5 (i : Int) n.f0 n.f1 n.f2 n.f3 n.f4 n.f5 n.f6 = some t → 1 + mn (n.f4.length : Int) 1000 ≤ x5 → x5 ≤ 1051 + 350 * x1 →
    x5 ≤ t ∧ t ≤ 1051 + 350 * x1 ∧ (t < x1 → (∀ y ∈ n.f6, small k y = true) ∧ ((n.f6.map (cntL k)).sum : Int) + x5 ≤ t) := by
  intro k
  have hm := mn_or (n.f4.length : Int) 1000
  have hj : ∀ k, (∀ j, j < k + 1 → SpecL j) → ∀ (x5 t : Int), arboristlaw46_Nodes.j1 k x1 x5 n.f0 n.f1 n.f2 n.f3 n.f4 n.f5 n.f6 = some t → 1 + mn (n.f4.length : Int) 1000 ≤ x5 → x5 ≤ 1051 + 350 * x1 →
      x5 ≤ t ∧ t ≤ 1051 + 350 * x1 ∧ (t < x1 → (∀ y ∈ n.f6, small (k + 1) y = true) ∧ ((n.f6.map (cntL (k + 1))).sum : Int) + x5 ≤ t) := by
    intro k H x5 t h h1 h2
    cases k with
    | zero => simp [arboristlaw46_Nodes.j1] at h
    | succ k =>
      simp only [arboristlaw46_Nodes.j1] at h
      obtain ⟨g1, g2, g3⟩ := l1_specL x1 n hx0 hx k (fun j hj => H j (by omega)) x5 t 0 h (by omega) h2 (by omega)
      refine ⟨g1, g2, fun ht => ?_⟩
      obtain ⟨g4, g5⟩ := g3 ht
      rw [List.drop_zero] at g4 g5
      refine ⟨fun y hy => (small_monoL _ _ (small_monoL _ _ (g4 y hy)).1).1, ?_⟩
      rw [sum_monoL (fun y hy => (small_monoL _ _ (g4 y hy)).1), sum_monoL g4]
      exact g5
  induction k with
  | zero => intro _ x5 t i h; simp [arboristlaw46_Nodes.l0] at h
  | succ k ih =>
    intro H x5 t i h h1 h2
    simp only [arboristlaw46_Nodes.l0] at h
    by_cases hi : (i : Int) < (n.f4.length : Int)
    · rw [if_pos hi] at h
      by_cases hlt : x5 < x1
      · rw [if_pos hlt, if_pos (by omega)] at h
        have hs := mn_or ((rd_T53 n.f4 (i : Int)).f2.size : Int) 1000
        have hq : 0 ≤ mn ((rd_T53 n.f4 (i : Int)).f2.size : Int) 1000 / 20 ∧ mn ((rd_T53 n.f4 (i : Int)).f2.size : Int) 1000 / 20 ≤ 50 := by omega
        rw [w64 (by omega) (by omega), w64 (by omega) (by omega), show (i : Int) + 1 = ((i + 1 : Nat) : Int) from by omega] at h
        obtain ⟨g1, g2, g3⟩ := ih (fun j hj => H j (by omega)) _ t (i + 1) h (by omega) (by omega)
        refine ⟨by omega, g2, fun ht => ?_⟩
        obtain ⟨g4, g5⟩ := g3 ht
        exact ⟨fun y hy => (small_monoL _ _ (g4 y hy)).1, by rw [sum_monoL g4]; omega⟩
      · rw [if_neg hlt] at h
        exact hj k H x5 t h h1 h2
    · rw [if_neg hi] at h
      exact hj k H x5 t h h1 h2
theorem specL : ∀ k, SpecL k := by
  intro k
  induction k using Nat.strongRecOn with
  | _ k ih =>
    intro n m t h h0 h1
    cases k with
    | zero => simp [NF, arboristlaw46_Nodes.f] at h
    | succ k =>
      simp only [NF, arboristlaw46_Nodes.f] at h
      have hm := mn_or (n.f4.length : Int) 1000
      have hs := mn_or (n.f5.size : Int) 1000
      have hq : 0 ≤ mn (n.f5.size : Int) 1000 / 20 ∧ mn (n.f5.size : Int) 1000 / 20 ≤ 50 := by omega
      obtain ⟨g1, g2, g3⟩ := l0_specL m n h0 h1 k (fun j hj => ih j (by omega)) _ t 0 h (by omega) (by omega)
      refine ⟨⟨by omega, g2⟩, fun ht => ?_⟩
      obtain ⟨g4, g5⟩ := g3 ht
      have hl := sum_lenL g4
      exact ⟨small_succ.2 ⟨by omega, by omega, g4⟩, by show ((1 + n.f4.length + (n.f6.map (cntL k)).sum : Nat) : Int) ≤ t; omega⟩
end Go.Proofs.Ytgdbcogbbghjaaa.Pure

set_option linter.unusedVariables false
namespace Go.Proofs.Ytgdbcogbbghjaaa.Pure
open Go.RowKit Go.Proofs.Ytgdbcogbbghjaaa.Q Go.Proofs.YtgdbcogbbghjaaaW.PrintWords Go.Proofs.YtgdbcogbbghjaaaW.PrintLast
open Hand (It Gr kidsF kidsL cloneB nodesOf kidsOf pathsOf fieldsOf getOf kidsF_mono)
inductive Bnd : S32 → Prop
  | mk (x : S32) (h4 : ∀ p ∈ x.f4, p.f2.size ≤ 140737488351232) (h5 : x.f5.size ≤ 140737488351232) (h6 : ∀ y ∈ x.f6, Bnd y) : Bnd x
theorem Bnd.lead {x : S32} (h : Bnd x) : ∀ p ∈ x.f4, p.f2.size ≤ 140737488351232 := by cases h; assumption
theorem Bnd.text {x : S32} (h : Bnd x) : x.f5.size ≤ 140737488351232 := by cases h; assumption
theorem Bnd.kids {x : S32} (h : Bnd x) : ∀ y ∈ x.f6, Bnd y := by cases h; assumption
def cat : List ByteArray → ByteArray
  | [] => ByteArray.empty
  | a :: l => a ++ cat l
theorem cat_append (a b : List ByteArray) : cat (a ++ b) = cat a ++ cat b := by
  induction a with
  | nil => exact ByteArray.empty_append.symm
  | cons x a ih => show x ++ cat (a ++ b) = (x ++ cat a) ++ cat b; rw [ih, ByteArray.append_assoc]
theorem cat_one (a : ByteArray) : cat [a] = a := ByteArray.append_empty
theorem cat_snoc (l : List ByteArray) (a : ByteArray) : cat (l ++ [a]) = cat l ++ a := by rw [cat_append, cat_one]
theorem cat_le {R : Nat} {l : List ByteArray} (h : ∀ a ∈ l, a.size ≤ R) : (cat l).size ≤ l.length * R := by
  induction l with
  | nil => show 0 ≤ _; omega
  | cons a l ih =>
    have h1 := h a List.mem_cons_self
    have h2 := ih fun b hb => h b (List.mem_cons_of_mem _ hb)
    show (a ++ cat l).size ≤ (l.length + 1) * R
    rw [ByteArray.size_append, Nat.add_mul]
    omega
def own (n : S32) : ByteArray := if n.f0 < 0 then ByteArray.empty else cat (n.f4.map (·.f2)) ++ n.f5
def txt : Nat → S32 → ByteArray
  | 0, _ => ByteArray.empty
  | d + 1, n => own n ++ cat (n.f6.map (txt d))
theorem own_le {n : S32} (h : Bnd n) : (own n).size ≤ (1 + n.f4.length) * 140737488351232 := by
  unfold own
  split
  · show 0 ≤ _; omega
  · have := cat_le (l := n.f4.map (·.f2)) (R := 140737488351232) (fun a ha => by obtain ⟨p, hp, rfl⟩ := List.mem_map.1 ha; exact h.lead p hp)
    have := h.text
    rw [List.length_map] at *
    rw [ByteArray.size_append, Nat.add_mul]
    omega
theorem txt_le : ∀ (d : Nat) (n : S32), small d n = true → Bnd n → (txt d n).size ≤ cntL d n * 140737488351232
  | 0, n, h, _ => by simp [small] at h
  | d + 1, n, h, hb => by
    obtain ⟨h1, h2, h3⟩ := small_succ.1 h
    have key : ∀ l : List S32, (∀ y ∈ l, y ∈ n.f6) → (cat (l.map (txt d))).size ≤ (l.map (cntL d)).sum * 140737488351232 := by
      intro l
      induction l with
      | nil => intro _; show 0 ≤ _; omega
      | cons y l ih =>
        intro hl
        have a1 := txt_le d y (h3 y (hl y List.mem_cons_self)) (hb.kids y (hl y List.mem_cons_self))
        have a2 := ih fun z hz => hl z (List.mem_cons_of_mem _ hz)
        show (txt d y ++ cat (l.map (txt d))).size ≤ (cntL d y + (l.map (cntL d)).sum) * 140737488351232
        rw [ByteArray.size_append, Nat.add_mul]
        omega
    have a1 := own_le hb
    have a2 := key n.f6 fun y hy => hy
    show (own n ++ cat (n.f6.map (txt d))).size ≤ (1 + n.f4.length + (n.f6.map (cntL d)).sum) * 140737488351232
    rw [ByteArray.size_append, Nat.add_mul]
    omega
theorem txt_mono : ∀ (d : Nat) (n : S32), small d n = true → txt (d + 1) n = txt d n
  | 0, n, h => by simp [small] at h
  | d + 1, n, h => by
    obtain ⟨h1, h2, h3⟩ := small_succ.1 h
    show own n ++ cat (n.f6.map (txt (d + 1))) = own n ++ cat (n.f6.map (txt d))
    rw [List.map_congr_left fun y hy => txt_mono d y (h3 y hy)]
theorem up : ∀ (j d : Nat) (n : S32), small d n = true → small (d + j) n = true ∧ txt (d + j) n = txt d n ∧ cntL (d + j) n = cntL d n
  | 0, d, n, h => ⟨h, rfl, rfl⟩
  | j + 1, d, n, h => by
    obtain ⟨a, b, c⟩ := up j d n h
    have m := small_monoL (d + j) n a
    exact ⟨m.1, (txt_mono _ _ a).trans b, m.2.trans c⟩
theorem up_le {d E : Nat} {n : S32} (h : small d n = true) (hE : d ≤ E) : small E n = true ∧ txt E n = txt d n ∧ cntL E n = cntL d n := by
  obtain ⟨j, rfl⟩ : ∃ j, E = d + j := ⟨E - d, by omega⟩
  exact up j d n h
theorem diss_neg {g : Gr} {y : S32} (h : fields_dissolves.f g.g0 g.g1 g.g2 g.g3 g.g4 y.f0 y.f1 y.f2 y.f3 y.f4 y.f5 y.f6 = some true) : y.f0 < 0 := by
  by_cases c : y.f0 < 0
  · exact c
  · unfold fields_dissolves.f at h
    rw [if_neg c] at h
    cases h
theorem kidsL_txt {d : Nat} (g : Gr) (n : S32) (path : List Int) (fd : ByteArray) (E : Nat) (H : ∀ y ∈ n.f6, ∀ p f r, kidsF d g y p f = some r → y.f0 < 0 → cat (r.map fun it => txt E it.node) = txt E y) :
    ∀ (l : List S32) (i : Nat) (r : List It), (∀ y ∈ l, y ∈ n.f6) → kidsL (kidsF d g) g n path fd l i = some r → cat (r.map fun it => txt E it.node) = cat (l.map (txt E)) := by
  intro l
  induction l with
  | nil =>
    intro i r _ h
    simp only [kidsL] at h
    rw [← Option.some.inj h]
    rfl
  | cons y l ih =>
    intro i r hl h
    simp only [kidsL] at h
    obtain ⟨f, hf, h⟩ := Option.bind_eq_some_iff.1 h
    obtain ⟨b, hb, h⟩ := Option.bind_eq_some_iff.1 h
    obtain ⟨a, ha, h⟩ := Option.bind_eq_some_iff.1 h
    obtain ⟨a2, ha2, h⟩ := Option.bind_eq_some_iff.1 h
    obtain rfl := Option.some.inj h
    rw [List.map_append, cat_append, ih (i + 1) a2 (fun z hz => hl z (List.mem_cons_of_mem _ hz)) ha2]
    show _ = txt E y ++ cat (l.map (txt E))
    cases b with
    | true =>
      rw [if_pos rfl] at ha
      rw [H y (hl y List.mem_cons_self) _ _ _ ha (diss_neg hb)]
    | false =>
      rw [if_neg (by decide)] at ha
      rw [← Option.some.inj ha]
      show cat [txt E y] ++ _ = _
      rw [cat_one]
theorem kidsF_txt : ∀ (d : Nat) (g : Gr) (n : S32) (path : List Int) (fd : ByteArray) (r : List It) (E : Nat), small d n = true → d ≤ E → kidsF d g n path fd = some r → n.f0 < 0 → cat (r.map fun it => txt E it.node) = txt E n
  | 0, _, _, _, _, _, _, h, _, _, _ => by simp [small] at h
  | d + 1, g, n, path, fd, r, E, hs, hE, h, hn => by
    obtain ⟨h1, h2, h3⟩ := small_succ.1 hs
    obtain ⟨E, rfl⟩ : ∃ e, E = e + 1 := ⟨E - 1, by omega⟩
    simp only [kidsF] at h
    split at h
    · rw [kidsL_txt g n path fd (E + 1) (fun y hy p f r hr hy0 => kidsF_txt d g y p f r (E + 1) (h3 y hy) (by omega) hr hy0) n.f6 0 r (fun y hy => hy) h]
      show _ = own n ++ cat (n.f6.map (txt E))
      have e : own n = ByteArray.empty := if_pos hn
      rw [e, ByteArray.empty_append, List.map_congr_left fun y hy => ((up_le (E := E + 1) (h3 y hy) (by omega)).2.1).trans (up_le (E := E) (h3 y hy) (by omega)).2.1.symm]
    · cases h
theorem leads_of {P : S32 → Prop} (hP : ∀ n, P n → ∀ y ∈ n.f6, P y) : ∀ (q : List Int) (n m : S32), P n → Leads n q m → P m
  | [], n, m, h, hl => by
    obtain rfl : m = n := hl
    exact h
  | i :: q, n, m, h, hl => by
    obtain ⟨j, _, y, hy, hl⟩ := hl
    exact leads_of hP q y m (hP n h y (List.mem_of_getElem? hy)) hl
theorem own_ev (n : S32) (h4 : n.f4.length < 300) (hb : Bnd n) : Ev (fun k => arboristref42_Own.f k n.f0 n.f1 n.f2 n.f3 n.f4 n.f5 n.f6) (own n) := by
  unfold arboristref42_Own.f own
  by_cases c : n.f0 < 0
  · simp only [if_pos c]
    exact Ev.now _
  · simp only [if_neg c]
    have key : ∀ (q i : Nat), i + q = n.f4.length → Ev (fun k => arboristref42_Own.l0 k (cat ((n.f4.take i).map (·.f2))) (i : Int) n.f0 n.f1 n.f2 n.f3 n.f4 n.f5 n.f6) (cat (n.f4.map (·.f2)) ++ n.f5) := by
      intro q
      induction q with
      | zero =>
        intro i hi
        obtain rfl : i = n.f4.length := by omega
        rw [List.take_length]
        have h1 := cat_le (l := n.f4.map (·.f2)) (R := 140737488351232) (fun a ha => by obtain ⟨p, hp, rfl⟩ := List.mem_map.1 ha; exact hb.lead p hp)
        have h2 := hb.text
        rw [List.length_map] at h1
        have h3 := Nat.mul_le_mul_right 140737488351232 (show n.f4.length ≤ 300 by omega)
        refine Ev.step (f := fun _ => some _) (fun k => ?_) (Ev.now _)
        simp only [arboristref42_Own.l0]
        rw [if_neg (by omega), if_pos (by omega)]
      | succ q ih =>
        intro i hi
        have hi' : i < n.f4.length := by omega
        have h1 := cat_le (l := (n.f4.take i).map (·.f2)) (R := 140737488351232) (fun a ha => by obtain ⟨p, hp, rfl⟩ := List.mem_map.1 ha; exact hb.lead p (List.mem_of_mem_take hp))
        rw [List.length_map, List.length_take, Nat.min_eq_left (by omega)] at h1
        have h3 := Nat.mul_le_mul_right 140737488351232 (show i ≤ 300 by omega)
        have hr : rd_T53 n.f4 (i : Int) = n.f4[i] := by simp [rd_T53, hi']
        have h2 := hb.lead _ (List.getElem_mem hi')
        have hn := ih (i + 1) (by omega)
        rw [List.take_succ_eq_append_getElem hi', List.map_append, List.map_cons, List.map_nil, cat_snoc] at hn
        refine Ev.step (fun k => ?_) hn
        simp only [arboristref42_Own.l0]
        rw [if_pos (by omega), if_pos (by omega), hr, if_pos (by omega), nx (n := n.f4.length) hi' (by omega)]
    exact key n.f4.length 0 (by omega)
theorem text_ev : ∀ (d : Nat) (n : S32), small d n = true → Bnd n → cntL d n ≤ 300 → Ev (fun k => arboristref42_Text.f k n.f0 n.f1 n.f2 n.f3 n.f4 n.f5 n.f6) (txt d n)
  | 0, n, h, _, _ => by simp [small] at h
  | d + 1, n, h, hb, hc => by
    obtain ⟨h1, h2, h3⟩ := small_succ.1 h
    have hall := txt_le (d + 1) n h hb
    have hm := Nat.mul_le_mul_right 140737488351232 hc
    have hsz : ∀ i : Nat, i ≤ n.f6.length → (own n ++ cat ((n.f6.take i).map (txt d))).size ≤ (txt (d + 1) n).size := by
      intro i hi
      show _ ≤ (own n ++ cat (n.f6.map (txt d))).size
      rw [← List.take_append_drop i n.f6, List.map_append, cat_append, List.take_left' (by simp; omega)]
      simp only [ByteArray.size_append]
      omega
    have key : ∀ (q i : Nat), i + q = n.f6.length → Ev (fun k => arboristref42_Text.l0 k (own n ++ cat ((n.f6.take i).map (txt d))) (i : Int) n.f0 n.f1 n.f2 n.f3 n.f4 n.f5 n.f6) (txt (d + 1) n) := by
      intro q
      induction q with
      | zero =>
        intro i hi
        obtain rfl : i = n.f6.length := by omega
        rw [List.take_length]
        refine Ev.step (f := fun _ => some _) (fun k => ?_) (Ev.now _)
        simp only [arboristref42_Text.l0]
        rw [if_neg (by omega)]
        rfl
      | succ q ih =>
        intro i hi
        have hi' : i < n.f6.length := by omega
        have hr : rd_T32 n.f6 (i : Int) = n.f6[i] := rd32 (List.getElem?_eq_getElem hi')
        have hcy : cntL d (n.f6[i]) ≤ 300 := by
          have : cntL d (n.f6[i]) ≤ (n.f6.map (cntL d)).sum := le_sum (List.mem_map.2 ⟨_, List.getElem_mem hi', rfl⟩)
          have e : cntL (d + 1) n = 1 + n.f4.length + (n.f6.map (cntL d)).sum := rfl
          omega
        have ht := text_ev d (n.f6[i]) (h3 _ (List.getElem_mem hi')) (hb.kids _ (List.getElem_mem hi')) hcy
        have hn := ih (i + 1) (by omega)
        have hz := hsz (i + 1) (by omega)
        rw [List.take_succ_eq_append_getElem hi', List.map_append, List.map_cons, List.map_nil, cat_snoc, ← ByteArray.append_assoc] at hn hz
        rw [ByteArray.size_append] at hz
        refine Ev.step (fun k => ?_) (Ev.bind (f := fun k (t : ByteArray) => if (own n ++ cat ((n.f6.take i).map (txt d))).size + t.size ≤ 9223372036854775807 then arboristref42_Text.l0 k (own n ++ cat ((n.f6.take i).map (txt d)) ++ t) ((i + 1 : Nat) : Int) n.f0 n.f1 n.f2 n.f3 n.f4 n.f5 n.f6 else none) ht (Ev.congr (fun k => if_pos (by omega)) hn))
        simp only [arboristref42_Text.l0]
        rw [if_pos (by omega), if_pos (by omega), hr, nx (n := n.f6.length) hi' (by omega)]
    have k0 := key n.f6.length 0 (by omega)
    rw [List.take_zero, List.map_nil] at k0
    have e0 : own n ++ cat [] = own n := ByteArray.append_empty
    rw [e0] at k0
    refine Ev.step (fun k => ?_) (Ev.bind (f := fun k t => arboristref42_Text.l0 k t 0 n.f0 n.f1 n.f2 n.f3 n.f4 n.f5 n.f6) (own_ev n h1 hb) k0)
    simp only [arboristref42_Text.f]
end Go.Proofs.Ytgdbcogbbghjaaa.Pure
