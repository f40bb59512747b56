import Derived.Test.YtfekpmbecoeijaaQOp
import Derived.SizedLaws
import Derived.Test.YtfekpmbecoeijaaQf30
import Derived.Test.YtfekpmbecoeijaaQf7
import Derived.Test.YtfekpmbecoeijaaCh
namespace Go.Proofs.Ytfekpmbecoeijaa.Pure
open Go.RowKit Go.Proofs.Ytfekpmbecoeijaa.Q
inductive Bnd : S26 → Prop
  | mk (x : S26) (l4 : x.f4.length * 32 ≤ 140737488351232) (h4 : ∀ p ∈ x.f4, p.f2.size ≤ 140737488351232) (h5 : x.f5.size ≤ 140737488351232) (l6 : x.f6.length * 96 ≤ 140737488351232) (h6 : ∀ y ∈ x.f6, Bnd y) : Bnd x
theorem Bnd.leadLen {x : S26} (h : Bnd x) : x.f4.length * 32 ≤ 140737488351232 := by cases h; assumption
theorem Bnd.lead {x : S26} (h : Bnd x) : ∀ p ∈ x.f4, p.f2.size ≤ 140737488351232 := by cases h; assumption
theorem Bnd.text {x : S26} (h : Bnd x) : x.f5.size ≤ 140737488351232 := by cases h; assumption
theorem Bnd.kids {x : S26} (h : Bnd x) : ∀ y ∈ x.f6, Bnd y := by cases h; assumption
end Go.Proofs.Ytfekpmbecoeijaa.Pure
namespace Go.Proofs.Ytfekpmbecoeijaa.Op
open Go.RowKit Go.Proofs.Ytfekpmbecoeijaa.Q Go.Proofs.YtfekpmbecoeijaaW.PrintWords Go.Proofs.YtfekpmbecoeijaaW.PrintLast
open Go.Proofs.Ytfekpmbecoeijaa.Pure (Bnd)
section
variable {H α : Type} {enc : TypeId × Value → H} {P : Program} {w : World} {d : Kd α} {t e : TypeId} {G : α → Prop} {R : Nat}
def OpB (enc : TypeId × Value → H) (P : Program) (w : World) (d : Kd α) (t : TypeId) (G : α → Prop) (R : Nat) (fuel : Nat) : Prop :=
  ∀ cs x, DataW.trod enc P w 0 (fun _ => true) true fuel t cs = some x → (∀ m ∈ x.1.weights P t, m ≤ R) → ∃ a, d.K w a cs ∧ G a
theorem opB_string (ht : P.underlying t = some .string) (fuel : Nat) : OpB enc P w Kd.string t (fun s => s.size ≤ R) R fuel := by
  intro cs x h hw
  obtain ⟨s, rfl, rfl, hs⟩ := DataW.trod_string ht h
  refine ⟨s, rfl, ?_⟩
  have := hw s.data.toList.length (by simp [DataW.weights])
  simpa using this
theorem weightsAll_mem {P : Program} {e : TypeId} : ∀ {l : List (DataW H)} {i : Nat} {d : DataW H}, l[i]? = some d → ∀ m ∈ d.weights P e, m ∈ DataW.weightsAll P e l
  | d0 :: l, 0, d, h, m, hm => by
    simp only [List.getElem?_cons_zero, Option.some.injEq] at h
    subst h
    simp only [DataW.weightsAll, List.mem_append]
    exact Or.inl hm
  | d0 :: l, i + 1, d, h, m, hm => by
    simp only [List.getElem?_cons_succ] at h
    simp only [DataW.weightsAll, List.mem_append]
    exact Or.inr (weightsAll_mem h m hm)
  | [], _, _, h, _, _ => by simp at h
theorem opB_slice {fuel : Nat} (ht : P.underlying t = some (.slice e)) (hc : P.cellsOf e = d.sz) (h : ∀ n, n < fuel → OpB enc P w d e G R n) :
    OpB enc P w (Kd.slice e d) t (fun xs => xs.length * P.bytesOf e ≤ R ∧ ∀ a ∈ xs, G a) R fuel := by
  intro cs x hx hw
  rcases DataW.trod_slice ht hx with ⟨rfl, _⟩ | ⟨a, len, cap, elems, rest, n, rfl, rfl, rfl, _, hl, hm, hlen, hel, _⟩
  · exact ⟨[], ⟨none, 0, rfl, Nat.le_refl _, Kd.C_nil _ _⟩, by simp⟩
  · have hwl : len * P.bytesOf e ≤ R := by
      have := hw ((elems.length + rest.length) * P.bytesOf e) (by simp [DataW.weights, ht])
      refine Nat.le_trans (Nat.mul_le_mul_right _ ?_) this
      omega
    have hwe : ∀ (m : Nat) (y : DataW H × List MemPlace), elems[m]? = some y → ∀ q ∈ y.1.weights P e, q ≤ R := by
      intro m y hy q hq
      refine hw q ?_
      simp only [DataW.weights, ht, List.mem_cons, List.mem_append]
      exact Or.inr (Or.inl (weightsAll_mem (i := m) (d := y.1) (by rw [List.getElem?_map, hy]; rfl) q hq))
    have key : ∀ m, m ≤ len → ∃ xs : List α, xs.length = m ∧ ∀ i p, xs[i]? = some p → G p ∧ ∃ c, c.length = d.sz ∧ d.K w p c ∧ ∀ j u, c[j]? = some u → w.cell? (a.add (i * d.sz + j)) = some u := by
      intro m
      induction m with
      | zero => exact fun _ => ⟨[], rfl, fun i p hp => by simp at hp⟩
      | succ m ih =>
        intro hm
        obtain ⟨xs, hl, hx⟩ := ih (by omega)
        have h1 := hel m (by omega)
        rw [List.getElem?_eq_getElem (by omega)] at h1
        obtain ⟨c, hcs, htr⟩ := Option.bind_eq_some_iff.1 h1
        obtain ⟨p, hK, hG⟩ := h n (by omega) c _ htr (hwe m _ (List.getElem?_eq_getElem (by omega)))
        refine ⟨xs ++ [p], by simp [hl], fun i q hq => ?_⟩
        rcases Nat.lt_or_ge i xs.length with hi | hi
        · rw [List.getElem?_append_left hi] at hq
          exact hx i q hq
        · have hi' : i = xs.length := by
            have := (List.getElem?_eq_some_iff.1 hq).1
            simp at this
            omega
          subst hi'
          have hq' : p = q := by simpa using hq
          subst hq'
          refine ⟨hG, c, d.K_len hK, hK, fun j u hu => ?_⟩
          obtain ⟨_, hlen2, hcell⟩ := World.cells?_some hcs
          have hj : j < P.cellsOf e := by
            have := (List.getElem?_eq_some_iff.1 hu).1
            omega
          have := hcell j hj
          rw [add_add, hc] at this
          rw [hl, this, hu]
    obtain ⟨xs, hxl, hxs⟩ := key len (Nat.le_refl _)
    subst hxl
    refine ⟨xs, ⟨some a, cap, rfl, hl, rfl, ?_, fun _ => ⟨a, rfl, fun j p hp => (hxs j p hp).2⟩⟩, hwl, fun p hp => ?_⟩
    · have : xs.length ≤ maxLen := Nat.le_trans hl hm
      unfold maxLen at this
      omega
    · obtain ⟨i, hi⟩ := List.mem_iff_getElem?.1 hp
      exact (hxs i p hi).1
theorem field_ofB {fs : Array Field} {n : Nat} {cs : List Value} {xs : List (DataW H × List MemPlace)} (ht : P.underlying t = some (.struct fs)) (hw : ∀ m ∈ (DataW.agg (xs.map (·.1))).weights P t, m ≤ R) (hlen : xs.length = fs.size)
    (hf : ∀ (i : Nat) (f : Field), fs[i]? = some f → DataW.trod enc P w 0 (fun _ => true) true n f.type ((cs.drop f.offset).take (P.cellsOf f.type)) = xs[i]?)
    (i : Nat) (f : Field) (hi : fs[i]? = some f) {sz : Nat} (hsz : P.cellsOf f.type = sz) : ∃ y, DataW.trod enc P w 0 (fun _ => true) true n f.type ((cs.drop f.offset).take sz) = some y ∧ ∀ m ∈ y.1.weights P f.type, m ≤ R := by
  have h := hf i f hi
  have hlt : i < fs.size := (Array.getElem?_eq_some_iff.1 hi).1
  rw [List.getElem?_eq_getElem (by omega), hsz] at h
  refine ⟨_, h, fun m hm => hw m ?_⟩
  simp only [DataW.weights, ht]
  refine DataW.weights_mem_each (j := i) (t := f.type) (d := (xs[i]'(by omega)).1) ?_ ?_ m hm
  · rw [List.getElem?_map, Array.getElem?_toList, hi]
    rfl
  · rw [List.getElem?_map, List.getElem?_eq_getElem (by omega)]
    rfl
end
theorem opB_S76 {H : Type} {enc : TypeId × Value → H} {w : World} {R : Nat} (fuel : Nat) : OpB enc Try.prog w k76 76 (fun x => x.f2.size ≤ R) R fuel := by
  intro cs x h hwt
  obtain ⟨xs, n, rfl, rfl, hl, hlen, hf⟩ := DataW.trod_struct Try.underlying76 h
  rw [cellsOf76] at hl
  obtain ⟨y0, e0⟩ := field_of hlen hf 0 _ rfl (sz := 1) (by exact cellsOf74)
  obtain ⟨a0, k0_, g0⟩ := (fun n_ => op_int Try.underlying74 n_) n _ _ e0
  have q0 := k0_
  obtain ⟨y1, e1⟩ := field_of hlen hf 1 _ rfl (sz := 1) (by exact cellsOf3)
  obtain ⟨a1, k1_, g1⟩ := (fun n_ => op_int Try.underlying3 n_) n _ _ e1
  have q1 := k1_
  obtain ⟨y2, e2, t2⟩ := field_ofB Try.underlying76 hwt hlen hf 2 _ rfl (sz := 1) (by exact cellsOf9)
  obtain ⟨a2, k2_, g2⟩ := (fun n_ => opB_string Try.underlying9 n_) n _ _ e2 t2
  have q2 := k2_
  have hcs := (cat cs 0 1).trans (congr (congrArg (fun x y => x ++ y) q0) ((cat cs 1 1).trans (congr (congrArg (fun x y => x ++ y) q1) ((last_ cs 2 1 hl).trans q2))))
  refine ⟨(⟨a0, a1, a2⟩ : S76), ?_, g2⟩
  rw [show cs = _ from hcs]
  exact k76_mk w (⟨a0, a1, a2⟩ : S76)
theorem opB_S26 {H : Type} {enc : TypeId × Value → H} {w : World} (fuel : Nat) : OpB enc Try.prog w k26 26 Bnd 140737488351232 fuel := by
  induction fuel using Nat.strongRecOn with
  | _ fuel ih =>
  intro cs x h hwt
  obtain ⟨xs, n, rfl, rfl, hl, hlen, hf⟩ := DataW.trod_struct Try.underlying26 h
  rw [cellsOf26] at hl
  obtain ⟨y0, e0⟩ := field_of hlen hf 0 _ rfl (sz := 1) (by exact cellsOf3)
  obtain ⟨a0, k0_, g0⟩ := (fun n_ => op_int Try.underlying3 n_) n _ _ e0
  have q0 := k0_
  obtain ⟨y1, e1⟩ := field_of hlen hf 1 _ rfl (sz := 1) (by exact cellsOf3)
  obtain ⟨a1, k1_, g1⟩ := (fun n_ => op_int Try.underlying3 n_) n _ _ e1
  have q1 := k1_
  obtain ⟨y2, e2⟩ := field_of hlen hf 2 _ rfl (sz := 1) (by exact cellsOf3)
  obtain ⟨a2, k2_, g2⟩ := (fun n_ => op_int Try.underlying3 n_) n _ _ e2
  have q2 := k2_
  obtain ⟨y3, e3⟩ := field_of hlen hf 3 _ rfl (sz := 1) (by exact cellsOf22)
  obtain ⟨a3, k3_, g3⟩ := (fun n_ => op_int Try.underlying22 n_) n _ _ e3
  have q3 := k3_
  obtain ⟨y4, e4, t4⟩ := field_ofB Try.underlying26 hwt hlen hf 4 _ rfl (sz := 1) (by exact cellsOf23)
  obtain ⟨a4, k4_, g4⟩ := (fun n_ => opB_slice Try.underlying23 (by exact cellsOf76) (fun m_ _ => (fun n_ => opB_S76 n_) m_)) n _ _ e4 t4
  obtain ⟨A4, c4, q4, l4, r4⟩ := k4_
  obtain ⟨y5, e5, t5⟩ := field_ofB Try.underlying26 hwt hlen hf 5 _ rfl (sz := 1) (by exact cellsOf9)
  obtain ⟨a5, k5_, g5⟩ := (fun n_ => opB_string Try.underlying9 n_) n _ _ e5 t5
  have q5 := k5_
  obtain ⟨y6, e6, t6⟩ := field_ofB Try.underlying26 hwt hlen hf 6 _ rfl (sz := 1) (by exact cellsOf24)
  obtain ⟨a6, k6_, g6⟩ := (fun n_ hn_ => opB_slice Try.underlying24 (by exact cellsOf26) (fun m_ hm_ => ih m_ (by omega))) n (Nat.le_refl _) _ _ e6 t6
  obtain ⟨A6, c6, q6, l6, r6⟩ := k6_
  have hcs := (cat cs 0 1).trans (congr (congrArg (fun x y => x ++ y) q0) ((cat cs 1 1).trans (congr (congrArg (fun x y => x ++ y) q1) ((cat cs 2 1).trans (congr (congrArg (fun x y => x ++ y) q2) ((cat cs 3 1).trans (congr (congrArg (fun x y => x ++ y) q3) ((cat cs 4 1).trans (congr (congrArg (fun x y => x ++ y) q4) ((cat cs 5 1).trans (congr (congrArg (fun x y => x ++ y) q5) ((last_ cs 6 1 hl).trans q6))))))))))))
  refine ⟨(⟨a0, a1, a2, a3, a4, a5, a6⟩ : S26), ?_, Bnd.mk _ (by have := g4.1; rwa [show Try.prog.bytesOf 76 = 32 from by kernel_rfl] at this) g4.2 g5 (by have := g6.1; rwa [show Try.prog.bytesOf 26 = 96 from by kernel_rfl] at this) g6.2⟩
  rw [show cs = _ from hcs]
  exact k26_mk w (⟨a0, a1, a2, a3, a4, a5, a6⟩ : S26) l4 r4 l6 r6
end Go.Proofs.Ytfekpmbecoeijaa.Op
set_option linter.unusedVariables false
namespace Go.Proofs.Ytfekpmbecoeijaa.Pure
open Go.RowKit Go.Proofs.Ytfekpmbecoeijaa.Q Go.Proofs.YtfekpmbecoeijaaW.PrintWords Go.Proofs.YtfekpmbecoeijaaW.PrintLast
open Hand (cloneB)
theorem w64 {n : Int} (h0 : -9223372036854775808 ≤ n) (h1 : n ≤ 9223372036854775807) : wrap64 n = n := by unfold wrap64; omega
def small : Nat → S26 → Bool
  | 0, _ => false
  | d + 1, n => decide (n.f4.length < 300) && decide (n.f6.length < 300) && n.f6.all (small d)
def cnt : Nat → S26 → Nat
  | 0, _ => 0
  | d + 1, n => 1 + (n.f6.map (cnt d)).sum
theorem small_succ {d : Nat} {n : S26} : small (d + 1) n = true ↔ n.f4.length < 300 ∧ n.f6.length < 300 ∧ ∀ y ∈ n.f6, small d y = true := by
  simp only [small, Bool.and_eq_true, decide_eq_true_eq, List.all_eq_true, and_assoc]
theorem small_mono : ∀ (d : Nat) (n : S26), small d n = true → small (d + 1) n = true ∧ cnt (d + 1) n = cnt d n
  | 0, _, h => by simp [small] at h
  | d + 1, n, h => by
    obtain ⟨h1, h2, h3⟩ := small_succ.1 h
    refine ⟨small_succ.2 ⟨h1, h2, fun y hy => (small_mono d y (h3 y hy)).1⟩, ?_⟩
    show 1 + (n.f6.map (cnt (d + 1))).sum = 1 + (n.f6.map (cnt d)).sum
    rw [List.map_congr_left (fun y hy => (small_mono d y (h3 y hy)).2)]
theorem cnt_pos {d : Nat} {n : S26} (h : small d n = true) : 1 ≤ cnt d n := by
  cases d with
  | zero => simp [small] at h
  | succ d => show 1 ≤ 1 + _; omega
theorem small_clone : ∀ (d : Nat) (n : S26), small d n = true → cloneB d n = true
  | 0, _, h => by simp [small] at h
  | d + 1, n, h => by
    obtain ⟨h1, h2, h3⟩ := small_succ.1 h
    simp only [cloneB, Bool.and_eq_true, decide_eq_true_eq, List.all_eq_true]
    exact ⟨⟨by omega, by omega⟩, fun y hy => small_clone d y (h3 y hy)⟩
theorem sum_len {l : List S26} {d : Nat} (h : ∀ y ∈ l, small d y = true) : l.length ≤ (l.map (cnt d)).sum := by
  induction l with
  | nil => simp
  | cons y l ih =>
    have h1 := cnt_pos (h y List.mem_cons_self)
    have h2 := ih fun z hz => h z (List.mem_cons_of_mem _ hz)
    simp only [List.length_cons, List.map_cons, List.sum_cons]
    omega
theorem sum_mono {l : List S26} {d : Nat} (h : ∀ y ∈ l, small d y = true) : (l.map (cnt (d + 1))).sum = (l.map (cnt d)).sum := by
  rw [List.map_congr_left (fun y hy => (small_mono d y (h y hy)).2)]
abbrev NF (k : Nat) (n : S26) (m : Int) : Option Int := arboristref42_weigh.f k n.f0 n.f1 n.f2 n.f3 n.f4 n.f5 n.f6 m
def Spec (k : Nat) : Prop := ∀ (n : S26) (m t : Int), Bnd n → NF k n m = some t → 0 ≤ m → m ≤ 300 → (1 ≤ t ∧ t ≤ m + 281474976710656) ∧ (t ≤ m → small k n = true ∧ (cnt k n : Int) ≤ t)
theorem l1_spec (x1 : Int) (n : S26) (hB : Bnd n) (hx0 : 0 ≤ x1) (hx : x1 ≤ 300) : ∀ (k : Nat), (∀ j, j < k → Spec j) → ∀ (x5 t : Int) (i : Nat), arboristref42_weigh.l1 k x1 x5 (i : Int) n.f0 n.f1 n.f2 n.f3 n.f4 n.f5 n.f6 = some t → 1 ≤ x5 → x5 ≤ x1 + 281474976710656 → (i : Int) ≤ x5 →
    x5 ≤ t ∧ t ≤ x1 + 281474976710656 ∧ (t ≤ x1 → (∀ y ∈ n.f6.drop i, small k y = true) ∧ (((n.f6.drop i).map (cnt k)).sum : Int) + x5 ≤ t) := by
  intro k
  induction k with
  | zero => intro _ x5 t i h; simp [arboristref42_weigh.l1] at h
  | succ k ih =>
    intro H x5 t i h h1 h2 h3
    simp only [arboristref42_weigh.l1] at h
    by_cases hi : (i : Int) < (n.f6.length : Int)
    · rw [if_pos hi] at h
      by_cases hlt : x5 ≤ x1
      · rw [if_pos hlt, if_pos (by omega)] at h
        obtain ⟨u, hu, h⟩ := Option.bind_eq_some_iff.1 h
        rw [w64 (by omega) (by omega)] at hu
        have hin : i < n.f6.length := by omega
        have hrd : rd_T26 n.f6 (i : Int) = n.f6[i] := by simp [rd_T26, hin]
        obtain ⟨hu1, hu2⟩ := H k (by omega) (rd_T26 n.f6 (i : Int)) _ _ (by rw [hrd]; exact hB.kids _ (List.getElem_mem hin)) hu (by omega) (by omega)
        rw [w64 (by omega) (by omega), w64 (by omega) (by omega), show (i : Int) + 1 = ((i + 1 : Nat) : Int) from by omega] at h
        obtain ⟨g1, g2, g3⟩ := ih (fun j hj => H j (by omega)) (x5 + u) t (i + 1) h (by omega) (by omega) (by omega)
        refine ⟨by omega, g2, fun ht => ?_⟩
        obtain ⟨g4, g5⟩ := g3 ht
        obtain ⟨hs, hc⟩ := hu2 (by omega)
        rw [hrd] at hs hc
        rw [List.drop_eq_getElem_cons hin]
        refine ⟨fun y hy => ?_, ?_⟩
        · rcases List.mem_cons.1 hy with rfl | hy
          · exact (small_mono k _ hs).1
          · exact (small_mono k _ (g4 y hy)).1
        · rw [List.map_cons, List.sum_cons, (small_mono k _ hs).2, sum_mono g4]
          omega
      · rw [if_neg hlt] at h
        obtain rfl := Option.some.inj h
        exact ⟨by omega, h2, fun h => by omega⟩
    · rw [if_neg hi] at h
      obtain rfl := Option.some.inj h
      refine ⟨by omega, h2, fun _ => ?_⟩
      rw [List.drop_of_length_le (by omega)]
      exact ⟨fun y hy => (by cases hy), by rw [List.map_nil, List.sum_nil]; simp⟩
theorem rdB (n : S26) (hB : Bnd n) (i : Nat) (h : (i : Int) < (n.f4.length : Int)) : (rd_T76 n.f4 (i : Int)).f2.size ≤ 140737488351232 := by
  have hin : i < n.f4.length := by omega
  have hrd : rd_T76 n.f4 (i : Int) = n.f4[i] := by simp [rd_T76, hin]
  rw [hrd]
  exact hB.lead _ (List.getElem_mem hin)
theorem l0_spec (x1 : Int) (n : S26) (hB : Bnd n) (hx0 : 0 ≤ x1) (hx : x1 ≤ 300) : ∀ (k : Nat), (∀ j, j < k → Spec j) → ∀ (x5 t : Int) (i : Nat), arboristref42_weigh.l0 k x1 x5 (i : Int) n.f0 n.f1 n.f2 n.f3 n.f4 n.f5 n.f6 = some t → 1 + (n.f4.length : Int) ≤ x5 → x5 ≤ x1 + 281474976710656 →
    x5 ≤ t ∧ t ≤ x1 + 281474976710656 ∧ (t ≤ x1 → (∀ y ∈ n.f6, small k y = true) ∧ ((n.f6.map (cnt k)).sum : Int) + x5 ≤ t) := by
  intro k
  have hj : ∀ k, (∀ j, j < k + 1 → Spec j) → ∀ (x5 t : Int), arboristref42_weigh.j1 k x1 x5 n.f0 n.f1 n.f2 n.f3 n.f4 n.f5 n.f6 = some t → 1 + (n.f4.length : Int) ≤ x5 → x5 ≤ x1 + 281474976710656 →
      x5 ≤ t ∧ t ≤ x1 + 281474976710656 ∧ (t ≤ x1 → (∀ y ∈ n.f6, small (k + 1) y = true) ∧ ((n.f6.map (cnt (k + 1))).sum : Int) + x5 ≤ t) := by
    intro k H x5 t h h1 h2
    cases k with
    | zero => simp [arboristref42_weigh.j1] at h
    | succ k =>
      simp only [arboristref42_weigh.j1] at h
      obtain ⟨g1, g2, g3⟩ := l1_spec x1 n hB hx0 hx k (fun j hj => H j (by omega)) x5 t 0 h (by omega) h2 (by omega)
      refine ⟨g1, g2, fun ht => ?_⟩
      obtain ⟨g4, g5⟩ := g3 ht
      rw [List.drop_zero] at g4 g5
      refine ⟨fun y hy => (small_mono _ _ (small_mono _ _ (g4 y hy)).1).1, ?_⟩
      rw [sum_mono (fun y hy => (small_mono _ _ (g4 y hy)).1), sum_mono g4]
      exact g5
  induction k with
  | zero => intro _ x5 t i h; simp [arboristref42_weigh.l0] at h
  | succ k ih =>
    intro H x5 t i h h1 h2
    simp only [arboristref42_weigh.l0] at h
    by_cases hi : (i : Int) < (n.f4.length : Int)
    · rw [if_pos hi] at h
      by_cases hlt : x5 ≤ x1
      · rw [if_pos hlt, if_pos (by omega)] at h
        have hs := rdB n hB i hi
        have hq : 0 ≤ ((rd_T76 n.f4 (i : Int)).f2.size : Int) / 16 ∧ ((rd_T76 n.f4 (i : Int)).f2.size : Int) / 16 ≤ 8796093021952 := by omega
        rw [w64 (n := ((rd_T76 n.f4 (i : Int)).f2.size : Int) / 16) (by omega) (by omega), w64 (by omega) (by omega), w64 (by omega) (by omega), show (i : Int) + 1 = ((i + 1 : Nat) : Int) from by omega] at h
        obtain ⟨g1, g2, g3⟩ := ih (fun j hj => H j (by omega)) _ t (i + 1) h (by omega) (by omega)
        refine ⟨by omega, g2, fun ht => ?_⟩
        obtain ⟨g4, g5⟩ := g3 ht
        exact ⟨fun y hy => (small_mono _ _ (g4 y hy)).1, by rw [sum_mono g4]; omega⟩
      · rw [if_neg hlt] at h
        exact hj k H x5 t h h1 h2
    · rw [if_neg hi] at h
      exact hj k H x5 t h h1 h2
theorem spec : ∀ k, Spec k := by
  intro k
  induction k using Nat.strongRecOn with
  | _ k ih =>
    intro n m t hB h h0 h1
    cases k with
    | zero => simp [NF, arboristref42_weigh.f] at h
    | succ k =>
      simp only [NF, arboristref42_weigh.f] at h
      have hm := hB.leadLen
      have hs := hB.text
      have hq : 0 ≤ (n.f5.size : Int) / 16 ∧ (n.f5.size : Int) / 16 ≤ 8796093021952 := by omega
      rw [w64 (n := (n.f5.size : Int) / 16) (by omega) (by omega), w64 (n := 1 + (n.f4.length : Int)) (by omega) (by omega), w64 (by omega) (by omega)] at h
      obtain ⟨g1, g2, g3⟩ := l0_spec m n hB h0 h1 k (fun j hj => ih j (by omega)) _ t 0 h (by omega) (by omega)
      refine ⟨⟨by omega, g2⟩, fun ht => ?_⟩
      obtain ⟨g4, g5⟩ := g3 ht
      have hl := sum_len g4
      exact ⟨small_succ.2 ⟨by omega, by omega, g4⟩, by show ((1 + (n.f6.map (cnt k)).sum : Nat) : Int) ≤ t; omega⟩
theorem l1_ev (x1 : Int) (n : S26) (hB : Bnd n) (hx0 : 0 ≤ x1) (hx : x1 ≤ 300) (H : ∀ (y : S26) (m : Int), Bnd y → 0 ≤ m → m < x1 → ∃ t, Ev (fun k => NF k y m) t) : ∀ (d : Nat) (x5 : Int) (i : Nat), x1 + 1 - x5 ≤ d → 1 ≤ x5 → x5 ≤ x1 + 281474976710656 → (i : Int) ≤ x5 →
    ∃ t, Ev (fun k => arboristref42_weigh.l1 k x1 x5 (i : Int) n.f0 n.f1 n.f2 n.f3 n.f4 n.f5 n.f6) t := by
  intro d
  induction d with
  | zero =>
    intro x5 i h1 h2 h3 h4
    refine ⟨x5, Ev.step (f := fun _ => some x5) (fun k => ?_) (Ev.now _)⟩
    simp only [arboristref42_weigh.l1]
    by_cases hi : (i : Int) < (n.f6.length : Int)
    · rw [if_pos hi, if_neg (by omega)]
    · rw [if_neg hi]
  | succ d ih =>
    intro x5 i h1 h2 h3 h4
    by_cases hi : (i : Int) < (n.f6.length : Int) ∧ x5 ≤ x1
    · have hin : i < n.f6.length := by omega
      have hrd : rd_T26 n.f6 (i : Int) = n.f6[i] := by simp [rd_T26, hin]
      have hBy : Bnd (rd_T26 n.f6 (i : Int)) := by rw [hrd]; exact hB.kids _ (List.getElem_mem hin)
      obtain ⟨u, hu⟩ := H (rd_T26 n.f6 (i : Int)) (x1 - x5) hBy (by omega) (by omega)
      obtain ⟨k, hk⟩ := hu.rounds
      obtain ⟨⟨hu1, hu2⟩, _⟩ := spec k _ _ _ hBy hk (by omega) (by omega)
      obtain ⟨t, ht⟩ := ih (x5 + u) (i + 1) (by omega) (by omega) (by omega) (by omega)
      refine ⟨t, Ev.step (fun k => ?_) (Ev.bind (f := fun k u => arboristref42_weigh.l1 k x1 (wrap64 (x5 + u)) ((i + 1 : Nat) : Int) n.f0 n.f1 n.f2 n.f3 n.f4 n.f5 n.f6) hu (Ev.congr (fun k => ?_) ht))⟩
      · simp only [arboristref42_weigh.l1]
        rw [if_pos hi.1, if_pos hi.2, if_pos (by omega), w64 (n := x1 - x5) (by omega) (by omega), w64 (n := (i : Int) + 1) (by omega) (by omega)]
        rfl
      · show arboristref42_weigh.l1 k x1 (wrap64 (x5 + u)) _ _ _ _ _ _ _ _ = _
        rw [w64 (by omega) (by omega)]
    · refine ⟨x5, Ev.step (f := fun _ => some x5) (fun k => ?_) (Ev.now _)⟩
      simp only [arboristref42_weigh.l1]
      by_cases hi' : (i : Int) < (n.f6.length : Int)
      · rw [if_pos hi', if_neg (by omega)]
      · rw [if_neg hi']
theorem l0_ev (x1 : Int) (n : S26) (hB : Bnd n) (hx0 : 0 ≤ x1) (hx : x1 ≤ 300) (H : ∀ (y : S26) (m : Int), Bnd y → 0 ≤ m → m < x1 → ∃ t, Ev (fun k => NF k y m) t) : ∀ (d : Nat) (x5 : Int) (i : Nat), n.f4.length ≤ i + d → 1 + (n.f4.length : Int) ≤ x5 → x5 ≤ x1 + 281474976710656 →
    ∃ t, Ev (fun k => arboristref42_weigh.l0 k x1 x5 (i : Int) n.f0 n.f1 n.f2 n.f3 n.f4 n.f5 n.f6) t := by
  have hj : ∀ x5 : Int, 1 + (n.f4.length : Int) ≤ x5 → x5 ≤ x1 + 281474976710656 → ∃ t, Ev (fun k => arboristref42_weigh.j1 k x1 x5 n.f0 n.f1 n.f2 n.f3 n.f4 n.f5 n.f6) t := fun x5 h1 h2 => by
    obtain ⟨t, ht⟩ := l1_ev x1 n hB hx0 hx H (x1 + 1 - x5).toNat x5 0 (by omega) (by omega) h2 (by omega)
    exact ⟨t, Ev.step (fun k => by simp only [arboristref42_weigh.j1]; rfl) ht⟩
  intro d
  induction d with
  | zero =>
    intro x5 i h1 h2 h3
    obtain ⟨t, ht⟩ := hj x5 h2 h3
    refine ⟨t, Ev.step (fun k => ?_) ht⟩
    simp only [arboristref42_weigh.l0]
    rw [if_neg (by omega)]
  | succ d ih =>
    intro x5 i h1 h2 h3
    by_cases hi : (i : Int) < (n.f4.length : Int) ∧ x5 ≤ x1
    · have hs := rdB n hB i hi.1
      have hq : 0 ≤ ((rd_T76 n.f4 (i : Int)).f2.size : Int) / 16 ∧ ((rd_T76 n.f4 (i : Int)).f2.size : Int) / 16 ≤ 8796093021952 := by omega
      have hl4 := hB.leadLen
      obtain ⟨t, ht⟩ := ih (x5 + ((rd_T76 n.f4 (i : Int)).f2.size : Int) / 16) (i + 1) (by omega) (by omega) (by omega)
      refine ⟨t, Ev.step (fun k => ?_) ht⟩
      simp only [arboristref42_weigh.l0]
      rw [if_pos hi.1, if_pos hi.2, if_pos (by omega), w64 (n := ((rd_T76 n.f4 (i : Int)).f2.size : Int) / 16) (by omega) (by omega), w64 (n := x5 + _) (by omega) (by omega), w64 (n := (i : Int) + 1) (by omega) (by omega)]
      rfl
    · obtain ⟨t, ht⟩ := hj x5 h2 h3
      refine ⟨t, Ev.step (fun k => ?_) ht⟩
      simp only [arboristref42_weigh.l0]
      by_cases hi' : (i : Int) < (n.f4.length : Int)
      · rw [if_pos hi', if_neg (by omega)]
      · rw [if_neg hi']
theorem nodes_ev : ∀ (M : Nat), M ≤ 300 → ∀ (n : S26) (m : Int), Bnd n → 0 ≤ m → m ≤ M → ∃ t, Ev (fun k => NF k n m) t := by
  intro M
  induction M using Nat.strongRecOn with
  | _ M ih =>
    intro hM n m hB h0 h1
    have hm := hB.leadLen
    have hs := hB.text
    have hq : 0 ≤ (n.f5.size : Int) / 16 ∧ (n.f5.size : Int) / 16 ≤ 8796093021952 := by omega
    obtain ⟨t, ht⟩ := l0_ev m n hB h0 (by omega) (fun y m' hBy h0' h1' => ih m'.toNat (by omega) (by omega) y m' hBy h0' (by omega)) n.f4.length ((1 + (n.f4.length : Int)) + (n.f5.size : Int) / 16) 0 (by omega) (by omega) (by omega)
    refine ⟨t, Ev.step (fun k => ?_) ht⟩
    simp only [NF, arboristref42_weigh.f]
    rw [w64 (n := (n.f5.size : Int) / 16) (by omega) (by omega), w64 (n := 1 + (n.f4.length : Int)) (by omega) (by omega), w64 (by omega) (by omega)]
    rfl
theorem few_ev (n : S26) (m : Int) (hB : Bnd n) (h0 : 0 ≤ m) (h1 : m ≤ 300) : ∃ b, Ev (fun k => arboristref42_Few.f k n.f0 n.f1 n.f2 n.f3 n.f4 n.f5 n.f6 m) b ∧ (b = true → ∃ d, small d n = true ∧ (cnt d n : Int) ≤ m) := by
  obtain ⟨t, ht⟩ := nodes_ev 300 (Nat.le_refl _) n m hB h0 (by omega)
  obtain ⟨k, hk⟩ := ht.rounds
  refine ⟨decide (t ≤ m), ?_, fun h => ?_⟩
  · unfold arboristref42_Few.f
    exact Ev.bind (f := fun _ t => some (decide (t ≤ m))) ht (Ev.now _)
  · have hle := of_decide_eq_true h
    obtain ⟨_, h2⟩ := spec k _ _ _ hB hk h0 h1
    exact ⟨k, (h2 hle).1, by have := (h2 hle).2; omega⟩
end Go.Proofs.Ytfekpmbecoeijaa.Pure
