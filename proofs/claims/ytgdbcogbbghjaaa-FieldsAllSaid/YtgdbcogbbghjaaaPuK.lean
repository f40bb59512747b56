import Derived.Test.YtgdbcogbbghjaaaPuL
import Derived.Test.YtgdbcogbbghjaaaPuI
import Derived.SizedLaws
namespace Go.Proofs.Ytgdbcogbbghjaaa.Op
open Go.RowKit Go.Proofs.Ytgdbcogbbghjaaa.Q Go.Proofs.YtgdbcogbbghjaaaW.PrintWords Go.Proofs.YtgdbcogbbghjaaaW.PrintLast
open Go.Proofs.Ytgdbcogbbghjaaa.Pure (Bnd)
section
variable {H α : Type} {enc : TypeId × Value → H} {P : Program} {w : World} {d : Kd α} {t e : TypeId} {G : α → Prop} {R : Nat}
def OpB (enc : TypeId × Value → H) (P : Program) (w : World) (d : Kd α) (t : TypeId) (G : α → Prop) (R : Nat) (fuel : Nat) : Prop :=
  ∀ cs x, DataW.trod enc P w 0 (fun _ => true) true fuel t cs = some x → (∀ m ∈ x.1.weights P t, m ≤ R) → ∃ a, d.K w a cs ∧ G a
theorem opB_string (ht : P.underlying t = some .string) (fuel : Nat) : OpB enc P w Kd.string t (fun s => s.size ≤ R) R fuel := by
  intro cs x h hw
  obtain ⟨s, rfl, rfl, hs⟩ := DataW.trod_string ht h
  refine ⟨s, rfl, ?_⟩
  have := hw s.data.toList.length (by simp [DataW.weights])
  simpa using this
theorem weightsAll_mem {P : Program} {e : TypeId} : ∀ {l : List (DataW H)} {i : Nat} {d : DataW H}, l[i]? = some d → ∀ m ∈ d.weights P e, m ∈ DataW.weightsAll P e l
  | d0 :: l, 0, d, h, m, hm => by
    simp only [List.getElem?_cons_zero, Option.some.injEq] at h
    subst h
    simp only [DataW.weightsAll, List.mem_append]
    exact Or.inl hm
  | d0 :: l, i + 1, d, h, m, hm => by
    simp only [List.getElem?_cons_succ] at h
    simp only [DataW.weightsAll, List.mem_append]
    exact Or.inr (weightsAll_mem h m hm)
  | [], _, _, h, _, _ => by simp at h
theorem opB_slice {fuel : Nat} (ht : P.underlying t = some (.slice e)) (hc : P.cellsOf e = d.sz) (h : ∀ n, n < fuel → OpB enc P w d e G R n) :
    OpB enc P w (Kd.slice e d) t (fun xs => ∀ a ∈ xs, G a) R fuel := by
  intro cs x hx hw
  rcases DataW.trod_slice ht hx with ⟨rfl, _⟩ | ⟨a, len, cap, elems, rest, n, rfl, rfl, rfl, _, hl, hm, hlen, hel, _⟩
  · exact ⟨[], ⟨none, 0, rfl, Nat.le_refl _, Kd.C_nil _ _⟩, by simp⟩
  · have hwe : ∀ (m : Nat) (y : DataW H × List MemPlace), elems[m]? = some y → ∀ q ∈ y.1.weights P e, q ≤ R := by
      intro m y hy q hq
      refine hw q ?_
      simp only [DataW.weights, ht, List.mem_cons, List.mem_append]
      exact Or.inr (Or.inl (weightsAll_mem (i := m) (d := y.1) (by rw [List.getElem?_map, hy]; rfl) q hq))
    have key : ∀ m, m ≤ len → ∃ xs : List α, xs.length = m ∧ ∀ i p, xs[i]? = some p → G p ∧ ∃ c, c.length = d.sz ∧ d.K w p c ∧ ∀ j u, c[j]? = some u → w.cell? (a.add (i * d.sz + j)) = some u := by
      intro m
      induction m with
      | zero => exact fun _ => ⟨[], rfl, fun i p hp => by simp at hp⟩
      | succ m ih =>
        intro hm
        obtain ⟨xs, hl, hx⟩ := ih (by omega)
        have h1 := hel m (by omega)
        rw [List.getElem?_eq_getElem (by omega)] at h1
        obtain ⟨c, hcs, htr⟩ := Option.bind_eq_some_iff.1 h1
        obtain ⟨p, hK, hG⟩ := h n (by omega) c _ htr (hwe m _ (List.getElem?_eq_getElem (by omega)))
        refine ⟨xs ++ [p], by simp [hl], fun i q hq => ?_⟩
        rcases Nat.lt_or_ge i xs.length with hi | hi
        · rw [List.getElem?_append_left hi] at hq
          exact hx i q hq
        · have hi' : i = xs.length := by
            have := (List.getElem?_eq_some_iff.1 hq).1
            simp at this
            omega
          subst hi'
          have hq' : p = q := by simpa using hq
          subst hq'
          refine ⟨hG, c, d.K_len hK, hK, fun j u hu => ?_⟩
          obtain ⟨_, hlen2, hcell⟩ := World.cells?_some hcs
          have hj : j < P.cellsOf e := by
            have := (List.getElem?_eq_some_iff.1 hu).1
            omega
          have := hcell j hj
          rw [add_add, hc] at this
          rw [hl, this, hu]
    obtain ⟨xs, hxl, hxs⟩ := key len (Nat.le_refl _)
    subst hxl
    refine ⟨xs, ⟨some a, cap, rfl, hl, rfl, ?_, fun _ => ⟨a, rfl, fun j p hp => (hxs j p hp).2⟩⟩, fun p hp => ?_⟩
    · have : xs.length ≤ maxLen := Nat.le_trans hl hm
      unfold maxLen at this
      omega
    · obtain ⟨i, hi⟩ := List.mem_iff_getElem?.1 hp
      exact (hxs i p hi).1
theorem field_ofB {fs : Array Field} {n : Nat} {cs : List Value} {xs : List (DataW H × List MemPlace)} (ht : P.underlying t = some (.struct fs)) (hw : ∀ m ∈ (DataW.agg (xs.map (·.1))).weights P t, m ≤ R) (hlen : xs.length = fs.size)
    (hf : ∀ (i : Nat) (f : Field), fs[i]? = some f → DataW.trod enc P w 0 (fun _ => true) true n f.type ((cs.drop f.offset).take (P.cellsOf f.type)) = xs[i]?)
    (i : Nat) (f : Field) (hi : fs[i]? = some f) {sz : Nat} (hsz : P.cellsOf f.type = sz) : ∃ y, DataW.trod enc P w 0 (fun _ => true) true n f.type ((cs.drop f.offset).take sz) = some y ∧ ∀ m ∈ y.1.weights P f.type, m ≤ R := by
  have h := hf i f hi
  have hlt : i < fs.size := (Array.getElem?_eq_some_iff.1 hi).1
  rw [List.getElem?_eq_getElem (by omega), hsz] at h
  refine ⟨_, h, fun m hm => hw m ?_⟩
  simp only [DataW.weights, ht]
  refine DataW.weights_mem_each (j := i) (t := f.type) (d := (xs[i]'(by omega)).1) ?_ ?_ m hm
  · rw [List.getElem?_map, Array.getElem?_toList, hi]
    rfl
  · rw [List.getElem?_map, List.getElem?_eq_getElem (by omega)]
    rfl
end
theorem opB_S53 {H : Type} {enc : TypeId × Value → H} {w : World} {R : Nat} (fuel : Nat) : OpB enc Try.prog w k53 53 (fun x => x.f2.size ≤ R) R fuel := by
  intro cs x h hwt
  obtain ⟨xs, n, rfl, rfl, hl, hlen, hf⟩ := DataW.trod_struct Try.underlying53 h
  rw [cellsOf53] at hl
  obtain ⟨y0, e0⟩ := field_of hlen hf 0 _ rfl (sz := 1) (by exact cellsOf51)
  obtain ⟨a0, k0_, g0⟩ := (fun n_ => op_int Try.underlying51 n_) n _ _ e0
  have q0 := k0_
  obtain ⟨y1, e1⟩ := field_of hlen hf 1 _ rfl (sz := 1) (by exact cellsOf3)
  obtain ⟨a1, k1_, g1⟩ := (fun n_ => op_int Try.underlying3 n_) n _ _ e1
  have q1 := k1_
  obtain ⟨y2, e2, t2⟩ := field_ofB Try.underlying53 hwt hlen hf 2 _ rfl (sz := 1) (by exact cellsOf9)
  obtain ⟨a2, k2_, g2⟩ := (fun n_ => opB_string Try.underlying9 n_) n _ _ e2 t2
  have q2 := k2_
  have hcs := (cat cs 0 1).trans (congr (congrArg (fun x y => x ++ y) q0) ((cat cs 1 1).trans (congr (congrArg (fun x y => x ++ y) q1) ((last_ cs 2 1 hl).trans q2))))
  refine ⟨(⟨a0, a1, a2⟩ : S53), ?_, g2⟩
  rw [show cs = _ from hcs]
  exact k53_mk w (⟨a0, a1, a2⟩ : S53)
theorem opB_S32 {H : Type} {enc : TypeId × Value → H} {w : World} (fuel : Nat) : OpB enc Try.prog w k32 32 Bnd 140737488351232 fuel := by
  induction fuel using Nat.strongRecOn with
  | _ fuel ih =>
  intro cs x h hwt
  obtain ⟨xs, n, rfl, rfl, hl, hlen, hf⟩ := DataW.trod_struct Try.underlying32 h
  rw [cellsOf32] at hl
  obtain ⟨y0, e0⟩ := field_of hlen hf 0 _ rfl (sz := 1) (by exact cellsOf3)
  obtain ⟨a0, k0_, g0⟩ := (fun n_ => op_int Try.underlying3 n_) n _ _ e0
  have q0 := k0_
  obtain ⟨y1, e1⟩ := field_of hlen hf 1 _ rfl (sz := 1) (by exact cellsOf3)
  obtain ⟨a1, k1_, g1⟩ := (fun n_ => op_int Try.underlying3 n_) n _ _ e1
  have q1 := k1_
  obtain ⟨y2, e2⟩ := field_of hlen hf 2 _ rfl (sz := 1) (by exact cellsOf3)
  obtain ⟨a2, k2_, g2⟩ := (fun n_ => op_int Try.underlying3 n_) n _ _ e2
  have q2 := k2_
  obtain ⟨y3, e3⟩ := field_of hlen hf 3 _ rfl (sz := 1) (by exact cellsOf28)
  obtain ⟨a3, k3_, g3⟩ := (fun n_ => op_int Try.underlying28 n_) n _ _ e3
  have q3 := k3_
  obtain ⟨y4, e4, t4⟩ := field_ofB Try.underlying32 hwt hlen hf 4 _ rfl (sz := 1) (by exact cellsOf29)
  obtain ⟨a4, k4_, g4⟩ := (fun n_ => opB_slice Try.underlying29 (by exact cellsOf53) (fun m_ _ => (fun n_ => opB_S53 n_) m_)) n _ _ e4 t4
  obtain ⟨A4, c4, q4, l4, r4⟩ := k4_
  obtain ⟨y5, e5, t5⟩ := field_ofB Try.underlying32 hwt hlen hf 5 _ rfl (sz := 1) (by exact cellsOf9)
  obtain ⟨a5, k5_, g5⟩ := (fun n_ => opB_string Try.underlying9 n_) n _ _ e5 t5
  have q5 := k5_
  obtain ⟨y6, e6, t6⟩ := field_ofB Try.underlying32 hwt hlen hf 6 _ rfl (sz := 1) (by exact cellsOf30)
  obtain ⟨a6, k6_, g6⟩ := (fun n_ hn_ => opB_slice Try.underlying30 (by exact cellsOf32) (fun m_ hm_ => ih m_ (by omega))) n (Nat.le_refl _) _ _ e6 t6
  obtain ⟨A6, c6, q6, l6, r6⟩ := k6_
  have hcs := (cat cs 0 1).trans (congr (congrArg (fun x y => x ++ y) q0) ((cat cs 1 1).trans (congr (congrArg (fun x y => x ++ y) q1) ((cat cs 2 1).trans (congr (congrArg (fun x y => x ++ y) q2) ((cat cs 3 1).trans (congr (congrArg (fun x y => x ++ y) q3) ((cat cs 4 1).trans (congr (congrArg (fun x y => x ++ y) q4) ((cat cs 5 1).trans (congr (congrArg (fun x y => x ++ y) q5) ((last_ cs 6 1 hl).trans q6))))))))))))
  refine ⟨(⟨a0, a1, a2, a3, a4, a5, a6⟩ : S32), ?_, Bnd.mk _ g4 g5 g6⟩
  rw [show cs = _ from hcs]
  exact k32_mk w (⟨a0, a1, a2, a3, a4, a5, a6⟩ : S32) l4 r4 l6 r6
theorem len27' {H : Type} {enc : TypeId × Value → H} {w : World} {fuel : Nat} {A0 A1 A2 A3 A4 : Option Addr} {n0 n1 n2 n3 n4 c0 c1 c2 c3 c4 : Nat} {x : DataW H × List MemPlace}
    (h : DataW.trod enc Try.prog w 0 (fun _ => true) true fuel 27 [.slice A0 n0 c0, .slice A1 n1 c1, .slice A2 n2 c2, .slice A3 n3 c3, .slice A4 n4 c4] = some x) : n3 ≤ 9223372036854775807 := by
  obtain ⟨xs, n, rfl, rfl, hl, hlen, hf⟩ := DataW.trod_struct Try.underlying27 h
  obtain ⟨y1, e1⟩ := field_of hlen hf 3 _ rfl (sz := 1) (by exact cellsOf24)
  rcases DataW.trod_slice Try.underlying24 e1 with ⟨h, _⟩ | ⟨a, len, cap, _, _, _, _, h, _, _, hl, hm, _⟩
  · have e : Value.slice A3 n3 c3 = .slice none 0 0 := List.cons.inj h |>.1
    injection e with _ e _
    omega
  · have e : Value.slice A3 n3 c3 = .slice (some a) len cap := List.cons.inj h |>.1
    injection e with _ e _
    have : maxLen = 9223372036854775807 := by decide
    omega
end Go.Proofs.Ytgdbcogbbghjaaa.Op
