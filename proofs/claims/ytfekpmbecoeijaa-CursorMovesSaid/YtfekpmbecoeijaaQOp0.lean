import Derived.Test.YtfekpmbecoeijaaWX
import Derived.ChangeArms
import Derived.DataReads
import Derived.ChangeOld
import Derived.OpenShut
namespace Go.Proofs.Ytfekpmbecoeijaa.Op
open Go.RowKit Go.Proofs.YtfekpmbecoeijaaW.PrintWords Go.Proofs.YtfekpmbecoeijaaW.PrintLast
variable {H : Type} {α : Type}
def OpF (enc : TypeId × Value → H) (P : Program) (w : World) (d : Kd α) (t : TypeId) (G : α → Prop) (fuel : Nat) : Prop :=
  ∀ cs x, DataW.trod enc P w 0 (fun _ => true) true fuel t cs = some x → ∃ a, d.K w a cs ∧ G a
variable {enc : TypeId × Value → H} {P : Program} {w : World} {d : Kd α} {t e : TypeId} {G : α → Prop}
theorem op_int {k : IntKind} (ht : P.underlying t = some (.int k)) (fuel : Nat) : OpF enc P w (Kd.int k) t (fun n => (Lit.int k n).wf = true) fuel := by
  intro cs x h
  obtain ⟨n, rfl, _, hw⟩ := DataW.trod_int ht h
  exact ⟨n, rfl, hw⟩
theorem add_add (ad : Addr) (i j : Nat) : (ad.add i).add j = ad.add (i + j) := by
  unfold Addr.add
  by_cases h1 : i = 0 <;> by_cases h2 : j = 0 <;> simp [h1, h2, Nat.add_assoc]
theorem op_slice {fuel : Nat} (ht : P.underlying t = some (.slice e)) (hc : P.cellsOf e = d.sz) (h : ∀ n, n < fuel → OpF enc P w d e G n) :
    OpF enc P w (Kd.slice e d) t (fun xs => ∀ a ∈ xs, G a) fuel := by
  intro cs x hx
  rcases DataW.trod_slice ht hx with ⟨rfl, _⟩ | ⟨a, len, cap, elems, rest, n, rfl, rfl, _, _, hl, hm, hlen, hel, _⟩
  · exact ⟨[], ⟨none, 0, rfl, Nat.le_refl _, Kd.C_nil _ _⟩, by simp⟩
  · have key : ∀ m, m ≤ len → ∃ xs : List α, xs.length = m ∧ ∀ i p, xs[i]? = some p → G p ∧ ∃ c, c.length = d.sz ∧ d.K w p c ∧ ∀ j u, c[j]? = some u → w.cell? (a.add (i * d.sz + j)) = some u := by
      intro m
      induction m with
      | zero => exact fun _ => ⟨[], rfl, fun i p hp => by simp at hp⟩
      | succ m ih =>
        intro hm
        obtain ⟨xs, hl, hx⟩ := ih (by omega)
        have h1 := hel m (by omega)
        rw [List.getElem?_eq_getElem (by omega)] at h1
        obtain ⟨c, hcs, htr⟩ := Option.bind_eq_some_iff.1 h1
        obtain ⟨p, hK, hG⟩ := h n (by omega) c _ htr
        refine ⟨xs ++ [p], by simp [hl], fun i q hq => ?_⟩
        rcases Nat.lt_or_ge i xs.length with hi | hi
        · rw [List.getElem?_append_left hi] at hq
          exact hx i q hq
        · have hi' : i = xs.length := by
            have := (List.getElem?_eq_some_iff.1 hq).1
            simp at this
            omega
          subst hi'
          have hq' : p = q := by simpa using hq
          subst hq'
          refine ⟨hG, c, d.K_len hK, hK, fun j u hu => ?_⟩
          obtain ⟨_, hlen2, hcell⟩ := World.cells?_some hcs
          have hj : j < P.cellsOf e := by
            have := (List.getElem?_eq_some_iff.1 hu).1
            omega
          have := hcell j hj
          rw [add_add, hc] at this
          rw [hl, this, hu]
    obtain ⟨xs, hxl, hxs⟩ := key len (Nat.le_refl _)
    subst hxl
    refine ⟨xs, ⟨some a, cap, rfl, hl, rfl, ?_, fun _ => ⟨a, rfl, fun j p hp => (hxs j p hp).2⟩⟩, fun p hp => ?_⟩
    · have : xs.length ≤ maxLen := Nat.le_trans hl hm
      unfold maxLen at this
      omega
    · obtain ⟨i, hi⟩ := List.mem_iff_getElem?.1 hp
      exact (hxs i p hi).1
theorem cat (cs : List Value) (a b : Nat) : cs.drop a = (cs.drop a).take b ++ cs.drop (a + b) := by
  rw [← List.drop_drop, List.take_append_drop]
theorem last_ (cs : List Value) (a b : Nat) (h : cs.length = a + b) : cs.drop a = (cs.drop a).take b := by
  rw [List.take_of_length_le (by rw [List.length_drop]; omega)]
theorem field_of {fs : Array Field} {n : Nat} {cs : List Value} {xs : List (DataW H × List MemPlace)} (hlen : xs.length = fs.size)
    (hf : ∀ (i : Nat) (f : Field), fs[i]? = some f → DataW.trod enc P w 0 (fun _ => true) true n f.type ((cs.drop f.offset).take (P.cellsOf f.type)) = xs[i]?)
    (i : Nat) (f : Field) (hi : fs[i]? = some f) {sz : Nat} (hsz : P.cellsOf f.type = sz) : ∃ y, DataW.trod enc P w 0 (fun _ => true) true n f.type ((cs.drop f.offset).take sz) = some y := by
  have h := hf i f hi
  have hlt : i < fs.size := (Array.getElem?_eq_some_iff.1 hi).1
  rw [List.getElem?_eq_getElem (by omega), hsz] at h
  exact ⟨_, h⟩
theorem okWide_agg {r : Reach} {base : Nat} {v : Value} {fs : Array Field} (ht : P.underlying t = some (.struct fs)) (h : Value.okWide P w r base t v) : ∃ cs, v = .agg cs := by
  simp only [Value.okWide, ht] at h
  obtain ⟨cs, rfl, _⟩ := h
  exact ⟨cs, rfl⟩
end Go.Proofs.Ytfekpmbecoeijaa.Op
