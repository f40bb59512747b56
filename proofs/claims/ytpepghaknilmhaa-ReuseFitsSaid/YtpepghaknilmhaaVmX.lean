/- The machine of plain values: what a row's data are, by their types alone. Written once for all seats. -/
import Derived.Test.YtpepghaknilmhaaVmV
import Derived.ChangeArms
import Derived.DataReads
import Derived.ChangeOld
import Derived.OpenShut
import Derived.WideShapes
import Derived.SizedLaws
import Derived.Carry
namespace Go.Proofs.Ytpepghaknilmhaa.Vm
open Go Go.RowKit Go.ChangeShapes Go.WideShapes
set_option linter.unusedVariables false
set_option linter.unusedSimpArgs false

def All (w : World) (k : Nat) : Prop := k < w.heap.size
def Cells (w : World) (ds : List DV) (cs : List Value) : Prop := cs.length = ds.length ∧ ∀ (j : Nat) (u : DV), ds[j]? = some u → DRel (All w) w u (cs.getD j undef)
def cfg (w : World) : Cfg := ⟨fun _ => none, All w, w⟩
theorem cell_spot {w : World} {a : Addr} {v : Value} (h : w.cell? a = some v) : a.spot = none ∧ a.block < w.heap.size := by
  unfold World.cell? at h
  split at h
  · rename_i c t f hb
    refine ⟨?_, (Array.getElem?_eq_some_iff.1 hb).1⟩
    cases hs : a.spot with
    | none => rfl
    | some s => rw [hs] at h; simp at h
  · cases h
theorem drel_of {c : Cfg} {d : DV} {v : Value} (h : VRel c (.d d) v) : DRel c.I c.W d v := by cases h with | d h => exact h
theorem Cells.nil {w : World} : Cells w [] [] := ⟨rfl, fun j u hj => by simp at hj⟩
theorem Cells.cons {w : World} {d : DV} {v : Value} {ds : List DV} {cs : List Value} (h : DRel (All w) w d v) (g : Cells w ds cs) : Cells w (d :: ds) (v :: cs) := by
  refine ⟨by simp [g.1], fun j u hj => ?_⟩
  cases j with
  | zero => simp at hj; subst hj; exact h
  | succ j => simpa using g.2 j u (by simpa using hj)
theorem Cells.append {w : World} {ds ds' : List DV} {cs cs' : List Value} (h : Cells w ds cs) (g : Cells w ds' cs') : Cells w (ds ++ ds') (cs ++ cs') := by
  induction ds generalizing cs with
  | nil => have : cs = [] := List.eq_nil_of_length_eq_zero h.1; subst this; exact g
  | cons d ds ih =>
    cases cs with
    | nil => have := h.1; simp at this
    | cons v cs =>
      refine .cons (by simpa using h.2 0 d rfl) (ih ⟨by simpa using h.1, fun j u hj => by simpa using h.2 (j + 1) u (by simpa using hj)⟩)
theorem vrel_agg {w : World} {ds : List DV} {cs : Array Value} (h : Cells w ds cs.toList) : VRel (cfg w) (.agg (ds.map .d)) (.agg cs) := by
  refine .agg (by have := h.1; simp at this ⊢; exact this) fun j u hj => ?_
  rw [List.getElem?_map] at hj
  obtain ⟨d, h1, rfl⟩ := Option.map_eq_some_iff.1 hj
  have := h.2 j d h1
  rw [Array.getD_eq_getD_getElem?]
  rw [List.getD_eq_getElem?_getD, Array.getElem?_toList] at this
  exact .d this
theorem vl_cons {c : Cfg} {p : PV} {v : Value} {ps : List PV} {vs : List Value} (h : VRel c p v) (g : VL c ps vs.toArray) : VL c (p :: ps) (v :: vs).toArray := by
  refine VL.mk' (by simpa using g.1) fun j u hj => ?_
  cases j with
  | zero => simp at hj; subst hj; exact ⟨v, by simp, h⟩
  | succ j =>
    obtain ⟨x, h1, h2⟩ := g.get (by simpa using hj)
    exact ⟨x, by simpa using h1, h2⟩
theorem take_ix {l ds : List DV} {i sz j : Nat} (h : (l.drop (i * sz)).take sz = ds) (hj : j < sz) : l[i * sz + j]? = ds[j]? := by
  rw [← h, List.getElem?_take, if_pos hj, List.getElem?_drop]

/-! ### Data by their type -/
/-- Cells of a type. -/
def TD (P : Program) (R : Nat) : Nat → TypeId → List DV → Prop
  | 0, _, _ => False
  | n + 1, t, ds => match P.underlying t with
    | some (.int k) => ∃ z, ds = [.int k z] ∧ (Lit.int k z).wf = true
    | some .bool => ∃ b, ds = [.bool b]
    | some .string => ∃ s : ByteArray, ds = [.str s] ∧ s.size ≤ R
    | some (.slice e) => ∃ nl tt m cells, ds = [.list nl tt m cells] ∧ cells.length = m * P.cellsOf e ∧ m * P.bytesOf e ≤ R ∧ m ≤ 9223372036854775807 ∧ (nl = true → tt = true ∧ m = 0) ∧ (tt = true → nl = true) ∧ ∀ i, i < m → TD P R n e ((cells.drop (i * P.cellsOf e)).take (P.cellsOf e))
    | some (.struct fs) => ds.length = P.cellsOf t ∧ ∀ f ∈ fs.toList, TD P R n f.type ((ds.drop f.offset).take (P.cellsOf f.type))
    | some (.array len e) => ds.length = P.cellsOf t ∧ ∀ i, i < len → TD P R n e ((ds.drop (i * P.cellsOf e)).take (P.cellsOf e))
    | _ => False

/-- Fields lie one behind the other. -/
def laidF (P : Program) : Nat → Nat → List Field → Bool
  | off, n, [] => off == n
  | off, n, f :: fs => f.offset == off && laidF P (off + P.cellsOf f.type) n fs
/-- Types of data alone, closed under parts. -/
def dataT (P : Program) (ts : List TypeId) : Bool := ts.all fun t => match P.underlying t with
  | some (.int _) | some .bool | some .string => true
  | some (.slice e) => ts.contains e
  | some (.struct fs) => laidF P 0 (P.cellsOf t) fs.toList && fs.toList.all fun f => ts.contains f.type
  | some (.array n e) => P.cellsOf t == n * P.cellsOf e && ts.contains e
  | _ => false

theorem segs_of {P : Program} {w : World} {G : Field → List DV → Prop} {cs : List Value} : ∀ (fs : List Field) (off n : Nat), laidF P off n fs = true → n ≤ cs.length →
    (∀ f ∈ fs, ∃ ds, Cells w ds ((cs.drop f.offset).take (P.cellsOf f.type)) ∧ G f ds) → off ≤ n ∧ ∃ ds, Cells w ds ((cs.drop off).take (n - off)) ∧ ∀ f ∈ fs, off ≤ f.offset ∧ G f ((ds.drop (f.offset - off)).take (P.cellsOf f.type))
  | [], off, n, h, hn, _ => by
    have : off = n := by simpa [laidF] using h
    subst this
    exact ⟨Nat.le_refl _, [], by simpa using Cells.nil, by simp⟩
  | f :: fs, off, n, h, hn, hG => by
    simp only [laidF, Bool.and_eq_true, beq_iff_eq] at h
    obtain ⟨rfl, h2⟩ := h
    obtain ⟨hle, ds, c1, c2⟩ := segs_of fs _ n h2 hn (fun g hg => hG g (List.mem_cons_of_mem _ hg))
    obtain ⟨d0, e1, e2⟩ := hG f List.mem_cons_self
    have hl0 : d0.length = P.cellsOf f.type := by rw [← e1.1, List.length_take, List.length_drop]; omega
    refine ⟨by omega, d0 ++ ds, ?_, fun g hg => ?_⟩
    · have : (cs.drop f.offset).take (n - f.offset) = (cs.drop f.offset).take (P.cellsOf f.type) ++ (cs.drop (f.offset + P.cellsOf f.type)).take (n - (f.offset + P.cellsOf f.type)) := by
        have e : n - f.offset = P.cellsOf f.type + (n - (f.offset + P.cellsOf f.type)) := by omega
        conv => lhs; rw [e, List.take_add, List.drop_drop]
      rw [this]
      exact e1.append c1
    · rcases List.mem_cons.1 hg with rfl | hg
      · refine ⟨Nat.le_refl _, ?_⟩
        rw [Nat.sub_self, List.drop_zero, List.take_append_of_le_length (by omega), List.take_of_length_le (by omega)]
        exact e2
      · obtain ⟨q1, q2⟩ := c2 g hg
        refine ⟨by omega, ?_⟩
        rw [show g.offset - f.offset = d0.length + (g.offset - (f.offset + P.cellsOf f.type)) by omega, List.drop_length_add_append]
        exact q2

theorem weightsAll_mem {H : Type} {P : Program} {e : TypeId} : ∀ {l : List (DataW H)} {i : Nat} {d : DataW H}, l[i]? = some d → ∀ m ∈ d.weights P e, m ∈ DataW.weightsAll P e l
  | d0 :: l, 0, d, h, m, hm => by
    simp only [List.getElem?_cons_zero, Option.some.injEq] at h
    subst h
    simp only [DataW.weightsAll, List.mem_append]
    exact Or.inl hm
  | d0 :: l, i + 1, d, h, m, hm => by
    simp only [List.getElem?_cons_succ] at h
    simp only [DataW.weightsAll, List.mem_append]
    exact Or.inr (weightsAll_mem h m hm)
  | [], _, _, h, _, _ => by simp at h

/-- Elements in line. -/
theorem elems_of {w : World} {sz : Nat} {at_ : Nat → List Value → Prop} {G : Nat → List DV → Prop} (n : Nat) (h : ∀ i, i < n → ∃ cs ds, at_ i cs ∧ cs.length = sz ∧ Cells w ds cs ∧ G i ds) :
    ∃ cells : List DV, cells.length = n * sz ∧ (∀ (j : Nat) (u : DV), cells[j]? = some u → ∃ i cs, i < n ∧ at_ i cs ∧ i * sz ≤ j ∧ ∃ v, cs[j - i * sz]? = some v ∧ DRel (All w) w u v) ∧ ∀ i, i < n → G i ((cells.drop (i * sz)).take sz) := by
  induction n with
  | zero => exact ⟨[], by simp, fun j u hj => by simp at hj, fun i hi => by omega⟩
  | succ m ih =>
    obtain ⟨cells, l1, l2, l3⟩ := ih (fun i hi => h i (by omega))
    obtain ⟨cs, ds, c1, c2, ⟨d1, d2⟩, d3⟩ := h m (by omega)
    refine ⟨cells ++ ds, by rw [List.length_append, l1, ← d1, c2, Nat.add_mul, Nat.one_mul], fun j u hj => ?_, fun i hi => ?_⟩
    · rw [List.getElem?_append] at hj
      split at hj
      · obtain ⟨i, cs', a1, a2, a3, a4⟩ := l2 j u hj
        exact ⟨i, cs', by omega, a2, a3, a4⟩
      · rename_i hge
        have hlt2 := (List.getElem?_eq_some_iff.1 hj).1
        have hlt3 : j - cells.length < cs.length := by omega
        refine ⟨m, cs, by omega, c1, by omega, cs[j - cells.length], ?_, ?_⟩
        · rw [← l1]; exact List.getElem?_eq_getElem hlt3
        · have := d2 _ u hj
          rwa [List.getD_eq_getElem?_getD, List.getElem?_eq_getElem hlt3] at this
    · by_cases e : i = m
      · subst e
        rw [List.drop_append_of_le_length (by omega), List.drop_eq_nil_of_le (by omega), List.nil_append, List.take_of_length_le (by omega)]
        exact d3
      · have hi' : i < m := by omega
        have hle : i * sz + sz ≤ cells.length := by
          rw [l1]
          have : (i + 1) * sz ≤ m * sz := Nat.mul_le_mul_right _ hi'
          rw [Nat.add_mul, Nat.one_mul] at this
          exact this
        rw [List.drop_append_of_le_length (by omega), List.take_append_of_le_length (by rw [List.length_drop]; omega)]
        exact l3 i hi'

theorem td_of {H : Type} {enc : TypeId × Value → H} {P : Program} {w : World} {R : Nat} {ts : List TypeId} (hts : dataT P ts = true) : ∀ (fuel : Nat) (t : TypeId) (cs : List Value) (x : DataW H × List MemPlace), t ∈ ts →
    DataW.trod enc P w 0 (fun _ => true) true fuel t cs = some x → (∀ m ∈ x.1.weights P t, m ≤ R) → ∃ ds, Cells w ds cs ∧ TD P R fuel t ds := by
  intro fuel
  induction fuel with
  | zero => intro t cs x _ h; simp [DataW.trod] at h
  | succ n ih =>
    intro t cs x ht h hw
    have h1 := List.all_eq_true.1 hts t ht
    cases hu : P.underlying t with
    | none => rw [hu] at h1; cases h1
    | some td =>
      unfold TD
      cases td with
      | int k =>
        obtain ⟨z, rfl, _, hz⟩ := DataW.trod_int hu h
        exact ⟨[.int k z], .cons (.int _ _) .nil, by rw [hu]; exact ⟨z, rfl, hz⟩⟩
      | bool =>
        obtain ⟨b, rfl, _⟩ := DataW.trod_bool hu h
        exact ⟨[.bool b], .cons (.bool _) .nil, by rw [hu]; exact ⟨b, rfl⟩⟩
      | string =>
        obtain ⟨s, rfl, rfl, hs⟩ := DataW.trod_string hu h
        have := hw s.data.toList.length (by simp [DataW.weights])
        exact ⟨[.str s], .cons (.str _) .nil, by rw [hu]; exact ⟨s, rfl, by simpa using this⟩⟩
      | slice e =>
        rw [hu] at h1 ⊢
        have he : e ∈ ts := by simpa using h1
        rcases DataW.trod_slice hu h with ⟨rfl, _⟩ | ⟨a, len, cap, elems, rest, m, hm, rfl, rfl, _, hl, hmx, hlen, hel, _⟩
        · exact ⟨[.list true true 0 []], .cons (.nil _ _ (fun _ => rfl)) .nil, true, true, 0, [], rfl, by simp, by simp, by omega, by simp, by simp, fun i hi => by omega⟩
        · cases hm
          have hwl : len * P.bytesOf e ≤ R := by
            have := hw ((elems.length + rest.length) * P.bytesOf e) (by simp [DataW.weights, hu])
            refine Nat.le_trans (Nat.mul_le_mul_right _ ?_) this
            omega
          have hwe : ∀ (m : Nat) (y : DataW H × List MemPlace), elems[m]? = some y → ∀ q ∈ y.1.weights P e, q ≤ R := by
            intro m y hy q hq
            refine hw q ?_
            simp only [DataW.weights, hu, List.mem_cons, List.mem_append]
            exact Or.inr (Or.inl (weightsAll_mem (i := m) (d := y.1) (by rw [List.getElem?_map, hy]; rfl) q hq))
          obtain ⟨cells, l1, l2, l3⟩ := elems_of (w := w) (sz := P.cellsOf e) (at_ := fun i cs => ∀ j u, cs[j]? = some u → w.cell? (a.add (i * P.cellsOf e + j)) = some u) (G := fun _ ds => TD P R n e ds) len (fun i hi => by
            have h1 := hel i hi
            rw [List.getElem?_eq_getElem (by omega)] at h1
            obtain ⟨c, hcs, htr⟩ := Option.bind_eq_some_iff.1 h1
            obtain ⟨ds, d1, d2⟩ := ih e c _ he htr (hwe i _ (List.getElem?_eq_getElem (by omega)))
            obtain ⟨_, hlen2, hcell⟩ := World.cells?_some hcs
            refine ⟨c, ds, fun j u hu => ?_, hlen2, d1, d2⟩
            have hj : j < P.cellsOf e := by
              have := (List.getElem?_eq_some_iff.1 hu).1
              omega
            have h5 := hcell j hj
            rw [hu] at h5
            rw [← h5]
            congr 1
            cases a
            unfold Addr.add
            by_cases z1 : i * P.cellsOf e = 0 <;> by_cases z2 : j = 0 <;> simp [z1, z2, Nat.add_assoc])
          have hsp : cells ≠ [] → All w a.block ∧ a.spot = none := fun hne => by
            cases cells with
            | nil => exact absurd rfl hne
            | cons u cells =>
              obtain ⟨i, cs', a1, a2, a3, v, a4, _⟩ := l2 0 u rfl
              have h5 := cell_spot (a2 _ _ a4)
              have hz : i * P.cellsOf e + (0 - i * P.cellsOf e) = 0 := by omega
              rw [hz] at h5
              cases a
              exact ⟨h5.2, h5.1⟩
          refine ⟨[.list false false len cells], .cons (drel_of (c := cfg w) (list_mk (c := cfg w) (fun e => by cases e) hl hsp fun j u hj => ?_)) .nil, false, false, len, cells, rfl, l1, hwl, Nat.le_trans hl hmx, by simp, by simp, l3⟩
          obtain ⟨i, cs', a1, a2, a3, v, a4, a5⟩ := l2 j u hj
          have hne : cells ≠ [] := fun e => by rw [e] at hj; simp at hj
          refine ⟨v, ?_, a5⟩
          have h5 := a2 _ _ a4
          rw [show i * P.cellsOf e + (j - i * P.cellsOf e) = j by omega] at h5
          rw [← h5, add_lit' a (hsp hne).2]
          rfl
      | struct fs =>
        rw [hu] at h1 ⊢
        simp only [Bool.and_eq_true] at h1
        obtain ⟨h2, h3⟩ := h1
        obtain ⟨xs, m, hm, rfl, hl, hlen, hf⟩ := DataW.trod_struct hu h
        cases hm
        obtain ⟨_, ds, c1, c2⟩ := segs_of (w := w) (cs := cs) (G := fun f ds => TD P R n f.type ds) fs.toList 0 (P.cellsOf t) h2 (by omega) (fun f hfm => by
          obtain ⟨i, hi⟩ := List.mem_iff_getElem?.1 hfm
          rw [Array.getElem?_toList] at hi
          have h4 := hf i f hi
          have hil := (Array.getElem?_eq_some_iff.1 hi).1
          rw [List.getElem?_eq_getElem (by omega)] at h4
          refine ih f.type _ _ (by simpa using List.all_eq_true.1 h3 f hfm) h4 (fun q hq => hw q ?_)
          simp only [DataW.weights, hu]
          refine DataW.weights_mem_each (j := i) (t := f.type) (d := (xs[i]'(by omega)).1) (by rw [List.getElem?_map, Array.getElem?_toList, hi]; rfl) (by rw [List.getElem?_map, List.getElem?_eq_getElem (by omega)]; rfl) q hq)
        have hle : (cs.drop 0).take (P.cellsOf t - 0) = cs := by rw [List.drop_zero, Nat.sub_zero, List.take_of_length_le (by omega)]
        rw [hle] at c1
        exact ⟨ds, c1, by rw [← c1.1]; exact hl, fun f hfm => (c2 f hfm).2⟩
      | array len e =>
        rw [hu] at h1 ⊢
        simp only [Bool.and_eq_true, beq_iff_eq] at h1
        obtain ⟨h2, h3⟩ := h1
        have he : e ∈ ts := by simpa using h3
        obtain ⟨xs, m, hm, rfl, hl, hlen, hf⟩ := DataW.trod_array hu h
        cases hm
        have hseg : ∀ i, i < len → ((cs.drop (i * P.cellsOf e)).take (P.cellsOf e)).length = P.cellsOf e := fun i hi => by
          rw [List.length_take, List.length_drop, hl, h2]
          have : (i + 1) * P.cellsOf e ≤ len * P.cellsOf e := Nat.mul_le_mul_right _ hi
          rw [Nat.add_mul, Nat.one_mul] at this
          omega
        obtain ⟨cells, l1, l2, l3⟩ := elems_of (w := w) (sz := P.cellsOf e) (at_ := fun i c => c = (cs.drop (i * P.cellsOf e)).take (P.cellsOf e)) (G := fun _ ds => TD P R n e ds) len (fun i hi => by
            have h4 := hf i hi
            rw [List.getElem?_eq_getElem (by omega)] at h4
            obtain ⟨ds, d1, d2⟩ := ih e _ _ he h4 (fun q hq => hw q (by
              simp only [DataW.weights, hu]
              exact weightsAll_mem (i := i) (d := (xs[i]'(by omega)).1) (by rw [List.getElem?_map, List.getElem?_eq_getElem (by omega)]; rfl) q hq))
            exact ⟨_, ds, rfl, hseg i hi, d1, d2⟩)
        refine ⟨cells, ⟨by rw [hl, h2, l1], fun j u hj => ?_⟩, by rw [l1, h2], l3⟩
        obtain ⟨i, cs', a1, rfl, a3, v, a4, a5⟩ := l2 j u hj
        rw [List.getElem?_take] at a4
        split at a4
        · rw [List.getElem?_drop, show i * P.cellsOf e + (j - i * P.cellsOf e) = j by omega] at a4
          rw [List.getD_eq_getElem?_getD, a4]
          exact a5
        · cases a4
      | _ => rw [hu] at h1; cases h1

/-- An argument. -/
def TV (P : Program) (R : Nat) (t : TypeId) (p : PV) : Prop := ∃ fuel ds, TD P R fuel t ds ∧ match agg? P t with
  | some true => p = .agg (ds.map .d)
  | _ => ∃ d, ds = [d] ∧ p = .d d
inductive TVs (P : Program) (R : Nat) : List TypeId → List PV → Prop
  | nil : TVs P R [] []
  | cons {t ts p ps} (h : TV P R t p) (g : TVs P R ts ps) : TVs P R (t :: ts) (p :: ps)
theorem TV.data {P : Program} {R : Nat} {t : TypeId} {p : PV} (h : TV P R t p) : isData p = true := by
  obtain ⟨fuel, ds, h1, h2⟩ := h
  split at h2
  · subst h2; exact data_agg
  · obtain ⟨d, _, rfl⟩ := h2; rfl
theorem TVs.data {P : Program} {R : Nat} {ts : List TypeId} {ps : List PV} (h : TVs P R ts ps) : ps.all isData = true := by
  induction h with
  | nil => rfl
  | cons h _ ih => rw [List.all_cons, h.data, ih]; rfl

theorem tv_of {H : Type} {enc : TypeId × Value → H} {P : Program} {w : World} {R base : Nat} {r : Reach} {ts : List TypeId} (hts : dataT P ts = true) {t : TypeId} {v : Value} {d : DataW H} {ps : List MemPlace} (ht : t ∈ ts)
    (h : DataW.Trod enc P w 0 (fun _ => true) true t v d ps) (hw : ∀ m ∈ d.weights P t, m ≤ R) (hok : Value.okWide P w r base t v) : ∃ p, VRel (cfg w) p v ∧ TV P R t p := by
  obtain ⟨fuel, h⟩ := h
  obtain ⟨ds, c1, c2⟩ := td_of hts fuel t _ _ ht h hw
  have h1 := List.all_eq_true.1 hts t ht
  have one : v.cells.toList = [v] → agg? P t = some false → ∃ p, VRel (cfg w) p v ∧ TV P R t p := fun hc ha => by
    rw [hc] at c1
    obtain ⟨x, rfl⟩ := List.length_eq_one_iff.1 (c1.1.symm.trans rfl)
    exact ⟨.d x, .d (c1.2 0 x rfl), fuel, [x], c2, by rw [ha]; exact ⟨x, rfl, rfl⟩⟩
  have many : ∀ cs, v = .agg cs → agg? P t = some true → ∃ p, VRel (cfg w) p v ∧ TV P R t p := fun cs hv ha => by
    subst hv
    exact ⟨_, vrel_agg c1, fuel, ds, c2, by rw [ha]⟩
  cases hu : P.underlying t with
  | none => rw [hu] at h1; cases h1
  | some td =>
    cases td with
    | int k => obtain ⟨z, rfl⟩ := okWide_int hu hok; exact one rfl (by unfold agg?; rw [hu])
    | bool => obtain ⟨z, rfl⟩ := okWide_bool hu hok; exact one rfl (by unfold agg?; rw [hu])
    | string => obtain ⟨z, rfl⟩ := okWide_string hu hok; exact one rfl (by unfold agg?; rw [hu])
    | slice e => obtain ⟨_, _, _, rfl⟩ := okWide_slice hu hok; exact one rfl (by unfold agg?; rw [hu])
    | struct fs =>
      unfold Value.okWide at hok
      rw [hu] at hok
      obtain ⟨cs, rfl, _⟩ := hok
      exact many cs rfl (by unfold agg?; rw [hu])
    | array n e =>
      unfold Value.okWide at hok
      rw [hu] at hok
      obtain ⟨cs, hv, _⟩ := hok
      exact many cs hv (by unfold agg?; rw [hu])
    | _ => rw [hu] at h1; cases h1

theorem tvs_of {H : Type} {enc : TypeId × Value → H} {P : Program} {w : World} {R base : Nat} {r : Reach} {ts : List TypeId} (hts : dataT P ts = true) : ∀ (tl : List TypeId) (vs : List Value) (ds : List (DataW H)) (ps : List MemPlace), (∀ t ∈ tl, t ∈ ts) →
    DataW.TrodAll enc P w 0 (fun _ => true) true tl vs ds ps → (∀ m ∈ DataW.weightsEach P tl ds, m ≤ R) → (∀ (j : Nat) t v, tl[j]? = some t → vs[j]? = some v → Value.okWide P w r base t v) →
    ds.length = tl.length ∧ (∃ pvs, VL (cfg w) pvs vs.toArray ∧ TVs P R tl pvs) ∧ (laidOutB P = true → (∀ t ∈ tl, P.readableRec t = true ∧ t < P.types.size) → ∀ W', Below w.heap.size w W' → DataW.TrodAll enc P W' 0 (fun b => decide (b < w.heap.size)) true tl vs ds ps)
  | [], vs, ds, ps, _, h, _, _ => by
    obtain ⟨rfl, rfl, rfl⟩ := trodAll_nil h
    exact ⟨rfl, ⟨[], vl_nil _, .nil⟩, fun _ _ W' _ => trodAll_mk0⟩
  | t :: tl, vs, ds, ps, hm, h, hw, hok => by
    obtain ⟨v, vs', d, ds', p, q, rfl, rfl, rfl, h1, h2⟩ := trodAll_cons h
    obtain ⟨a0, ⟨pvs, a1, a2⟩, a3⟩ := tvs_of hts tl vs' ds' q (fun t ht => hm t (List.mem_cons_of_mem _ ht)) h2 (fun m hm => hw m (by simp only [DataW.weightsEach, List.mem_append]; exact .inr hm)) (fun j t v h1 h2 => hok (j + 1) t v (by simpa using h1) (by simpa using h2))
    obtain ⟨p0, b1, b2⟩ := tv_of hts (hm t List.mem_cons_self) h1 (fun m hm => hw m (by simp only [DataW.weightsEach, List.mem_append]; exact .inl hm)) (hok 0 t v rfl rfl)
    have lt0 : ∀ x ∈ p, x.block < w.heap.size := by obtain ⟨m, hm⟩ := h1; exact DataW.trod_lt m _ _ _ hm
    exact ⟨by simp [a0], ⟨p0 :: pvs, vl_cons b1 a1, .cons b2 a2⟩, fun hl hr W' hb => trodAll_cons_mk (Below.trod hl (hr t List.mem_cons_self).1 (hr t List.mem_cons_self).2 h1 hb lt0) (a3 hl (fun t ht => hr t (List.mem_cons_of_mem _ ht)) W' hb)⟩
theorem rd_of {P : Program} {tl : List TypeId} (h : (tl.all fun t => P.readableRec t && decide (t < P.types.size)) = true) : ∀ t ∈ tl, P.readableRec t = true ∧ t < P.types.size := fun t ht => by
  have := List.all_eq_true.1 h t ht
  rw [Bool.and_eq_true] at this
  exact ⟨this.1, of_decide_eq_true this.2⟩
/-! ### Data by name: what a relation between cells and values is made of -/
/-- No slice has more bytes, no string. -/
def big : Nat := 140737488351232
/-- A row of elements, each of sz cells. -/
def RowD {α : Type} (den : List DV → α → Prop) (sz : Nat) (cells : List DV) (xs : List α) : Prop := cells.length = xs.length * sz ∧ xs.length ≤ 9223372036854775807 ∧ ∀ (i : Nat) (x : α), xs[i]? = some x → den ((cells.drop (i * sz)).take sz) x
/-- A slice's one cell. -/
def SliceD {α : Type} (den : List DV → α → Prop) (sz : Nat) (ds : List DV) (xs : List α) : Prop := ∃ nl tight cells, ds = [.list nl tight xs.length cells] ∧ RowD den sz cells xs ∧ (nl = true → xs = [])
def IntD (k : IntKind) (ds : List DV) (x : Int) : Prop := ds = [.int k x]
def StrD (ds : List DV) (x : ByteArray) : Prop := ds = [.str x]
def BoolD (ds : List DV) (x : Bool) : Prop := ds = [.bool x]
theorem RowD.get {α : Type} {den : List DV → α → Prop} {sz : Nat} {cells : List DV} {xs : List α} (h : RowD den sz cells xs) {i : Nat} (hi : i < xs.length) : den ((cells.drop (i * sz)).take sz) xs[i] := h.2.2 i _ (List.getElem?_eq_getElem hi)
theorem RowD.nil {α : Type} {den : List DV → α → Prop} {sz : Nat} : RowD den sz [] ([] : List α) := ⟨by simp, by simp, fun i x h => by simp at h⟩
theorem RowD.imp {α : Type} {den den' : List DV → α → Prop} {sz : Nat} {cells : List DV} {xs : List α} (h : RowD den sz cells xs) (hd : ∀ ds x, x ∈ xs → den ds x → den' ds x) : RowD den' sz cells xs := ⟨h.1, h.2.1, fun i x hx => hd _ _ (List.mem_of_getElem? hx) (h.2.2 i x hx)⟩
/-- One more element. -/
theorem RowD.snoc {α : Type} {den : List DV → α → Prop} {sz : Nat} {cells ds : List DV} {xs : List α} {x : α} (h : RowD den sz cells xs) (hd : den ds x) (hl : ds.length = sz) (hn : xs.length < 9223372036854775807) : RowD den sz (cells ++ ds) (xs ++ [x]) := by
  refine ⟨by rw [List.length_append, List.length_append, h.1, hl, List.length_singleton, Nat.add_mul, Nat.one_mul], by rw [List.length_append, List.length_singleton]; omega, fun i y hy => ?_⟩
  rw [List.getElem?_append] at hy
  split at hy
  · rename_i hi
    have hle : i * sz + sz ≤ cells.length := by
      rw [h.1]
      have : (i + 1) * sz ≤ xs.length * sz := Nat.mul_le_mul_right _ hi
      rw [Nat.add_mul, Nat.one_mul] at this
      exact this
    rw [List.drop_append_of_le_length (by omega), List.take_append_of_le_length (by rw [List.length_drop]; omega)]
    exact h.2.2 i y hy
  · rename_i hi
    have hi2 : i = xs.length := by
      have := (List.getElem?_eq_some_iff.1 hy).1
      simp at this
      omega
    subst hi2
    simp at hy
    subst hy
    rw [← h.1, List.drop_left, List.take_of_length_le (by omega)]
    exact hd
/-- A cell. (Under names of their own: simp has its own ways with lists.) -/
def cel (l : List PV) (i : Nat) : Option PV := l[i]?
def dv (l : List DV) (i : Nat) : Option DV := l[i]?
theorem cel_zero {a : PV} {l : List PV} : cel (a :: l) 0 = some a := rfl
theorem cel_succ {a : PV} {l : List PV} {n : Nat} : cel (a :: l) (n + 1) = cel l n := rfl
theorem dv_zero {a : DV} {l : List DV} : dv (a :: l) 0 = some a := rfl
theorem dv_succ {a : DV} {l : List DV} {n : Nat} : dv (a :: l) (n + 1) = dv l n := rfl
theorem cel_map {l : List DV} {i : Nat} : cel (l.map .d) i = (dv l i).map .d := by unfold cel dv; rw [List.getElem?_map]
theorem dv_drop {l : List DV} {k i : Nat} : dv (l.drop k) i = dv l (k + i) := by unfold dv; rw [List.getElem?_drop]
theorem dv_take {l : List DV} {n i : Nat} (h : i < n) : dv (l.take n) i = dv l i := by unfold dv; rw [List.getElem?_take, if_pos h]
theorem readK_c {n : Nat} {cs : List PV} {off : Nat} : readK (some (false, n)) cs off = cel cs off := rfl
theorem cel_drop {l : List PV} {k i : Nat} : cel (l.drop k) i = cel l (k + i) := by unfold cel; rw [List.getElem?_drop]
theorem readK_nd {l : List DV} {n off : Nat} (h : off + n ≤ l.length) : readK (some (true, n)) (l.map .d) off = some (.agg (((l.drop off).take n).map .d)) := by
  rw [readK_n, if_pos (by simpa using h), ← List.map_drop, ← List.map_take]
theorem readK_nc {l : List PV} {n off : Nat} (h : off + n ≤ l.length) : readK (some (true, n)) l off = some (.agg ((l.drop off).take n)) := by rw [readK_n, if_pos h]
theorem choose_at {n : Nat} {α : Type} [Inhabited α] {p : (i : Nat) → i < n → α → Prop} (h : ∀ (i : Nat) (hi : i < n), ∃ x, p i hi x) : ∃ f : Nat → α, ∀ (i : Nat) (hi : i < n), p i hi (f i) := by
  classical
  refine ⟨fun i => if hi : i < n then Classical.choose (h i hi) else default, fun i hi => ?_⟩
  simp only [hi, dif_pos]
  exact Classical.choose_spec (h i hi)
theorem cell_at {l ds : List DV} {i sz j : Nat} (h : (l.drop (i * sz)).take sz = ds) (hj : j < sz) : l[i * sz + j]? = ds[j]? := by
  rw [← h, List.getElem?_take, if_pos hj, List.getElem?_drop]
theorem seg_at {l ds d : List DV} {i sz : Nat} (h : (l.drop (i * sz)).take sz = ds) (off n : Nat) (hd : (ds.drop off).take n = d ∧ off + n ≤ sz) : (l.drop (i * sz + off)).take n = d := by
  rw [← hd.1, ← h, List.drop_take, List.take_take, List.drop_drop, Nat.min_eq_left (by omega)]
theorem ints_row {k : IntKind} {c : List DV} {l : List Int} (h : RowD (IntD k) 1 c l) : c = l.map (.int k) := by
  refine List.ext_getElem? fun i => ?_
  rw [List.getElem?_map]
  by_cases hi : i < l.length
  · have := cell_at (h.get hi) (j := 0) (by decide)
    simp at this
    rw [this, List.getElem?_eq_getElem hi]
    rfl
  · have hl := h.1
    rw [List.getElem?_eq_none (show c.length ≤ i by omega), List.getElem?_eq_none (show l.length ≤ i by omega)]
    rfl
theorem strs_row {c : List DV} {l : List ByteArray} (h : RowD StrD 1 c l) : c = l.map .str := by
  refine List.ext_getElem? fun i => ?_
  rw [List.getElem?_map]
  by_cases hi : i < l.length
  · have := cell_at (h.get hi) (j := 0) (by decide)
    simp at this
    rw [this, List.getElem?_eq_getElem hi]
    rfl
  · have hl := h.1
    rw [List.getElem?_eq_none (show c.length ≤ i by omega), List.getElem?_eq_none (show l.length ≤ i by omega)]
    rfl
theorem slice_row {α : Type} {den : List DV → α → Prop} {sz : Nat} {c : List DV} {l : List (List α)} (h : RowD (SliceD den sz) 1 c l) : ∃ (N T : Nat → Bool) (C : Nat → List DV), (∀ (i : Nat) (hi : i < l.length), dv c i = some (.list (N i) (T i) l[i].length (C i))) ∧ (∀ (i : Nat) (hi : i < l.length), RowD den sz (C i) l[i]) ∧ ∀ (i : Nat) (hi : i < l.length), N i = true → l[i] = [] := by
  have key : ∀ (i : Nat) (hi : i < l.length), SliceD den sz ((c.drop (i * 1)).take 1) l[i] := fun i hi => h.get hi
  obtain ⟨N, h1⟩ := choose_at key
  obtain ⟨T, h2⟩ := choose_at h1
  obtain ⟨C, h3⟩ := choose_at h2
  exact ⟨N, T, C, fun i hi => by unfold dv; have q := cell_at (h3 i hi).1 (j := 0) (by decide); simpa using q, fun i hi => (h3 i hi).2.1, fun i hi => (h3 i hi).2.2⟩
theorem slice_row2 {α : Type} {den : List DV → α → Prop} {sz : Nat} {c : List DV} {l : List (List (List α))} (h : RowD (SliceD (SliceD den sz) 1) 1 c l) : ∃ (N T : Nat → Bool) (C : Nat → List DV) (N2 T2 : Nat → Nat → Bool) (C2 : Nat → Nat → List DV), (∀ (i : Nat) (hi : i < l.length), dv c i = some (.list (N i) (T i) l[i].length (C i))) ∧
    (∀ (i : Nat) (hi : i < l.length), (C i).length = l[i].length) ∧
    (∀ (i : Nat) (hi : i < l.length) (j : Nat) (hj : j < l[i].length), dv (C i) j = some (.list (N2 i j) (T2 i j) l[i][j].length (C2 i j))) ∧ (∀ (i : Nat) (hi : i < l.length) (j : Nat) (hj : j < l[i].length), RowD den sz (C2 i j) l[i][j]) ∧ ∀ (i : Nat) (hi : i < l.length) (j : Nat) (hj : j < l[i].length), N2 i j = true → l[i][j] = [] := by
  obtain ⟨N, T, C, h1, h2, _⟩ := slice_row h
  obtain ⟨N2, k1⟩ := choose_at fun i hi => slice_row (h2 i hi)
  obtain ⟨T2, k2⟩ := choose_at k1
  obtain ⟨C2, k3⟩ := choose_at k2
  exact ⟨N, T, C, N2, T2, C2, h1, fun i hi => by simpa using (h2 i hi).1, fun i hi => (k3 i hi).1, fun i hi => (k3 i hi).2.1, fun i hi => (k3 i hi).2.2⟩
def BInt (k : IntKind) (n : Int) : Prop := (Lit.int k n).wf = true
def BStr (s : ByteArray) : Prop := s.size ≤ big
def BAny {α : Type} (_ : α) : Prop := True
def BList {α : Type} (B : α → Prop) (by_ : Nat) (xs : List α) : Prop := xs.length * by_ ≤ big ∧ ∀ x ∈ xs, B x
theorem BInt.i64 {n : Int} (h : BInt .i64 n) : -9223372036854775808 ≤ n ∧ n ≤ 9223372036854775807 := by
  unfold BInt Lit.wf at h
  simpa [IntKind.min, IntKind.max, IntKind.signed, IntKind.bits] using h

section
variable {P : Program} {R n : Nat} {t e : TypeId} {ds : List DV}
theorem td_pos (h : TD P R n t ds) : ∃ m, n = m + 1 := by
  cases n with
  | zero => exact h.elim
  | succ m => exact ⟨m, rfl⟩
theorem td_int {k : IntKind} (hu : P.underlying t = some (.int k)) (h : TD P R n t ds) : ∃ x, IntD k ds x ∧ BInt k x := by
  obtain ⟨m, rfl⟩ := td_pos h
  unfold TD at h
  rw [hu] at h
  exact h
theorem td_bool (hu : P.underlying t = some .bool) (h : TD P R n t ds) : ∃ x, BoolD ds x ∧ BAny x := by
  obtain ⟨m, rfl⟩ := td_pos h
  unfold TD at h
  rw [hu] at h
  obtain ⟨b, h⟩ := h
  exact ⟨b, h, trivial⟩
theorem td_str (hu : P.underlying t = some .string) (h : TD P big n t ds) : ∃ x, StrD ds x ∧ BStr x := by
  obtain ⟨m, rfl⟩ := td_pos h
  unfold TD at h
  rw [hu] at h
  exact h
theorem td_struct {fs : Array Field} (hu : P.underlying t = some (.struct fs)) (h : TD P R (n + 1) t ds) : ds.length = P.cellsOf t ∧ ∀ (j : Nat) (f : Field), fs[j]? = some f → TD P R n f.type ((ds.drop f.offset).take (P.cellsOf f.type)) := by
  unfold TD at h
  rw [hu] at h
  exact ⟨h.1, fun j f hf => h.2 f (by rw [← Array.getElem?_toList] at hf; exact List.mem_of_getElem? hf)⟩
theorem td_array {k : Nat} (hu : P.underlying t = some (.array k e)) (h : TD P R (n + 1) t ds) : ds.length = P.cellsOf t ∧ ∀ j, j < k → TD P R n e ((ds.drop (j * P.cellsOf e)).take (P.cellsOf e)) := by
  unfold TD at h
  rw [hu] at h
  exact h
theorem choose_row {α : Type} {G : Nat → α → Prop} : ∀ m, (∀ i, i < m → ∃ x, G i x) → ∃ xs : List α, xs.length = m ∧ ∀ i x, xs[i]? = some x → G i x
  | 0, _ => ⟨[], rfl, fun i x h => by simp at h⟩
  | m + 1, h => by
    obtain ⟨xs, h1, h2⟩ := choose_row m (fun i hi => h i (by omega))
    obtain ⟨x, hx⟩ := h m (by omega)
    refine ⟨xs ++ [x], by simp [h1], fun i y hy => ?_⟩
    rw [List.getElem?_append] at hy
    split at hy
    · exact h2 i y hy
    · have : i = m := by
        have := (List.getElem?_eq_some_iff.1 hy).1
        simp at this
        omega
      subst this
      rw [h1] at hy
      simp at hy
      subst hy
      exact hx
theorem td_slice {α : Type} {den : List DV → α → Prop} {B : α → Prop} {sz by_ : Nat} (hu : P.underlying t = some (.slice e)) (hc : P.cellsOf e = sz) (hb : P.bytesOf e = by_) (hr : ∀ m, m < n → ∀ ds, TD P big m e ds → ∃ x, den ds x ∧ B x) (h : TD P big n t ds) : ∃ xs, SliceD den sz ds xs ∧ BList B by_ xs := by
  obtain ⟨m, rfl⟩ := td_pos h
  unfold TD at h
  rw [hu] at h
  obtain ⟨nl, tt, len, cells, rfl, h1, h2, h3, h5, _, h4⟩ := h
  obtain ⟨xs, l1, l2⟩ := choose_row (G := fun i x => den ((cells.drop (i * sz)).take sz) x ∧ B x) len (fun i hi => by have := h4 i hi; rw [hc] at this; exact hr m (by omega) _ this)
  subst l1
  refine ⟨xs, ⟨nl, tt, cells, rfl, ⟨by rw [h1, hc], h3, fun i x hx => (l2 i x hx).1⟩, fun e => List.eq_nil_of_length_eq_zero (h5 e).2⟩, by rw [← hb]; exact h2, fun x hx => ?_⟩
  obtain ⟨i, hi⟩ := List.mem_iff_getElem?.1 hx
  exact (l2 i x hi).2
theorem seg_cat (ds : List DV) (off sz : Nat) {s rest : List DV} (e : (ds.drop off).take sz = s) (h : ds.drop (off + sz) = rest) : ds.drop off = s ++ rest := by
  rw [← e, ← h, ← List.drop_drop, List.take_append_drop]
theorem seg_end {m : Nat} (h : ds.length = m) : ds.drop m = [] := List.drop_eq_nil_of_le (by omega)
end
end Go.Proofs.Ytpepghaknilmhaa.Vm
