/- The machine of plain values: one operation, whichever. Written once for all seats. -/
import Derived.Test.YtpepghaknilmhaaVmE
import Derived.Laws.BytesString
namespace Go.Proofs.Ytpepghaknilmhaa.Vm
open Go
set_option linter.unusedVariables false
set_option linter.unusedSimpArgs false

section
variable {P : Program} {c : Cfg} {get : Nat → Option Obj} {N : Nat → Prop} {nid : Nat} {ρp : Operand → PV} {ρv : Operand → Value} {o : Oper}

theorem asN_spec {p : PV} {v : Value} {n : Nat} (h : VRel c p v) (e : asN p = some n) : ∃ k i, v = .int k i ∧ 0 ≤ i ∧ i.toNat = n := by
  unfold asN at e
  split at e
  · rename_i k i
    split at e
    · rename_i h0
      cases e
      exact ⟨k, i, int_inv h, h0, rfl⟩
    · cases e
  · cases e
theorem bound_run {v : Value} {k : IntKind} {i : Int} {y : Nat} {code : BoundsCode} (hv : v = .int k i) (h0 : 0 ≤ i) (hy : i.toNat ≤ y) (w : World) : (Instr.sliceBound v y code).run P w = .ok i.toNat w := by
  subst hv
  have : i ≤ (y : Int) := by omega
  simp [Instr.sliceBound, asIntOf, h0, this]
theorem bounds_spec {n cap : Nat} {co : Option Nat} {low high max : Option Operand} {l h : Nat} {m : Option Nat} (hρ : ∀ x, VRel c (ρp x) (ρv x)) (hn : n ≤ cap) (hco : ∀ k, co = some k → cap = k)
    (hb : bounds n co (low.map ρp) (high.map ρp) (max.map ρp) = some (l, h, m)) (w : World) : (Instr.sliceBounds true n cap (low.map ρv) (high.map ρv) (max.map ρv)).run P w = .ok (l, h, m.getD cap) w ∧ l ≤ h ∧ h ≤ m.getD cap ∧ m.getD cap ≤ cap ∧ (max = none → m = co ∧ h ≤ n) := by
  unfold bounds at hb
  obtain ⟨m', hm, hb⟩ := Option.bind_eq_some_iff.1 hb
  obtain ⟨h', hh, hb⟩ := Option.bind_eq_some_iff.1 hb
  obtain ⟨l', hl, hb⟩ := Option.map_eq_some_iff.1 hb
  simp only [Prod.mk.injEq] at hb
  obtain ⟨rfl, rfl, rfl⟩ := hb
  have hcn : co.getD n ≤ cap := by
    cases co with
    | none => exact hn
    | some k => rw [hco k rfl]; exact Nat.le_refl _
  have hmax : (match max.map ρv with | some v => Instr.sliceBound v cap (if true then .slice3Acap else .slice3Alen) | none => pure cap : Sem Nat).run P w = .ok (m'.getD cap) w ∧ m'.getD cap ≤ cap ∧ (max = none → m' = co) ∧ (max ≠ none → ∃ i, m' = some i) := by
    cases max with
    | none =>
      simp only [Option.map_none, bMax, Option.some.injEq] at hm ⊢
      subst hm
      refine ⟨?_, ?_, fun _ => rfl, fun h => absurd rfl h⟩
      · cases co with
        | none => rfl
        | some k => rw [hco k rfl]; rfl
      · cases co with
        | none => exact Nat.le_refl _
        | some k => rw [hco k rfl]; exact Nat.le_refl _
    | some x =>
      simp only [Option.map_some, bMax] at hm ⊢
      obtain ⟨i, hi, hm⟩ := Option.bind_eq_some_iff.1 hm
      obtain ⟨k, iv, hv, h0, rfl⟩ := asN_spec (hρ x) hi
      split at hm
      · rename_i hle
        cases hm
        exact ⟨bound_run hv h0 (Nat.le_trans hle hcn) w, Nat.le_trans hle hcn, (fun h => by cases h), fun _ => ⟨_, rfl⟩⟩
      · cases hm
  have hhigh : (match high.map ρv, max.map ρv with | some v, some _ => Instr.sliceBound v (m'.getD cap) .slice3B | some v, none => Instr.sliceBound v (m'.getD cap) (if true then .sliceAcap else .sliceAlen) | none, none => pure n | none, some _ => stuck "Slice: max without high" : Sem Nat).run P w = .ok h' w ∧ h' ≤ m'.getD cap ∧ (max = none → h' ≤ n) := by
    have hmn : max = none → n ≤ m'.getD cap := fun e => by
      rw [hmax.2.2.1 e]
      cases co with
      | none => exact hn
      | some k => have := hco k rfl; simp only [Option.getD_some]; omega
    cases high with
    | none =>
      cases max with
      | none =>
        simp only [Option.map_none, bHigh, Option.isSome_none, Bool.false_eq_true, if_false, Option.some.injEq] at hh ⊢
        subst hh
        exact ⟨rfl, hmn rfl, fun _ => Nat.le_refl _⟩
      | some x => simp [bHigh] at hh
    | some y =>
      simp only [Option.map_some, bHigh] at hh
      obtain ⟨i, hi, hh⟩ := Option.bind_eq_some_iff.1 hh
      obtain ⟨k, iv, hv, h0, rfl⟩ := asN_spec (hρ y) hi
      rw [Option.ite_none_right_eq_some] at hh
      obtain ⟨hle, hh⟩ := hh
      cases hh
      cases max with
      | none =>
        simp only [Option.map_none, Option.isSome_none, Bool.false_eq_true, if_false] at hle
        have := hmn rfl
        exact ⟨bound_run hv h0 (by omega) w, by omega, fun _ => hle⟩
      | some x =>
        simp only [Option.map_some, Option.isSome_some, if_true] at hle
        obtain ⟨i, hi⟩ := hmax.2.2.2 (by simp)
        rw [hi] at hle ⊢
        exact ⟨bound_run hv h0 hle w, hle, fun h => by cases h⟩
  have hlow : (match low.map ρv with | some v => Instr.sliceBound v h' (if (max.map ρv).isSome then .slice3C else .sliceB) | none => pure 0 : Sem Nat).run P w = .ok l' w ∧ l' ≤ h' := by
    cases low with
    | none =>
      simp only [Option.map_none, bLow, Option.some.injEq] at hl ⊢
      subst hl
      exact ⟨rfl, Nat.zero_le _⟩
    | some y =>
      simp only [Option.map_some, bLow] at hl ⊢
      obtain ⟨i, hi, hl⟩ := Option.bind_eq_some_iff.1 hl
      obtain ⟨k, iv, hv, h0, rfl⟩ := asN_spec (hρ y) hi
      split at hl
      · rename_i hle
        cases hl
        exact ⟨bound_run hv h0 hle w, hle⟩
      · cases hl
  refine ⟨?_, hlow.2, hhigh.2.1, hmax.2.1, fun h => ⟨hmax.2.2.1 h, hhigh.2.2 h⟩⟩
  have h1 := hmax.1
  have h2 := hhigh.1
  have h3 := hlow.1
  unfold Instr.sliceBounds
  cases max <;> cases high <;> cases low <;> simp only [Option.map_none, Option.map_some] at h1 h2 h3 ⊢ <;> first | (simp [stuck, Sem.run] at h2; done) | (simp only [Sem.run_bind, h1, h2, h3, Result.andThen_ok]; rfl)

theorem opD_slice_list {t elem : TypeId} {x : Operand} {low high max : Option Operand} {sz : Nat} (hr : Rel get N c) (hρ : ∀ x, VRel c (ρp x) (ρv x)) (hop : o.op = .slice t x low high max) (ht : P.underlying t = some (.slice elem)) (hs : sz? P elem = some sz)
    {nl tight : Bool} {n : Nat} {cells : List DV} (hx : ρp x = .d (.list nl tight n cells)) {l h : Nat} {m : Option Nat} (hb : bounds n (if tight then some n else none) (low.map ρp) (high.map ρp) (max.map ρp) = some (l, h, m)) (hcl : cells.length = n * sz) :
    Done c get N nid ((execOp ρv o).run P c.W) (.d (.list nl (tightOf m h) (h - l) ((cells.drop (l * sz)).take ((h - l) * sz)))) .none := by
  obtain ⟨inf, hinf, hsz⟩ := sz_spec hs
  rcases list_inv (hx ▸ hρ x) with ⟨rfl, rfl, rfl, cap, h2, htc⟩ | ⟨ad, cap, rfl, h2, h3, h4, h5, h6⟩
  · obtain ⟨hrun, _⟩ := bounds_spec (P := P) (cap := cap) hρ (Nat.zero_le _) (fun k hk => by cases tight <;> simp_all) hb c.W
    obtain ⟨_, b1, b2, b3, b4⟩ := bounds_spec (P := P) (cap := 0) hρ (Nat.le_refl _) (fun k hk => by cases tight <;> simp_all) hb c.W
    have hm0 : m.getD 0 = 0 := by omega
    obtain rfl : h = 0 := by omega
    obtain rfl : l = 0 := by omega
    refine done_pure (rv := .slice none 0 (m.getD cap)) hr ?_ ?_
    · simp only [List.drop_nil, List.take_nil, Nat.sub_self]
      refine .d (.nil _ _ fun e => ?_)
      cases m with
      | none => cases e
      | some k => simpa [tightOf] using e
    · simp [execOp, hop, Instr.sliceAt, run_underlying ht, Instr.slice, h2, hrun, sizeOf, typeInfo, hinf]
  · obtain ⟨hrun, b1, b2, b3, b4⟩ := bounds_spec (P := P) hρ h4 (fun k hk => by cases tight <;> simp_all) hb c.W
    generalize hmc : m.getD cap = mc at *
    have hti : tightOf m h = true → mc - l = h - l := fun e => by
      cases m with
      | none => cases e
      | some k => simp only [tightOf, beq_iff_eq] at e; simp only [Option.getD_some] at hmc; omega
    refine done_pure (rv := .slice (some (if mc = l then ad else ad.add (l * sz))) (h - l) (mc - l)) hr ?_ ?_
    · by_cases e : mc = l
      · have h0 : h - l = 0 := by omega
        rw [if_pos e, h0, Nat.zero_mul, List.take_zero]
        exact list_mk (fun e => by have := hti e; omega) (by omega) (fun hne => absurd rfl hne) (fun j u hj => by simp at hj)
      · rw [if_neg e]
        by_cases hc0 : cells = []
        · subst hc0
          simp only [List.drop_nil, List.take_nil]
          exact list_mk hti (by omega) (fun hne => absurd rfl hne) (fun j u hj => by simp at hj)
        · have hsp := (h5 hc0).2
          rw [add_lit' ad hsp]
          refine list_mk hti (by omega) (fun _ => ⟨(h5 hc0).1, rfl⟩) (fun j u hj => ?_)
          rw [List.getElem?_take] at hj
          split at hj
          · rw [List.getElem?_drop] at hj
            obtain ⟨y, g1, g2⟩ := h6 _ u hj
            exact ⟨y, by rw [Nat.add_assoc]; exact g1, g2⟩
          · cases hj
    · by_cases e : mc = l
      · simp [execOp, hop, Instr.sliceAt, run_underlying ht, Instr.slice, h2, hrun, sizeOf, typeInfo, hinf, hsz, e]
      · simp [execOp, hop, Instr.sliceAt, run_underlying ht, Instr.slice, h2, hrun, sizeOf, typeInfo, hinf, hsz, e]
theorem opD_slice_ref {t elem : TypeId} {x : Operand} {low high max : Option Operand} {sz : Nat} (hr : Rel get N c) (hρ : ∀ x, VRel c (ρp x) (ρv x)) (hop : o.op = .slice t x low high max) (ht : P.underlying t = some (.slice elem)) (hs : sz? P elem = some sz)
    {id off n : Nat} (hx : ρp x = .ref id off n sz) {l h : Nat} (hb : bounds n none (low.map ρp) (high.map ρp) (max.map ρp) = some (l, h, none)) (hlh : l < h ∨ l = 0) : Done c get N nid ((execOp ρv o).run P c.W) (.ref id (off + l * sz) (h - l) sz) .none := by
  obtain ⟨inf, hinf, hsz⟩ := sz_spec hs
  obtain ⟨b, base, cap, bs, h1, h2, h3, h4, h5⟩ := ref_inv (hx ▸ hρ x)
  obtain ⟨hrun, b1, b2, b3, b4⟩ := bounds_spec (P := P) hρ h3 (fun k hk => by cases hk) hb c.W
  simp only [Option.getD_none] at hrun b2 b3
  have hle : (cap - l) * sz + l * sz = cap * sz := by rw [← Nat.add_mul]; congr 1; omega
  have hv : VRel c (.ref id (off + l * sz) (h - l) sz) (.slice (some ⟨b, base + (off + l * sz), none⟩) (h - l) (cap - l)) := .ref h1 (by omega) h4 (by omega)
  refine done_pure hr hv ?_
  by_cases e : cap = l
  · have hl0 : l = 0 := by omega
    have hc0 : cap = 0 := by omega
    clear hle e
    subst hl0 hc0
    simp [execOp, hop, Instr.sliceAt, run_underlying ht, Instr.slice, h2, hrun, sizeOf, typeInfo, hinf, hsz]
  · simp [execOp, hop, Instr.sliceAt, run_underlying ht, Instr.slice, h2, hrun, sizeOf, typeInfo, hinf, hsz, e, Addr.add_lit, Nat.add_assoc]

theorem opD_slice_end {t elem : TypeId} {x : Operand} {low high max : Option Operand} {sz : Nat} (hr : Rel get N c) (hρ : ∀ x, VRel c (ρp x) (ρv x)) (hop : o.op = .slice t x low high max) (ht : P.underlying t = some (.slice elem)) (hs : sz? P elem = some sz)
    {id off n : Nat} (hx : ρp x = .ref id off n sz) {l h : Nat} (hb : bounds n none (low.map ρp) (high.map ρp) (max.map ρp) = some (l, h, none)) (hlh : ¬ l < h) : Done c get N nid ((execOp ρv o).run P c.W) (.d (.list false false 0 [])) .none := by
  obtain ⟨inf, hinf, hsz⟩ := sz_spec hs
  obtain ⟨b, base, cap, bs, h1, h2, h3, h4, h5⟩ := ref_inv (hx ▸ hρ x)
  obtain ⟨hrun, b1, b2, b3, b4⟩ := bounds_spec (P := P) hρ h3 (fun k hk => by cases hk) hb c.W
  simp only [Option.getD_none] at hrun b2 b3
  have hl : h - l = 0 := by omega
  refine done_pure (rv := .slice (some (if cap = l then ⟨b, base + off, none⟩ else (⟨b, base + off, none⟩ : Addr).add (l * sz))) (h - l) (cap - l)) hr ?_ ?_
  · rw [hl]
    exact list_mk (fun e => by cases e) (Nat.zero_le _) (fun hne => absurd rfl hne) (fun j u hj => by simp at hj)
  · by_cases e : cap = l
    · clear b3 b2 hl
      subst e
      simp [execOp, hop, Instr.sliceAt, run_underlying ht, Instr.slice, h2, hrun, sizeOf, typeInfo, hinf, hsz]
    · simp [execOp, hop, Instr.sliceAt, run_underlying ht, Instr.slice, h2, hrun, sizeOf, typeInfo, hinf, hsz, e]

theorem content_spec (hr : Rel get N c) {p : PV} {v : Value} (h : VRel c p v) {n : Nat} {cells : List PV} (e : content get p = some (n, cells)) :
    ∃ ao cap, v = .slice ao n cap ∧ n ≤ cap ∧ (ao = none → n = 0 ∧ cells = []) ∧ ∀ a, ao = some a → ∀ (j : Nat) (u : PV), cells[j]? = some u → ∃ x, c.W.cell? (a.add j) = some x ∧ VRel c u x := by
  unfold content at e
  split at e
  · rename_i nl tight n' ds
    simp only [Option.some.injEq, Prod.mk.injEq] at e
    obtain ⟨rfl, rfl⟩ := e
    rcases list_inv h with ⟨rfl, rfl, rfl, cap, h2, _⟩ | ⟨ad, cap, rfl, h2, h3, h4, h5, h6⟩
    · exact ⟨none, cap, h2, Nat.zero_le _, fun _ => ⟨rfl, rfl⟩, fun a h => by cases h⟩
    · refine ⟨some ad, cap, h2, h4, (fun h => by cases h), fun a ha j u hj => ?_⟩
      cases ha
      rw [List.getElem?_map] at hj
      obtain ⟨d, h7, rfl⟩ := Option.map_eq_some_iff.1 hj
      obtain ⟨x, h8, h9⟩ := h6 j d h7
      refine ⟨x, ?_, .d h9⟩
      rw [add_lit' ad (h5 (fun e => by rw [e] at h7; simp at h7)).2]
      exact h8
  · rename_i id off n' sz
    split at e
    · rename_i bx cs hg
      split at e
      · rename_i hle
        simp only [Option.some.injEq, Prod.mk.injEq] at e
        obtain ⟨rfl, rfl⟩ := e
        obtain ⟨b, base, cap, bs, h1, h2, h3, _⟩ := ref_inv h
        obtain ⟨b', base', arr, t, g1, g2, g3, g4, g5⟩ := obj_cells hr hg
        rw [h1] at g1
        cases g1
        refine ⟨_, cap, h2, h3, (fun h => by cases h), fun a ha j u hj => ?_⟩
        cases ha
        rw [List.getElem?_take] at hj
        split at hj
        · rw [List.getElem?_drop] at hj
          obtain ⟨x, h8, h9⟩ := g5 _ u hj
          refine ⟨x, ?_, h9⟩
          rw [Addr.add_lit, Nat.add_assoc]
          exact h8
        · cases hj
      · cases e
    · cases e
  · cases e
theorem vals_of {cells : List PV} {Q : Nat → Value → Prop} (h : ∀ (j : Nat) (u : PV), cells[j]? = some u → ∃ x, Q j x ∧ VRel c u x) : ∃ vs : List Value, vs.length = cells.length ∧ ∀ (j : Nat) (x : Value), vs[j]? = some x → Q j x ∧ ∀ u, cells[j]? = some u → VRel c u x := by
  have hg : ∀ j, ∃ x, ∀ u, cells[j]? = some u → Q j x ∧ VRel c u x := fun j => by
    cases hj : cells[j]? with
    | none => exact ⟨undef, fun u h => by cases h⟩
    | some u => obtain ⟨x, h1, h2⟩ := h j u hj; exact ⟨x, fun u' h => by cases h; exact ⟨h1, h2⟩⟩
  refine ⟨(List.range cells.length).map fun j => Classical.choose (hg j), by simp, fun j x hj => ?_⟩
  rw [List.getElem?_map] at hj
  obtain ⟨k, h1, rfl⟩ := Option.map_eq_some_iff.1 hj
  obtain ⟨h2, h3⟩ := List.getElem?_eq_some_iff.1 h1
  simp at h2 h3
  subst h3
  exact ⟨(Classical.choose_spec (hg j) _ (List.getElem?_eq_getElem h2)).1, fun u hu => (Classical.choose_spec (hg j) u hu).2⟩
/-! ### copy, bytes -/
theorem byteCells_one (s : ByteArray) : ∀ u ∈ byteCells s, u.one = true := fun u hu => by
  simp only [byteCells, List.mem_map] at hu
  obtain ⟨b, _, rfl⟩ := hu
  rfl
theorem source_spec (hr : Rel get N c) {p : PV} {v : Value} (h : VRel c p v) {m : Nat} {new : List PV} (e : source get p = some (m, new)) {sz : Nat} (hl : new.length = m * sz) (hsz : 0 < sz) (k : Nat) (hk : k ≤ m) :
    (Builtin.lenOf v).run P c.W = .ok m c.W ∧ ∃ vs : List Value, vs.length = k * sz ∧ (Builtin.firstCells sz k v).run P c.W = .ok vs.toArray c.W ∧ ∀ (j : Nat) (u : PV), (new.take (k * sz))[j]? = some u → VRel c u (vs.getD j undef) := by
  have hcont : ∀ {p : PV} {v : Value}, VRel c p v → content get p = some (m, new) → (Builtin.lenOf v).run P c.W = .ok m c.W ∧ ∃ vs : List Value, vs.length = k * sz ∧ (Builtin.firstCells sz k v).run P c.W = .ok vs.toArray c.W ∧ ∀ (j : Nat) (u : PV), (new.take (k * sz))[j]? = some u → VRel c u (vs.getD j undef) := fun {p v} h e => by
    obtain ⟨ao, cap, rfl, hn, hnone, hcell⟩ := content_spec hr h e
    refine ⟨rfl, ?_⟩
    cases ao with
    | none =>
      obtain ⟨rfl, rfl⟩ := hnone rfl
      obtain rfl : k = 0 := by omega
      exact ⟨[], by simp, rfl, fun j u hj => by simp at hj⟩
    | some a =>
      obtain ⟨vs, h1, h2⟩ := vals_of (c := c) (hcell a rfl)
      have hle : k * sz ≤ new.length := by rw [hl]; exact Nat.mul_le_mul_right _ hk
      refine ⟨vs.take (k * sz), by rw [List.length_take]; omega, ?_, fun j u hj => ?_⟩
      · have hlc := run_loadCells_list (P := P) (w := c.W) a (vs.take (k * sz)) (fun j x hj => by
          rw [List.getElem?_take] at hj
          split at hj
          · exact (h2 j x hj).1
          · cases hj)
        rw [List.length_take, Nat.min_eq_left (by omega)] at hlc
        exact hlc
      · rw [List.getElem?_take] at hj
        split at hj
        · rename_i hjk
          have hjl : j < vs.length := by omega
          rw [List.getD_eq_getElem?_getD, List.getElem?_take, if_pos hjk, List.getElem?_eq_getElem hjl]
          exact (h2 j _ (List.getElem?_eq_getElem hjl)).2 u hj
        · cases hj
  unfold source at e
  split at e
  · rename_i s
    simp only [Option.some.injEq, Prod.mk.injEq] at e
    obtain ⟨rfl, rfl⟩ := e
    cases h with
    | d h => cases h with
      | str s =>
        have hds : s.data.size = s.size := rfl
        have hone : s.size = 0 ∨ sz = 1 := by
          simp only [byteCells, List.length_map, Array.length_toList, hds] at hl
          rcases Nat.eq_zero_or_pos s.size with h | h
          · exact .inl h
          · right
            have : s.size * 1 = s.size * sz := by omega
            exact (Nat.eq_of_mul_eq_mul_left h this).symm
        refine ⟨rfl, ((s.extract 0 k).data.map fun b => Value.int .u8 b.toNat).toList, ?_, by rw [Array.toArray_toList]; rfl, fun j u hj => ?_⟩
        · have : (s.extract 0 k).data.size = k := by
            show (s.extract 0 k).size = k
            rw [ByteArray.size_extract]
            omega
          simp only [Array.toList_map, List.length_map, Array.length_toList, this]
          rcases hone with h | h
          · have : k = 0 := by omega
            rw [this, Nat.zero_mul]
          · rw [h, Nat.mul_one]
        · rw [List.getElem?_take] at hj
          split at hj
          · rename_i hjk
            simp only [byteCells, List.getElem?_map, Array.getElem?_toList] at hj
            obtain ⟨b, h1, rfl⟩ := Option.map_eq_some_iff.1 hj
            have hjk' : j < k := by
              rcases hone with h | h
              · have := (Array.getElem?_eq_some_iff.1 h1).1
                omega
              · rw [h, Nat.mul_one] at hjk; exact hjk
            have h2 : (s.extract 0 k).data[j]? = some b := by
              rw [ByteArray.data_extract, Array.getElem?_extract]
              rw [if_pos (by have := (Array.getElem?_eq_some_iff.1 h1).1; omega), Nat.zero_add]
              exact h1
            rw [List.getD_eq_getElem?_getD, Array.toList_map, List.getElem?_map, Array.getElem?_toList, h2]
            exact .d (.int _ _)
          · cases hj
  · exact hcont h e
theorem opD_copy {args : Array Operand} {argTypes : Array TypeId} {d x : Operand} {t elem : TypeId} {sz m n id off : Nat} {new cs : List PV} {bx : Bool} (hr : Rel get N c) (hρ : ∀ x, VRel c (ρp x) (ρv x)) (hop : o.op = .call { callee := .builtin .copy, args := args, argTypes := argTypes }) (ha : args[0]? = some d) (hx : args[1]? = some x) (hty : argTypes[0]? = some t)
    (ht : P.underlying t = some (.slice elem)) (hs : sz? P elem = some sz) (hsz : 0 < sz) (hsrc : source get (ρp x) = some (m, new)) (hnl : new.length = m * sz) (h1 : new.all PV.one = true) (hd : ρp d = .ref id off n sz) (hg : get id = some (.cells bx cs)) (hle : off + n * sz ≤ cs.length) :
    Done c get N nid ((execOp ρv o).run P c.W) (.d (.int .i64 (Nat.min m n : Nat))) (.wr id off (new.take (Nat.min m n * sz))) := by
  obtain ⟨inf, hinf, hisz⟩ := sz_spec hs
  obtain ⟨b, base, cap, bs, p1, p2, _⟩ := ref_inv (hd ▸ hρ d)
  have hmn : Nat.min m n * sz ≤ m * sz := Nat.mul_le_mul_right _ (Nat.min_le_left _ _)
  have hmn2 : Nat.min m n * sz ≤ n * sz := Nat.mul_le_mul_right _ (Nat.min_le_right _ _)
  obtain ⟨hlen, vs, hvl, hfc, hv⟩ := source_spec (P := P) hr (hρ x) hsrc hnl hsz (Nat.min m n) (Nat.min_le_left _ _)
  have hxl : (new.take (Nat.min m n * sz)).length = Nat.min m n * sz := by rw [List.length_take]; omega
  obtain ⟨c', hrun, he, hr', hst, hlb, hro⟩ := done_wr (P := P) (nid := nid) (off := off) (xs := new.take (Nat.min m n * sz)) hr hg (by omega) (vs := vs) (by rw [hvl, hxl]) hv (fun v hv' => by
    obtain ⟨j, hj, rfl⟩ := List.mem_iff_getElem.1 hv'
    have hjl : j < (new.take (Nat.min m n * sz)).length := by omega
    have := hv j _ (List.getElem?_eq_getElem hjl)
    rw [List.getD_eq_getElem?_getD, List.getElem?_eq_getElem hj] at this
    exact (one_cell this (List.all_eq_true.1 h1 _ (List.mem_of_mem_take (List.getElem_mem hjl)))).1) p1
  have hrun := (hrun 0).resolve_right (fun h => h rfl)
  refine ⟨c', _, ?_, .inl ⟨.int .i64 (Nat.min m n : Nat), rfl, .d (.int _ _)⟩, hr', hst, hlb, fun i _ => hro i⟩
  rw [← hisz] at hfc
  simp [execOp, hop, resolve, invoke, builtin, Builtin.copy_, hty, ha, hx, run_underlying ht, p2, hlen, sizeOf, typeInfo, hinf, hfc, hrun, goInt]
theorem opD_copy0 {args : Array Operand} {argTypes : Array TypeId} {d x : Operand} {t elem : TypeId} {sz m : Nat} {new : List PV} {nl tight : Bool} {cells : List DV} (hr : Rel get N c) (hρ : ∀ x, VRel c (ρp x) (ρv x)) (hop : o.op = .call { callee := .builtin .copy, args := args, argTypes := argTypes }) (ha : args[0]? = some d) (hx : args[1]? = some x) (hty : argTypes[0]? = some t)
    (ht : P.underlying t = some (.slice elem)) (hs : sz? P elem = some sz) (hsz : 0 < sz) (hsrc : source get (ρp x) = some (m, new)) (hnl : new.length = m * sz) (hd : ρp d = .d (.list nl tight 0 cells)) :
    Done c get N nid ((execOp ρv o).run P c.W) (.d (.int .i64 0)) .none := by
  obtain ⟨inf, hinf, hisz⟩ := sz_spec hs
  obtain ⟨hlen, vs, hvl, hfc, hv⟩ := source_spec (P := P) hr (hρ x) hsrc hnl hsz 0 (Nat.zero_le _)
  have hvs : vs = [] := List.eq_nil_of_length_eq_zero (by rw [hvl, Nat.zero_mul])
  subst hvs
  refine done_pure (rv := .int .i64 0) hr (.d (.int _ _)) ?_
  rw [← hisz] at hfc
  rcases list_inv (hd ▸ hρ d) with ⟨_, _, _, cap, h2, _⟩ | ⟨ad, cap, _, h2, _⟩ <;> simp [execOp, hop, resolve, invoke, builtin, Builtin.copy_, hty, ha, hx, run_underlying ht, h2, hlen, sizeOf, typeInfo, hinf, hfc, goInt, storeCells]

theorem opD_len {args : Array Operand} {argTypes : Array TypeId} {x : Operand} {t : TypeId} (hr : Rel get N c) (hρ : ∀ x, VRel c (ρp x) (ρv x)) (hop : o.op = .call { callee := .builtin .len, args := args, argTypes := argTypes }) (ha : args[0]? = some x) (hty : argTypes[0]? = some t) {n : Nat}
    (h : (∃ elem, P.underlying t = some (.slice elem) ∧ ((∃ nl tight cells, ρp x = .d (.list nl tight n cells)) ∨ ∃ id off sz, ρp x = .ref id off n sz)) ∨ ∃ elem, P.underlying t = some (.array n elem)) : Done c get N nid ((execOp ρv o).run P c.W) (.d (.int .i64 n)) .none := by
  refine done_pure (rv := .int .i64 n) hr (.d (.int _ _)) ?_
  rcases h with ⟨elem, hu, hx⟩ | ⟨elem, hu⟩
  · have hv : ∃ ao cap, ρv x = .slice ao n cap := by
      rcases hx with ⟨nl, tight, cells, hx⟩ | ⟨id, off, sz, hx⟩
      · rcases list_inv (hx ▸ hρ x) with ⟨_, rfl, _, cap, h2, _⟩ | ⟨ad, cap, _, h2, _⟩
        · exact ⟨_, _, h2⟩
        · exact ⟨_, _, h2⟩
      · obtain ⟨b, base, cap, bs, _, h2, _⟩ := ref_inv (hx ▸ hρ x)
        exact ⟨_, _, h2⟩
    obtain ⟨ao, cap, hv⟩ := hv
    simp [execOp, hop, resolve, invoke, builtin, Builtin.len_, hty, ha, run_underlying hu, hv, goInt]
  · simp [execOp, hop, resolve, invoke, builtin, Builtin.len_, hty, ha, run_underlying hu, goInt]

theorem opD_calm (hr : Rel get N c) (hρ : ∀ x, VRel c (ρp x) (ρv x)) (hsel : ∀ cs b, o.op ≠ .select cs b) {vs : List Value} (hv : o.op.operands.toList.mapM (fun x => (ρp x).toV) = some vs) {v : Value} (hc : calm P (execOp (fun x => ((ρp x).toV).getD undef) o) = some (.value v)) :
    Done c get N nid ((execOp ρv o).run P c.W) (ofConst v) .none := by
  refine done_pure (rv := v) hr (ofConst_spec c v) ?_
  have he : execOp ρv o = execOp (fun x => ((ρp x).toV).getD undef) o := by
    refine execOp_congr o hsel fun x hx => ?_
    obtain ⟨h1, h2⟩ := mapM_some _ _ _ hv
    obtain ⟨j, hj⟩ := List.mem_iff_getElem?.1 (Array.mem_toList_iff.2 hx)
    obtain ⟨y, h3, _⟩ := h2 j x hj
    rw [h3]
    exact toV_spec (hρ x) h3
  rw [he]
  exact calm_run _ _ hc

theorem toInts_spec : ∀ (cells : List PV) (ns : List Int), toInts cells = some ns → cells.length = ns.length ∧ ∀ (j : Nat) (n : Int), ns[j]? = some n → cells[j]? = some (.d (.int .u8 n))
  | [], ns, h => by simp only [toInts, Option.some.injEq] at h; subst h; exact ⟨rfl, fun j n h => by simp at h⟩
  | p :: l, ns, h => by
    unfold toInts at h
    split at h
    · rename_i h1; cases h1
    · rename_i n l' heq
      obtain ⟨rfl, rfl⟩ := List.cons.inj heq
      obtain ⟨r, h1, rfl⟩ := Option.map_eq_some_iff.1 h
      obtain ⟨h2, h3⟩ := toInts_spec _ _ h1
      refine ⟨by simp [h2], fun j m hj => ?_⟩
      cases j with
      | zero => simp only [List.getElem?_cons_zero, Option.some.injEq] at hj ⊢; subst hj; rfl
      | succ j => exact h3 j m hj
    · cases h
theorem opD_bstr {src dst e : TypeId} {x : Operand} {id off n m : Nat} {cells : List PV} {ns : List Int} (hr : Rel get N c) (hρ : ∀ x, VRel c (ρp x) (ρv x)) (hop : o.op = .convert src dst x) (hx : ρp x = .ref id off n 1) (hs : P.underlying src = some (.slice e)) (hd : P.underlying dst = some .string) (he : P.underlying e = some (.int .u8))
    (hc : content get (ρp x) = some (m, cells)) (hm : cells.length = m) (hn : toInts cells = some ns) : Done c get N nid ((execOp ρv o).run P c.W) (.d (.str (ns.foldl (fun r n => r.push (UInt8.ofNat n.toNat)) ByteArray.empty))) .none := by
  obtain ⟨ao, cap, hv, h1, h2, h3⟩ := content_spec hr (hρ x) hc
  obtain ⟨b, base, cap2, bs, p1, p2, _⟩ := ref_inv (hx ▸ hρ x)
  have hao : ∃ a, ao = some a ∧ m = n := by rw [hv] at p2; injection p2 with a1 a2 a3; exact ⟨_, a1, a2⟩
  obtain ⟨a, rfl, rfl⟩ := hao
  obtain ⟨t1, t2⟩ := toInts_spec cells ns hn
  have hl := run_loadCells_list (P := P) (w := c.W) a (ns.map (Value.int .u8)) (fun j v hj => by
    rw [List.getElem?_map] at hj
    obtain ⟨k, h4, rfl⟩ := Option.map_eq_some_iff.1 hj
    obtain ⟨y, h5, h6⟩ := h3 a rfl j _ (t2 j k h4)
    rw [int_inv h6] at h5
    exact h5)
  rw [List.length_map, ← t1, hm] at hl
  refine done_pure (rv := .string (ns.foldl (fun r n => r.push (UInt8.ofNat n.toNat)) ByteArray.empty)) hr (.d (.str _)) ?_
  simp [execOp, hop, hv, run_convert_bytes_string _ _ _ _ _ _ _ hs he hd, run_bytesToString (P := P) c.W a m cap ns hl]
theorem append_types {t t' e e' : TypeId} {ty : TypeId} {args : Array Value} (h : P.underlying t = some (.slice e)) (h' : P.underlying t' = some (.slice e')) (w : World) : (Builtin.append_ #[t, t'] ty args).run P w = (Builtin.append_ #[t, t] ty args).run P w := by
  unfold Builtin.append_
  simp only [List.getElem?_toArray, List.getElem?_cons_zero, List.getElem?_cons_succ]
  cases args[0]? with
  | none => rfl
  | some s =>
    cases args[1]? with
    | none => rfl
    | some x =>
      simp only [Sem.run_bind, run_underlying h, Result.andThen_ok]
      cases s with
      | slice base sLen sCap =>
        simp only [Sem.run_bind]
        generalize (sizeOf e).run P w = r
        cases r with
        | ok n w' => simp only [Result.andThen_ok, run_underlying h, run_underlying h', Sem.run_pure]
        | halt => rfl
      | _ => rfl
theorem getD_some {l : List Value} {j : Nat} {x : Value} (h : l[j]? = some x) : l.getD j undef = x := by rw [List.getD_eq_getElem?_getD, h]; rfl
theorem opD_append {args : Array Operand} {argTypes : Array TypeId} {s x : Operand} {t t' elem elem' : TypeId} {sz by_ n m : Nat} {old new : List PV} (hr : Rel get N c) (hN : N nid) (hρ : ∀ x, VRel c (ρp x) (ρv x)) (hop : o.op = .call { callee := .builtin .append, args := args, argTypes := argTypes }) (hargs : args = #[s, x]) (hty : argTypes = #[t, t'])
    (ht : P.underlying t = some (.slice elem)) (ht' : P.underlying t' = some (.slice elem')) (hs : sz? P elem = some sz) (hb : (P.info? elem).map (·.bytes) = some by_) {z : List PV} (hz : zero? P elem = some z) (hzs : z.length = sz) (hcs : content get (ρp s) = some (n, old)) (hcx : content get (ρp x) = some (m, new)) (hsz : 0 < sz) (hnl : new.length = m * sz) (hol : old.length = n * sz)
    (hbytes : (n + m) * by_ ≤ maxBytes) (h62 : n + m < 2 ^ 62) (h1n : new.all PV.one = true) (h1o : old.all PV.one = true) :
    (m = 0 → Done c get N nid ((execOp ρv o).run P c.W) (ρp s) .none) ∧
    (m ≠ 0 → (∀ nl k ds, ρp s = .d (.list nl true k ds) → Done c get N nid ((execOp ρv o).run P c.W) (.ref nid 0 (n + m) sz) (.new nid (.cells false (old ++ new)))) ∧
      ∀ id off k, ρp s = .ref id off k sz → Done c get N nid ((execOp ρv o).run P c.W) (.ref nid 0 (n + m) sz) (.mv id nid (.cells false (old ++ new)))) := by
  subst hargs hty
  obtain ⟨i, zv, hi, hzi, hzl, hz1⟩ := zero_spec hz c
  obtain ⟨ie, hie, hisz⟩ := sz_spec hs
  rw [hi] at hie
  cases hie
  rw [hi] at hb
  simp only [Option.map_some, Option.some.injEq] at hb
  have hzc : zv.cells.size = sz := by rw [hzl.1, hzs]
  obtain ⟨ao, cap, hv, hn, hnone, hcell⟩ := content_spec hr (hρ s) hcs
  obtain ⟨bo, capx, hw, hm, hnonex, hcellx⟩ := content_spec hr (hρ x) hcx
  have hex : ∀ r, (Builtin.append_ #[t, t] o.type #[.slice ao n cap, .slice bo m capx]).run P c.W = r → (execOp ρv o).run P c.W = r.andThen fun v w => .ok (.value v) w := fun r e => by
    have e2 := append_types (ty := o.type) (args := #[.slice ao n cap, .slice bo m capx]) ht ht' c.W
    rw [e] at e2
    simp [execOp, hop, resolve, invoke, builtin, hv, hw, e2]
  have h63 : n + m ≤ maxLen := by simp only [maxLen]; omega
  have hbb : (n + m) * by_ ≤ 140737488355328 := hbytes
  refine ⟨fun h0 => ?_, fun h0 => ?_⟩
  · subst h0
    refine done_pure (rv := .slice ao n cap) hr (hv ▸ hρ s) ?_
    have hnil : new = [] := List.eq_nil_of_length_eq_zero (by rw [hnl]; simp)
    have hrun : (Builtin.append_ #[t, t] o.type #[.slice ao n cap, .slice bo 0 capx]).run P c.W = .ok (.slice ao n cap) c.W := by
      have hlc : ∀ a, (loadCells a 0).run P c.W = .ok #[] c.W := fun a => rfl
      cases ao <;> cases bo <;> simp [Builtin.append_, run_underlying ht, sizeOf, typeInfo, hi, Builtin.lenOf, Builtin.firstCells, hn, storeCells, hlc]
    rw [hex _ hrun]
    rfl
  · have hm0 : 0 < m := Nat.pos_of_ne_zero h0
    cases bo with
    | none => have := (hnonex rfl).1; omega
    | some bx =>
    obtain ⟨news, hnews, hnewc⟩ := vals_of (c := c) (hcellx bx rfl)
    have hnews1 : ∀ u ∈ news, u.oneCell' = true := fun u hu => by
      obtain ⟨j, hj, rfl⟩ := List.mem_iff_getElem.1 hu
      have h2 := (hnewc j _ (List.getElem?_eq_getElem hj)).2 _ (List.getElem?_eq_getElem (by omega : j < new.length))
      exact (one_cell h2 (List.all_eq_true.1 h1n _ (List.getElem_mem _))).1
    have hnl' : news.length = m * sz := by rw [hnews, hnl]
    have grow : cap < n + m → (ao = none → cap = 0) → ∃ v' w', (Builtin.append_ #[t, t] o.type #[.slice ao n cap, .slice (some bx) m capx]).run P c.W = .ok v' w' ∧ c.W.grownBy w' none ∧ ∃ g cap' cur, v' = .slice (some ⟨g, 0, none⟩) (n + m) cap' ∧ c.W.heap.size ≤ g ∧ w'.heap[g]? = some (.cells cur elem (0, 0)) ∧ n + m ≤ cap' ∧ cur.size = cap' * sz ∧
        ∀ (j : Nat) (u : PV), (old ++ new)[j]? = some u → VRel c u (cur.getD j undef) := fun hfull hcn => by
      obtain ⟨olds, holds, holdc⟩ : ∃ vs : List Value, vs.length = old.length ∧ ∀ (j : Nat) (x : Value), vs[j]? = some x → (∀ a, ao = some a → c.W.cell? (a.add j) = some x) ∧ ∀ u, old[j]? = some u → VRel c u x := by
        cases ao with
        | none => rw [(hnone rfl).2]; exact ⟨[], rfl, fun j x h => by simp at h⟩
        | some a =>
          obtain ⟨vs, g1, g2⟩ := vals_of (c := c) (hcell a rfl)
          exact ⟨vs, g1, fun j x h => ⟨fun a' e => by cases e; exact (g2 j x h).1, (g2 j x h).2⟩⟩
      have hol' : olds.length = n * sz := by rw [holds, hol]
      have hcells : ∀ (cur : Array Value), cur.toList.take ((n + m) * sz) = olds ++ news → ∀ (j : Nat) (u : PV), (old ++ new)[j]? = some u → VRel c u (cur.getD j undef) := fun cur hcur j u hj => by
        have hjl : j < (old ++ new).length := (List.getElem?_eq_some_iff.1 hj).1
        have hjm : j < (n + m) * sz := by rw [List.length_append, hol, hnl, ← Nat.add_mul] at hjl; exact hjl
        have h2 : cur[j]? = (olds ++ news)[j]? := by rw [← hcur, List.getElem?_take, if_pos hjm, Array.getElem?_toList]
        rw [Array.getD_eq_getD_getElem?, h2]
        rw [List.getElem?_append] at hj ⊢
        rw [holds]
        by_cases e : j < old.length
        · rw [if_pos e] at hj ⊢
          have hj2 : j < olds.length := by omega
          rw [List.getElem?_eq_getElem hj2]
          exact (holdc j _ (List.getElem?_eq_getElem hj2)).2 u hj
        · rw [if_neg e] at hj ⊢
          have hj2 : j - old.length < news.length := by rw [hnews]; exact (List.getElem?_eq_some_iff.1 hj).1
          rw [List.getElem?_eq_getElem hj2]
          exact (hnewc _ _ (List.getElem?_eq_getElem hj2)).2 u hj
      cases ao with
      | some b =>
        obtain ⟨v', w', hrun, r1, r2⟩ := run_append_arg_grows (P := P) c.W t o.type elem i zv sz by_ ht hi hzi hisz hb hzc hsz b n cap olds hol' (fun j u hj => (holdc j u hj).1 b rfl) bx m capx news hnl' (fun j u hj => (hnewc j u hj).1) hfull h63 hbb
        rcases r1.2 with ⟨_, h⟩ | ⟨g, cap', cur, g1, g2, g3, g4, g5, g6, g7⟩
        · omega
        · exact ⟨v', w', hrun, r2, g, cap', cur, g1, g2, g3, g4, g6, hcells cur g7⟩
      | none =>
        obtain ⟨hn0, ho0⟩ := hnone rfl
        have hc0 := hcn rfl
        subst hn0 hc0 ho0
        have ho : olds = [] := List.eq_nil_of_length_eq_zero (by rw [holds]; rfl)
        subst ho
        obtain ⟨v', w', hrun, r1, r2, _⟩ := run_append_own (P := P) c.W c.W.heap.size t o.type elem i zv sz by_ ht hi hzi hisz hb hzc hsz (.slice none 0 0) 0 [] (World.ownsRow_nil c.W _ elem sz) bx m capx news hnl' (fun j u hj => (hnewc j u hj).1) hnews1 h63 hbb (Nat.le_refl _)
        rcases r1.2 with ⟨_, h⟩ | ⟨g, cap', cur, g1, g2, g3, g4, g5, g6, g7⟩
        · omega
        · exact ⟨v', w', hrun, r2, g, cap', cur, g1, g2, g3, g4, g6, hcells cur g7⟩
    have hlen : (old ++ new).length = (n + m) * sz := by rw [List.length_append, hol, hnl, Nat.add_mul]
    have fin : cap < n + m → (ao = none → cap = 0) → Done c get N nid ((execOp ρv o).run P c.W) (.ref nid 0 (n + m) sz) (.new nid (.cells false (old ++ new))) ∧ ∀ id, Done c get N nid ((execOp ρv o).run P c.W) (.ref nid 0 (n + m) sz) (.mv id nid (.cells false (old ++ new))) := fun hfull hcn => by
      obtain ⟨v', w', hrun, hgb, g, cap', cur, rfl, hge, hg, hcap', hcsz, hcl⟩ := grow hfull hcn
      have hle : (n + m) * sz ≤ cap' * sz := Nat.mul_le_mul_right _ hcap'
      exact done_grown hr hN hgb hge hg (by rw [hlen, hcsz]; exact hle) hcl (by rw [hex _ hrun]; rfl) (vrel_new_ref hg hcap' (by rw [hcsz]; exact Nat.le_refl _))
    refine ⟨fun nl k ds he => ?_, fun id off k he => ?_⟩
    · refine (fin ?_ ?_).1
      case refine_2 =>
        intro e
        rcases list_inv (he ▸ hρ s) with ⟨_, h1, _, cap2, h2, h3⟩ | ⟨ad, cap2, _, h2, h3, _⟩
        · rw [hv] at h2; injection h2 with a1 a2 a3; have := h3 rfl; omega
        · rw [hv, e] at h2; injection h2 with a1 a2 a3; cases a1
      have hk : k = n := by rw [he] at hcs; simp only [content, Option.some.injEq, Prod.mk.injEq] at hcs; exact hcs.1
      subst hk
      rcases list_inv (he ▸ hρ s) with ⟨_, h1, _, cap2, h2, h3⟩ | ⟨ad, cap2, _, h2, h3, _⟩
      · rw [hv] at h2; injection h2 with a1 a2 a3; have := h3 rfl; omega
      · rw [hv] at h2; injection h2 with a1 a2 a3; have := h3 rfl; omega
    · by_cases hroom : n + m ≤ cap
      case neg =>
        obtain ⟨b, base, cap2, bs, _, h2, _⟩ := ref_inv (he ▸ hρ s)
        rw [hv] at h2
        injection h2 with a1 a2 a3
        exact (fin (by omega) (fun e => by rw [e] at a1; cases a1)).2 id
      have hk : k = n ∧ ∃ bx' cs, get id = some (.cells bx' cs) ∧ off + n * sz ≤ cs.length ∧ old = (cs.drop off).take (n * sz) := by
        rw [he] at hcs
        simp only [content] at hcs
        split at hcs
        · rename_i bx' cs hg
          split at hcs
          · rename_i hle
            simp only [Option.some.injEq, Prod.mk.injEq] at hcs
            obtain ⟨rfl, rfl⟩ := hcs
            exact ⟨rfl, bx', cs, hg, hle, rfl⟩
          · cases hcs
        · cases hcs
      obtain ⟨rfl, bx', cs, hg, hle, hold⟩ := hk
      obtain ⟨b, base, cap2, bs, p1, p2, p3, ⟨arr0, t0, p4, p5⟩, p6⟩ := ref_inv (he ▸ hρ s)
      rw [hv] at p2
      injection p2 with a1 a2 a3
      subst a1 a3
      obtain ⟨b', base', arr, ty, g1, g2, g3, g4, g5⟩ := obj_cells hr hg
      rw [p1] at g1
      cases g1
      rw [g2] at p4
      injection p4 with p4
      injection p4 with e1 e2 e3
      subst e1 e2
      have hcap : (k + m) * sz ≤ cap * sz := Nat.mul_le_mul_right _ hroom
      have hkm : (k + m) * sz = k * sz + m * sz := Nat.add_mul _ _ _
      have hst := run_storeCells_at P b (base + off + k * sz) ty news 0 arr c.W g2 (by omega) hnews1
      simp only [Nat.add_zero] at hst
      obtain ⟨nw, hnw⟩ : ∃ nw, (arr.toList.take (base + off + k * sz) ++ news ++ arr.toList.drop (base + off + k * sz + news.length)).toArray = nw := ⟨_, rfl⟩
      rw [hnw] at hst
      have hsize : nw.size = arr.size := by rw [← hnw]; simp; omega
      have hfc : (Builtin.firstCells i.size m (.slice (some bx) m capx)).run P c.W = .ok news.toArray c.W := run_firstCells_some (P := P) c.W i.size m bx m capx news (by rw [hisz]; exact hnl') (fun j u hj => (hnewc j u hj).1)
      have hrun : (Builtin.append_ #[t, t] o.type #[.slice (some ⟨b, base + off, none⟩) k cap, .slice (some bx) m capx]).run P c.W = .ok (.slice (some ⟨b, base + off, none⟩) (k + m) cap) (c.W.setRow b nw) := by
        rw [← hisz] at hst
        simp [Builtin.append_, run_underlying ht, sizeOf, typeInfo, hi, Builtin.lenOf, hroom, hfc, Addr.add_lit, hst]
      have hf := hr.fresh nid hN
      obtain ⟨c', hc'⟩ : ∃ c' : Cfg, c' = c.named nid (b, base + off) (c.W.setRow b nw) := ⟨_, rfl⟩
      have hW : c'.W = c.W.setRow b nw := by rw [hc']; rfl
      have he1 := ext_row hr hg p1 g2 hsize
      have hE : Ext c c' := by
        rw [hc']
        refine ⟨fun j p h => ?_, fun _ h => h, he1.same, he1.shape, he1.loops⟩
        show (if j = nid then _ else _) = _
        rw [if_neg (fun e => by rw [e, hf] at h; cases h)]
        exact h
      have hnj : ∀ j, j < (k + m) * sz → nw[base + off + j]? = if j < k * sz then arr[base + off + j]? else news[j - k * sz]? := fun j hj => by
        rw [← hnw, List.getElem?_toArray, List.append_assoc, List.getElem?_append, List.length_take]
        have hmn : min (base + off + k * sz) arr.toList.length = base + off + k * sz := by simp; omega
        rw [hmn]
        by_cases e : j < k * sz
        · rw [if_pos (by omega), if_pos e, List.getElem?_take, if_pos (by omega), Array.getElem?_toList]
        · rw [if_neg (by omega), if_neg e, List.getElem?_append, if_pos (by omega)]
          congr 1
          omega
      have hoc : ORel c' (.cells false (old ++ new)) b (base + off) := by
        refine ⟨nw, ty, by rw [hW]; exact setRow_heap _ _ _ _ _ _ g2, by rw [hlen, hsize]; omega, fun j u hj => ?_⟩
        have hjl : j < (k + m) * sz := by rw [← hlen]; exact (List.getElem?_eq_some_iff.1 hj).1
        rw [Array.getD_eq_getD_getElem?, hnj j hjl]
        rw [List.getElem?_append, hol] at hj
        by_cases e : j < k * sz
        · rw [if_pos e] at hj ⊢
          rw [hold, List.getElem?_take, if_pos e, List.getElem?_drop] at hj
          have := g4 _ u hj
          rw [Array.getD_eq_getD_getElem?, ← Nat.add_assoc] at this
          exact this.mono hE
        · rw [if_neg e] at hj ⊢
          have hj2 : j - k * sz < news.length := by rw [hnews]; exact (List.getElem?_eq_some_iff.1 hj).1
          rw [List.getElem?_eq_getElem hj2]
          exact ((hnewc _ _ (List.getElem?_eq_getElem hj2)).2 u hj).mono hE
      have hrel := rel_row (N := N) (y := .cells false (old ++ new)) (base' := base + off) (c' := c') hr hg p1 g2 hsize hW (by rw [hc']; rfl) hE (fun j hj => by rw [hc']; exact if_neg hj) (by rw [hc']; exact if_pos rfl) (.inr hN) hoc
      have hfun : (fun j => (Eff.mv id nid (.cells false (old ++ new))).at j (get j)) = fun j => if j = nid then some (.cells false (old ++ new)) else if j = id then none else get j := rfl
      have hs1 := step_row hr hg p1 g2 hsize
      refine ⟨c', .value (.slice (some ⟨b, base + off, none⟩) (k + m) cap), ?_, .inl ⟨_, rfl, ?_⟩, hrel, ⟨hE, ?_, ?_, ?_, ?_, ?_, ?_⟩, ?_, fun j hj => by rw [hc']; exact if_neg hj⟩
      · rw [hex _ hrun, hW]; rfl
      · refine .ref (base := base + off) (bs := arr.size) (by rw [hc']; exact if_pos rfl) hroom ⟨nw, ty, by rw [hW]; exact setRow_heap _ _ _ _ _ _ g2, hsize⟩ (by omega)
      · rw [hW]; exact hs1.os
      · rw [hW]; exact hs1.tape
      · rw [hW]; exact hs1.output
      · rw [hW]; exact hs1.size
      · rw [hW]; exact hs1.block
      · rw [hc']; exact fun _ h => .inl h
      · intro q ⟨j, y, ba, q1, q2⟩
        rw [hfun] at q1
        simp only at q1
        rw [hc'] at q2
        have q2' : (if j = nid then some (b, base + off) else c.ρ j) = some (q, ba) := q2
        by_cases e : j = nid
        · rw [if_pos e] at q2'
          cases q2'
          exact .inl ⟨id, _, base, hg, p1⟩
        · rw [if_neg e] at q1 q2'
          by_cases e2 : j = id
          · rw [if_pos e2] at q1; cases q1
          · rw [if_neg e2] at q1; exact .inl ⟨j, y, ba, q1, q2'⟩
end
end Go.Proofs.Ytpepghaknilmhaa.Vm
