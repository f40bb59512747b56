/- The machine of plain values: rows that are built, cut, appended to. Written once for all seats. -/
import Derived.Test.YtpepghaknilmhaaVmD
namespace Go.Proofs.Ytpepghaknilmhaa.Vm
open Go
set_option linter.unusedVariables false
set_option linter.unusedSimpArgs false

section
variable {P : Program} {c : Cfg} {get : Nat → Option Obj} {N : Nat → Prop} {nid : Nat} {ρp : Operand → PV} {ρv : Operand → Value} {o : Oper}

theorem fold_set (off : Nat) : ∀ (l : List Value) (s : Nat) (arr : Array Value), ((l.zipIdx s).foldl (fun cs (x : Value × Nat) => cs.setIfInBounds (off + x.2) x.1) arr).size = arr.size ∧
    ∀ k, k < arr.size → ((l.zipIdx s).foldl (fun cs (x : Value × Nat) => cs.setIfInBounds (off + x.2) x.1) arr)[k]? = if off + s ≤ k ∧ k < off + s + l.length then l[k - (off + s)]? else arr[k]?
  | [], s, arr => ⟨rfl, fun k hk => by simp; omega⟩
  | v :: l, s, arr => by
    simp only [List.zipIdx_cons, List.foldl_cons, List.length_cons]
    obtain ⟨h1, h2⟩ := fold_set off l (s + 1) (arr.setIfInBounds (off + s) v)
    refine ⟨by rw [h1]; simp, fun k hk => ?_⟩
    rw [h2 k (by simpa using hk)]
    by_cases e : off + (s + 1) ≤ k ∧ k < off + (s + 1) + l.length
    · rw [if_pos e, if_pos (by omega)]
      obtain ⟨j, rfl⟩ : ∃ j, k = off + s + 1 + j := ⟨k - (off + s + 1), by omega⟩
      rw [show off + s + 1 + j - (off + s) = j + 1 from by omega, show off + s + 1 + j - (off + (s + 1)) = j from by omega, List.getElem?_cons_succ]
    · rw [if_neg e]
      by_cases e2 : k = off + s
      · subst e2
        rw [if_pos (by omega), Nat.sub_self, List.getElem?_cons_zero]
        simp [hk]
      · rw [if_neg (by omega), Array.getElem?_setIfInBounds_ne (by omega)]

theorem fill_spec {place : Nat → Option (Nat × Nat)} : ∀ (l : List (Nat × Operand)) {cs cs' : List PV} {arr : Array Value}, VL c cs arr → (∀ x, VRel c (ρp x) (ρv x)) → fill place cs (l.map fun p => (p.1, ρp p.2)) = some cs' →
    ∃ arr', Instr.fill place arr (l.map fun p => (p.1, ρv p.2)) = some arr' ∧ VL c cs' arr'
  | [], cs, cs', arr, h, _, e => by cases e; exact ⟨arr, rfl, h⟩
  | (i, x) :: l, cs, cs', arr, h, hρ, e => by
    simp only [List.map_cons, fill] at e
    split at e
    · rename_i off size xs hp hx
      split at e
      · rename_i hle
        obtain ⟨hvl, _⟩ := cells_spec (hρ x) hx
        have hsz := hvl.1
        obtain ⟨h1, h2⟩ := fold_set off (ρv x).cells.toList 0 arr
        simp only [Nat.add_zero] at h2
        obtain ⟨arr1, harr1⟩ : ∃ a, ((ρv x).cells.toList.zipIdx 0).foldl (fun cs (x : Value × Nat) => cs.setIfInBounds (off + x.2) x.1) arr = a := ⟨_, rfl⟩
        rw [harr1] at h1 h2
        have hv1 : VL c (splice cs off xs) arr1 := by
          refine VL.mk' (by rw [h1, h.1, splice_length (by omega)]) fun j u hj => ?_
          have hjl : j < arr.size := by have := (List.getElem?_eq_some_iff.1 hj).1; rw [splice_length (by omega)] at this; rw [h.1]; exact this
          rw [splice_get (by omega)] at hj
          rw [h2 j hjl]
          have hll : (ρv x).cells.toList.length = xs.length := by simp [hsz]
          by_cases e1 : j < off
          · rw [if_pos e1] at hj
            rw [if_neg (by omega)]
            exact h.get hj
          · rw [if_neg e1] at hj
            by_cases e2 : j < off + xs.length
            · rw [if_pos e2] at hj
              rw [if_pos (by omega)]
              exact hvl.toList _ _ hj
            · rw [if_neg e2] at hj
              rw [if_neg (by omega)]
              exact h.get hj
        obtain ⟨arr', h3, h4⟩ := fill_spec l hv1 hρ e
        refine ⟨arr', ?_, h4⟩
        simp only [List.map_cons, Instr.fill, hp]
        have hc : ((ρv x).cells.size ≠ size || off + (ρv x).cells.size > arr.size) = false := by
          have := h.1
          simp; omega
        rw [hc]
        simp only [Bool.false_eq_true, if_false]
        rw [← Array.foldl_toList, Array.toList_zipIdx]
        rw [← harr1] at h3
        exact h3
      · cases e
    · cases e

theorem opD_build {t : TypeId} {parts : Array (Nat × Operand)} (hr : Rel get N c) (hρ : ∀ x, VRel c (ρp x) (ρv x)) (hop : o.op = .build t parts) {z cs : List PV} (hz : zero? P t = some z) {place : Nat → Option (Nat × Nat)}
    (hf : fill place z (parts.toList.map fun p => (p.1, ρp p.2)) = some cs)
    (hpl : (∃ fields l, P.underlying t = some (.struct fields) ∧ fields.toList.mapM (fun f => (sz? P f.type).map fun n => (f.offset, n)) = some l ∧ place = fun i => l[i]?) ∨
      ∃ len elem sz, P.underlying t = some (.array len elem) ∧ sz? P elem = some sz ∧ place = fun i => some (i * sz, sz)) : Done c get N nid ((execOp ρv o).run P c.W) (.agg cs) .none := by
  obtain ⟨i, zv, h1, h2, h3, h4⟩ := zero_spec hz c
  obtain ⟨arr', h5, h6⟩ := fill_spec (ρv := ρv) parts.toList h3 hρ hf
  refine done_pure hr (.agg h6.1 h6.2) ?_
  have hpt : (parts.map fun p => (p.1, ρv p.2)).toList = parts.toList.map fun p => (p.1, ρv p.2) := by simp
  rcases hpl with ⟨fields, l, hu, hl, rfl⟩ | ⟨len, elem, sz, hu, hs, rfl⟩
  · have hm : ∀ (fs : List Field) (l : List (Nat × Nat)) (w : World), fs.mapM (fun f => (sz? P f.type).map fun n => (f.offset, n)) = some l → Sem.run P (fs.mapM fun f => do pure (f.offset, ← sizeOf f.type)) w = .ok l w := by
      intro fs
      induction fs with
      | nil => intro l w h; simp at h; subst h; rfl
      | cons f fs ih =>
        intro l w h
        rw [List.mapM_cons] at h
        cases hs : sz? P f.type with
        | none => simp [hs] at h
        | some n =>
          cases hl : fs.mapM (fun f => (sz? P f.type).map fun n => (f.offset, n)) with
          | none => simp [hs, hl] at h
          | some ys =>
            simp [hs, hl] at h
            subst h
            obtain ⟨i, hi, hsz⟩ := sz_spec hs
            have hso : ∀ w, (sizeOf f.type).run P w = .ok n w := fun w => by simp [sizeOf, typeInfo, hi, hsz]
            rw [List.mapM_cons]
            simp only [Sem.run_bind, hso, Result.andThen_ok, Sem.run_pure, ih ys w hl]
    have hm' : Sem.run P (fields.mapM fun f => do pure (f.offset, ← sizeOf f.type)) c.W = .ok l.toArray c.W := by
      rw [← Array.toArray_toList (xs := fields), List.mapM_toArray]
      simp only [Sem.run_map, Sem.run_bind, hm fields.toList l c.W hl, Result.andThen_ok]
    have hm2 : Sem.run P (fields.mapM fun f => Prod.mk f.offset <$> sizeOf f.type) c.W = .ok l.toArray c.W := by simpa only [bind_pure_comp] using hm'
    have h5' : Instr.fill (fun x => l.toArray[x]?) zv.cells (parts.toList.map fun p => (p.1, ρv p.2)) = some arr' := by simpa using h5
    simp [execOp, hop, Instr.build, zeroValue, typeInfo, h1, h2, run_underlying hu, hm2]
    simp only [List.getElem?_toArray] at h5'
    simp [h5']
  · obtain ⟨ie, hie, hsz⟩ := sz_spec hs
    simp [execOp, hop, Instr.build, zeroValue, typeInfo, h1, h2, run_underlying hu, sizeOf, hie, hsz, h5, hpt]

theorem rep_get {α : Type} (z : List α) (hz : 0 < z.length) : ∀ (n j : Nat), j < n * z.length → ((List.replicate n z).flatten)[j]? = z[j % z.length]?
  | 0, j, h => by simp at h
  | n + 1, j, h => by
    rw [List.replicate_succ, List.flatten_cons, List.getElem?_append]
    by_cases e : j < z.length
    · rw [if_pos e, Nat.mod_eq_of_lt e]
    · rw [if_neg e, rep_get z hz n (j - z.length) (by rw [Nat.succ_mul] at h; omega)]
      rw [← Nat.mod_eq_sub_mod (by omega)]
theorem rep_len {α : Type} (z : List α) (n : Nat) : ((List.replicate n z).flatten).length = n * z.length := by simp
theorem made_spec {z : List PV} {zv : Array Value} (h : VL c z zv) (hz : 0 < z.length) {n m : Nat} (hn : n * z.length ≤ m) : ∀ (j : Nat) (u : PV), ((List.replicate n z).flatten)[j]? = some u → VRel c u ((madeCells zv m).getD j undef) := by
  intro j u hj
  have hl := (List.getElem?_eq_some_iff.1 hj).1
  rw [rep_len] at hl
  rw [rep_get z hz n j hl] at hj
  obtain ⟨x, h1, h2⟩ := h.get hj
  have hjm : j < m := by omega
  rw [Array.getD_eq_getD_getElem?]
  have : (madeCells zv m)[j]? = some x := by
    simp only [madeCells, Array.getElem?_map, Array.getElem?_range, hjm, if_true, Option.map_some]
    have h3 : j % zv.size < zv.size := Nat.mod_lt _ (by rw [h.1]; exact hz)
    rw [← h.1] at h1
    rw [Array.getElem?_eq_getElem h3] at h1
    simp only [Option.some.injEq] at h1 ⊢
    rw [getElem!_pos zv (j % zv.size) h3]
    exact h1
  rw [this]
  exact h2

theorem opD_buildSlice {t elem : TypeId} {len sz : Nat} {parts : Array (Nat × Operand)} (hr : Rel get N c) (hN : N nid) (hρ : ∀ x, VRel c (ρp x) (ρv x)) (hop : o.op = .buildSlice t len parts) (ht : P.underlying t = some (.slice elem)) (hs : sz? P elem = some sz) {z cs : List PV} (hz : zero? P elem = some z)
    (hzs : z.length = sz) (hsz : 0 < sz) (hlen : len * sz ≤ 2 ^ 24) (hf : fill (fun i => some (i * sz, sz)) ((List.replicate len z).flatten) (parts.toList.map fun p => (p.1, ρp p.2)) = some cs) :
    (∀ ds, dataAll cs = some ds → Done c get N nid ((execOp ρv o).run P c.W) (.d (.list false true len ds)) .none) ∧ Done c get N nid ((execOp ρv o).run P c.W) (.ref nid 0 len sz) (.new nid (.cells false cs)) := by
  obtain ⟨i, zv, h1, h2, h3, h4⟩ := zero_spec hz c
  obtain ⟨ie, hie, hsz'⟩ := sz_spec hs
  rw [h1] at hie
  cases hie
  have hm0 : VL c ((List.replicate len z).flatten) (madeCells zv.cells (len * sz)) := ⟨by rw [size_madeCells, rep_len, hzs], fun j u hj => made_spec h3 (by omega) (by rw [hzs]; exact Nat.le_refl _) j u hj⟩
  obtain ⟨arr', h5, h6⟩ := fill_spec (ρv := ρv) parts.toList hm0 hρ hf
  have hpt : (parts.map fun p => (p.1, ρv p.2)).toList = parts.toList.map fun p => (p.1, ρv p.2) := by simp
  have hcl : cs.length = len * sz := by
    have : ∀ (l : List (Nat × PV)) (a b : List PV), fill (fun i => some (i * sz, sz)) a l = some b → b.length = a.length := by
      intro l
      induction l with
      | nil => intro a b h; cases h; rfl
      | cons x l ih =>
        intro a b h
        obtain ⟨i, v⟩ := x
        simp only [fill] at h
        split at h
        · rename_i off size xs hp hx
          split at h
          · rename_i hle
            have := ih _ _ h
            rw [this, splice_length (by omega)]
          · cases h
        · cases h
    rw [this _ _ _ hf, rep_len, hzs]
  have hrun : (execOp ρv o).run P c.W = .ok (.value (.slice (some ⟨c.W.heap.size, 0, none⟩) len len)) (c.W.alloc (.cells arr' elem)) := by
    have hbig : ¬ (2 ^ 24 < len * sz) := by omega
    have h5' : Instr.fill (fun i => some (i * sz, sz)) (madeCells zv.cells (len * sz)) (parts.map fun p => (p.1, ρv p.2)).toList = some arr' := by rw [hpt]; exact h5
    by_cases h0 : len * sz = 0
    · have hl0 : len = 0 := by rcases Nat.mul_eq_zero.1 h0 with h | h <;> omega
      subst hl0
      simp only [Nat.zero_mul, madeCells] at h5'
      simp [execOp, hop, Instr.buildSlice, run_underlying ht, sizeOf, typeInfo, h1, hsz', zeroValue, h2, newRow, run_newObj_alloc, h5']
      have e0 : ∀ f : Nat → Value, Array.map f (Array.range 0) = #[] := fun f => Array.eq_empty_of_size_eq_zero (by simp)
      simp only [e0, Array.toList_map] at h5' ⊢
      simp [h5', run_newObj_alloc]
    · have h0' : ¬ (len = 0 ∨ sz = 0) := by rw [← Nat.mul_eq_zero]; exact h0
      simp only [madeCells] at h5'
      simp [execOp, hop, Instr.buildSlice, run_underlying ht, sizeOf, typeInfo, h1, hsz', zeroValue, h2, newRow, run_newObj_alloc, h0', hbig]
      rw [if_neg h0]
      simp only [Array.toList_map] at h5'
      simp [h5', run_newObj_alloc]
  have hal : arr'.size = len * sz := by rw [h6.1, hcl]
  refine ⟨fun ds hd => ?_, ?_⟩
  · have hg := grown_alloc c.W (.cells arr' elem)
    have e1 : Ext c { c with W := c.W.alloc (.cells arr' elem), I := fun k => c.I k ∨ k = c.W.heap.size } :=
      ⟨fun _ _ h => h, fun _ h => .inl h, fun k hk => grown_same hg (hr.immlt k hk), fun _ _ h => shape_grown hg h, fun b L h => ⟨L, (grown_same hg (Array.getElem?_eq_some_iff.1 h).1).trans h⟩⟩
    have hst : Step (Lb get c) c { c with W := c.W.alloc (.cells arr' elem), I := fun k => c.I k ∨ k = c.W.heap.size } :=
      ⟨e1, hg.os, hg.tape, hg.output, hg.size, fun k hk _ => grown_same hg hk, fun k hk => hk.elim .inl (fun e => .inr (.inr (by omega)))⟩
    have hlt : ∀ k, Lb get c k → k < c.W.heap.size := fun k ⟨i, x, ba, h1, h2⟩ => by
      obtain ⟨b, ba', h3, h4⟩ := hr.live i x h1
      rw [h2] at h3; cases h3; exact h4.lt
    refine ⟨_, _, hrun, .inl ⟨_, rfl, ?_⟩, (hr.carry (T := fun _ => False) (c' := { c with W := c.W.alloc (.cells arr' elem), I := fun k => c.I k ∨ k = c.W.heap.size }) ⟨e1, hg.os, hg.tape, hg.output, hg.size, fun k hk _ => grown_same hg hk, fun k hk => hk.elim .inl (fun e => .inr (.inr (by omega)))⟩ (fun _ _ h => h) ?_ hr.fresh ?_).sub (fun _ _ h => h) (fun _ h => h.1), hst, fun k h => .inl h, fun _ _ => rfl⟩
    · obtain ⟨d1, d2⟩ := mapM_some _ _ _ hd
      refine list_mk (fun _ => rfl) (Nat.le_refl _) (fun _ => ⟨.inr rfl, rfl⟩) fun j u hj => ?_
      have hjl : j < cs.length := by rw [d1]; exact (List.getElem?_eq_some_iff.1 hj).1
      obtain ⟨y, d3, d4⟩ := d2 j cs[j] (List.getElem?_eq_getElem hjl)
      rw [hj] at d4
      cases d4
      obtain ⟨x, h7, h8⟩ := h6.get (List.getElem?_eq_getElem hjl)
      refine ⟨x, ?_, ?_⟩
      · show (c.W.alloc (.cells arr' elem)).cell? ⟨c.W.heap.size, 0 + j, none⟩ = _
        rw [World.cell?_alloc_new, Nat.zero_add]
        exact h7
      · cases hcj : cs[j] with
        | d v =>
          rw [hcj] at d3 h8
          cases d3
          cases h8 with | d h8 => exact h8.mono e1.imm e1.same
        | _ => rw [hcj] at d3; cases d3
    · intro k hk
      have hs' : (c.W.alloc (.cells arr' elem)).heap.size = c.W.heap.size + 1 := by simp
      show k < (c.W.alloc (.cells arr' elem)).heap.size
      rcases hk with h | h
      · have := hr.immlt k h; omega
      · omega
    · intro k ⟨i, x, ba, h1, h2⟩ hk
      rcases hk with h | h
      · exact hr.notI i x k ba h1 h2 h
      · have := hlt k ⟨i, x, ba, h1, h2⟩; omega
  · refine done_new (arr := arr') (t := elem) hr hN (by rw [hal, hcl]; exact Nat.le_refl _) h6.2 hrun (vrel_new_ref (heap_alloc_new _ _) (Nat.le_refl _) (by rw [hal]; exact Nat.le_refl _))

theorem opD_make {t elem : TypeId} {x y : Operand} {sz by_ : Nat} {k k' : IntKind} {n m : Int} (hr : Rel get N c) (hN : N nid) (hρ : ∀ x, VRel c (ρp x) (ρv x)) (hop : o.op = .makeSlice t x y) (ht : P.underlying t = some (.slice elem)) (hx : ρp x = .d (.int k n)) (hy : ρp y = .d (.int k' m)) (hs : sz? P elem = some sz) {z : List PV} (hz : zero? P elem = some z)
    (hb : (P.info? elem).map (·.bytes) = some by_) (hzs : z.length = sz) (hsz : 0 < sz) (h0 : 0 ≤ n) (hnm : n ≤ m) (hmax : m.toNat * by_ ≤ maxBytes) (hm : m < 2 ^ 62) : Done c get N nid ((execOp ρv o).run P c.W) (.ref nid 0 n.toNat sz) (.new nid (.cells false ((List.replicate n.toNat z).flatten))) := by
  obtain ⟨i, zv, h1, h2, h3, h4⟩ := zero_spec hz c
  obtain ⟨ie, hie, hsz'⟩ := sz_spec hs
  rw [h1] at hie
  cases hie
  rw [h1] at hb
  simp only [Option.map_some, Option.some.injEq] at hb
  have hxv := int_inv (hx ▸ hρ x)
  have hyv := int_inv (hy ▸ hρ y)
  have hbb : (i.bytes : Int) * m ≤ 281474976710656 := by
    have : ((m.toNat * by_ : Nat) : Int) ≤ 140737488355328 := by unfold maxBytes at hmax; omega
    rw [hb]
    rw [Int.natCast_mul, Int.toNat_of_nonneg (by omega), Int.mul_comm] at this
    omega
  have hrun := run_make (P := P) c.W t elem i zv ht h1 h2 k k' n m h0 hnm hbb (by omega)
  have hle : n.toNat * sz ≤ m.toNat * sz := Nat.mul_le_mul_right _ (by omega)
  refine done_new (arr := madeCells zv.cells (m.toNat * i.size)) (t := elem) (rv := .slice (some ⟨c.W.heap.size, 0, none⟩) n.toNat m.toNat) hr hN (by rw [size_madeCells, rep_len, hzs, hsz']; exact hle) (fun j u hj => made_spec h3 (by omega) (by rw [hzs, hsz']; exact hle) j u hj) ?_ (vrel_new_ref (heap_alloc_new _ _) (by omega) (by rw [size_madeCells, hsz']; exact Nat.le_refl _))
  simp [execOp, hop, hxv, hyv, hrun]
end
end Go.Proofs.Ytpepghaknilmhaa.Vm
