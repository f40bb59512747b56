/- The machine of plain values: one operation. Written once for all seats. -/
import Derived.Test.YtpepghaknilmhaaVmC
namespace Go.Proofs.Ytpepghaknilmhaa.Vm
open Go
set_option linter.unusedVariables false
set_option linter.unusedSimpArgs false

section
variable {P : Program} {c : Cfg} {get : Nat → Option Obj} {N : Nat → Prop} {nid : Nat} {ρp : Operand → PV} {ρv : Operand → Value} {o : Oper}

theorem int_inv {k : IntKind} {n : Int} {v : Value} (h : VRel c (.d (.int k n)) v) : v = .int k n := by
  cases h with | d h => cases h; rfl
theorem bool_inv {b : Bool} {v : Value} (h : VRel c (.d (.bool b)) v) : v = .bool b := by
  cases h with | d h => cases h; rfl

theorem opD_pick {x a b : Operand} (hr : Rel get N c) (hρ : ∀ x, VRel c (ρp x) (ρv x)) (hop : o.op = .pick x a b) {t : Bool} (hx : ρp x = .d (.bool t)) : Done c get N nid ((execOp ρv o).run P c.W) (if t then ρp a else ρp b) .none := by
  have h1 := bool_inv (hx ▸ hρ x)
  refine done_pure (rv := if t then ρv a else ρv b) hr ?_ ?_
  · cases t
    · exact hρ b
    · exact hρ a
  · simp [execOp, hop, h1, asBool]

theorem opD_alloc {elem : TypeId} (hr : Rel get N c) (hN : N nid) (hop : o.op = .alloc elem) {cs : List PV} (hz : zero? P elem = some cs) : Done c get N nid ((execOp ρv o).run P c.W) (.ptr nid 0) (.new nid (.cells true cs)) := by
  obtain ⟨i, z, h1, h2, h3, h4⟩ := zero_spec hz c
  refine done_new (arr := z.cells) (t := elem) hr hN (by rw [h3.1]; exact Nat.le_refl _) h3.2 ?_ vrel_new_ptr
  simp [execOp, hop, Instr.alloc, zeroValue, typeInfo, h1, h2, newVar, newRow, run_newObj_alloc]

theorem opD_box {elem : TypeId} {x : Operand} (hr : Rel get N c) (hN : N nid) (hρ : ∀ x, VRel c (ρp x) (ρv x)) (hop : o.op = .box elem x) {cs : List PV} (hz : (ρp x).cells? = some cs) : Done c get N nid ((execOp ρv o).run P c.W) (.ptr nid 0) (.new nid (.cells true cs)) := by
  obtain ⟨h3, h4⟩ := cells_spec (hρ x) hz
  refine done_new (arr := (ρv x).cells) (t := elem) hr hN (by rw [h3.1]; exact Nat.le_refl _) h3.2 ?_ vrel_new_ptr
  simp [execOp, hop, Instr.box, newVar, newRow, run_newObj_alloc]

theorem opD_load_ptr {t : TypeId} {a : Operand} (hr : Rel get N c) (hρ : ∀ x, VRel c (ρp x) (ρv x)) (hop : o.op = .load t a) {id off : Nat} (ha : ρp a = .ptr id off) {bx : Bool} {cs : List PV} (hg : get id = some (.cells bx cs)) {v : PV}
    (hv : readAt P t cs off = some v) : Done c get N nid ((execOp ρv o).run P c.W) v .none := by
  obtain ⟨b, base, arr, ty, h1, h2, h3, h4, h5⟩ := obj_cells hr hg
  have hp := ptr_inv (ha ▸ hρ a) h1
  obtain ⟨rv, h6, h7⟩ := read_spec hv h5
  refine done_pure hr h7 ?_
  simp [execOp, hop, Instr.loadAt, hp, Instr.sureAddr, h6]
theorem rd_inv {cells : List DV} {v : Value} (h : VRel c (.rd cells) v) : ∃ b o, v = .pointer (some ⟨b, o, none⟩) ∧ (cells ≠ [] → c.I b) ∧ ∀ (j : Nat) (u : DV), cells[j]? = some u → ∃ x, c.W.cell? ⟨b, o + j, none⟩ = some x ∧ DRel c.I c.W u x := by
  cases h with | rd vals hI hc hv => exact ⟨_, _, rfl, hI, fun j u hj => ⟨_, hc j u hj, hv j u hj⟩⟩
theorem rd_mk {b o : Nat} {cells : List DV} (hI : cells ≠ [] → c.I b) (h : ∀ (j : Nat) (u : DV), cells[j]? = some u → ∃ x, c.W.cell? ⟨b, o + j, none⟩ = some x ∧ DRel c.I c.W u x) : VRel c (.rd cells) (.pointer (some ⟨b, o, none⟩)) := by
  have hg : ∀ j, ∃ x, ∀ u, cells[j]? = some u → c.W.cell? ⟨b, o + j, none⟩ = some x ∧ DRel c.I c.W u x := fun j => by
    cases hj : cells[j]? with
    | none => exact ⟨undef, fun u h => by cases h⟩
    | some u => obtain ⟨x, h1, h2⟩ := h j u hj; exact ⟨x, fun u' h => by cases h; exact ⟨h1, h2⟩⟩
  exact .rd (fun j => Classical.choose (hg j)) hI (fun j u hj => (Classical.choose_spec (hg j) u hj).1) (fun j u hj => (Classical.choose_spec (hg j) u hj).2)
theorem opD_load_rd {t : TypeId} {a : Operand} (hr : Rel get N c) (hρ : ∀ x, VRel c (ρp x) (ρv x)) (hop : o.op = .load t a) {cells : List DV} (ha : ρp a = .rd cells) {v : PV} (hv : readAt P t (cells.map .d) 0 = some v) :
    Done c get N nid ((execOp ρv o).run P c.W) v .none := by
  obtain ⟨b, off, hp, _, h5⟩ := rd_inv (ha ▸ hρ a)
  obtain ⟨rv, h6, h7⟩ := read_spec (c := c) hv (b := b) (o := off) (fun j u hj => by
    rw [List.getElem?_map] at hj
    obtain ⟨d, h1, rfl⟩ := Option.map_eq_some_iff.1 hj
    obtain ⟨x, h2, h3⟩ := h5 j d h1
    exact ⟨x, h2, .d h3⟩)
  rw [Nat.add_zero] at h6
  refine done_pure hr h7 ?_
  simp [execOp, hop, Instr.loadAt, hp, Instr.sureAddr, h6]

theorem opD_store {t : TypeId} {a x : Operand} (hr : Rel get N c) (hρ : ∀ x, VRel c (ρp x) (ρv x)) (hop : o.op = .store t a x) {id off : Nat} (ha : ρp a = .ptr id off) {bx : Bool} {cs xs : List PV} {n : Nat} (hg : get id = some (.cells bx cs)) (hx : (ρp x).cells? = some xs)
    (hs : sz? P t = some n) (hn : xs.length = n) (hle : off + n ≤ cs.length) : Done c get N nid ((execOp ρv o).run P c.W) .undef (.wr id off xs) := by
  obtain ⟨b, base, arr, ty, h1, h2, h3, h4, h5⟩ := obj_cells hr hg
  have hp := ptr_inv (ha ▸ hρ a) h1
  obtain ⟨hvl, hone⟩ := cells_spec (hρ x) hx
  obtain ⟨i, hi, hsz⟩ := sz_spec hs
  obtain ⟨c', hrun, he, hr', hstep, hlb, hro⟩ := done_wr (P := P) (nid := nid) (off := off) (xs := xs) hr hg (by omega) (vs := (ρv x).cells.toList) (by simp [hvl.1]) (fun j u hj => by
    obtain ⟨v, h6, h7⟩ := hvl.toList j u hj
    rw [List.getD_eq_getElem?_getD, h6]; exact h7) (fun v hv => by
    obtain ⟨j, hj, rfl⟩ := List.mem_iff_getElem.1 hv
    have hjl : j < xs.length := by rw [← hvl.1]; simpa using hj
    obtain ⟨v, h6, h7⟩ := hvl.toList j _ (List.getElem?_eq_getElem hjl)
    rw [List.getElem?_eq_getElem hj] at h6
    cases h6
    exact (one_cell h7 (hone _ (List.getElem_mem hjl))).1) h1
  have hrun := (hrun 0).resolve_right (fun h => h rfl)
  refine ⟨c', .skip, ?_, .inr ⟨rfl, rfl⟩, hr', hstep, hlb, fun i _ => hro i⟩
  have hc : (ρv x).cells.size = i.size := by rw [hvl.1, hn, hsz]
  simp [execOp, hop, Instr.storeAt, hp, Instr.sureAddr, storeVar, sizeOf, typeInfo, hi, hc, hrun]

theorem opD_nil {x : Operand} (hr : Rel get N c) (hρ : ∀ x, VRel c (ρp x) (ρv x)) (hop : o.op = .nilCheck x) (h : (∃ id off, ρp x = .ptr id off) ∨ (∃ cells, ρp x = .rd cells) ∨ ∃ f caps, ρp x = .func f caps) : Done c get N nid ((execOp ρv o).run P c.W) (ρp x) .none := by
  refine done_pure hr (hρ x) ?_
  have hx := hρ x
  have key : ∀ v, VRel c (ρp x) v → ρv x = v → (execOp ρv o).run P c.W = .ok (.value v) c.W := fun v hx e => by
    rcases h with ⟨id, off, h⟩ | ⟨cells, h⟩ | ⟨f, caps, h⟩ <;> rw [h] at hx <;> cases hx <;> simp [execOp, hop, e]
  exact key _ hx rfl

theorem drop_get {α : Type} (l : List α) (k j : Nat) : (l.drop k)[j]? = l[k + j]? := List.getElem?_drop
theorem opD_field {s : TypeId} {x : Operand} {f : Nat} (hr : Rel get N c) (hρ : ∀ x, VRel c (ρp x) (ρv x)) (hop : o.op = .fieldAddr s x f) {fields : Array Field} {fl : Field} {n : Nat} (hs : P.underlying s = some (.struct fields)) (hf : fields[f]? = some fl)
    (hn : sz? P fl.type = some n) (hn0 : n ≠ 0) {v : PV} (hv : (match ρp x with | .ptr id off => some (.ptr id (off + fl.offset)) | .rd cells => some (.rd (cells.drop fl.offset)) | _ => none) = some v) : Done c get N nid ((execOp ρv o).run P c.W) v .none := by
  have hx := hρ x
  obtain ⟨i, hi, hsz⟩ := sz_spec hn
  cases hp : ρp x with
  | ptr id off =>
    rw [hp] at hx hv
    cases hv
    cases hxx : ρv x with
    | pointer a =>
      rw [hxx] at hx
      cases hx with
      | @ptr _ _ b base h =>
        refine done_pure (rv := .pointer (some ⟨b, base + (off + fl.offset), none⟩)) hr (.ptr h) ?_
        have h0 : i.size ≠ 0 := by omega
        simp [execOp, hop, Instr.fieldAt, run_underlying hs, hf, hxx, Instr.sureAddr, fieldPlace, sizeOf, typeInfo, hi, h0, Addr.add_lit, Nat.add_assoc]
    | _ => rw [hxx] at hx; cases hx
  | rd cells =>
    rw [hp] at hx hv
    cases hv
    obtain ⟨b, o', hp', h1, h2⟩ := rd_inv hx
    refine done_pure (rv := .pointer (some ⟨b, o' + fl.offset, none⟩)) hr (rd_mk (fun hne => h1 (fun e => hne (by rw [e]; simp))) (fun j u hj => ?_)) ?_
    · rw [drop_get] at hj
      rw [Nat.add_assoc]
      exact h2 _ u hj
    · have h0 : i.size ≠ 0 := by omega
      simp [execOp, hop, Instr.fieldAt, run_underlying hs, hf, hp', Instr.sureAddr, fieldPlace, sizeOf, typeInfo, hi, h0, Addr.add_lit]
  | _ => rw [hp] at hv; cases hv

theorem opD_index_arr {t elem : TypeId} {x ix : Operand} {len sz : Nat} {k : IntKind} {i : Int} (hr : Rel get N c) (hρ : ∀ x, VRel c (ρp x) (ρv x)) (hop : o.op = .indexAddr t x ix) (hi : ρp ix = .d (.int k i)) (ht : P.underlying t = some (.array len elem)) (hz : sz? P elem = some sz)
    (h0 : 0 ≤ i ∧ i < len) {v : PV} (hv : (match ρp x with | .ptr id off => some (.ptr id (off + i.toNat * sz)) | .rd cells => some (.rd (cells.drop (i.toNat * sz))) | _ => none) = some v) : Done c get N nid ((execOp ρv o).run P c.W) v .none := by
  have hx := hρ x
  have hiv := int_inv (hi ▸ hρ ix)
  obtain ⟨inf, hinf, hsz⟩ := sz_spec hz
  cases hp : ρp x with
  | ptr id off =>
    rw [hp] at hx hv
    cases hv
    cases hxx : ρv x with
    | pointer a =>
      rw [hxx] at hx
      cases hx with
      | @ptr _ _ b base h =>
        refine done_pure (rv := .pointer (some ⟨b, base + (off + i.toNat * sz), none⟩)) hr (.ptr h) ?_
        simp [execOp, hop, Instr.indexAt, hiv, asIntOf, run_underlying ht, hxx, Instr.sureAddr, sizeOf, typeInfo, hinf, hsz, h0.1, h0.2, Addr.add_lit, Nat.add_assoc]
    | _ => rw [hxx] at hx; cases hx
  | rd cells =>
    rw [hp] at hx hv
    cases hv
    obtain ⟨b, o', hp', h1, h2⟩ := rd_inv hx
    refine done_pure (rv := .pointer (some ⟨b, o' + i.toNat * sz, none⟩)) hr (rd_mk (fun hne => h1 (fun e => hne (by rw [e]; simp))) (fun j u hj => ?_)) ?_
    · rw [drop_get] at hj
      rw [Nat.add_assoc]
      exact h2 _ u hj
    · simp [execOp, hop, Instr.indexAt, hiv, asIntOf, run_underlying ht, hp', Instr.sureAddr, sizeOf, typeInfo, hinf, hsz, h0.1, h0.2, Addr.add_lit]
  | _ => rw [hp] at hv; cases hv

theorem list_inv {nl tight : Bool} {n : Nat} {cells : List DV} {v : Value} (h : VRel c (.d (.list nl tight n cells)) v) : (nl = true ∧ n = 0 ∧ cells = [] ∧ ∃ cap, v = .slice none 0 cap ∧ (tight = true → cap = 0)) ∨
    ∃ ad cap, nl = false ∧ v = .slice (some ad) n cap ∧ (tight = true → cap = n) ∧ n ≤ cap ∧ (cells ≠ [] → c.I ad.block ∧ ad.spot = none) ∧ ∀ (j : Nat) (u : DV), cells[j]? = some u → ∃ x, c.W.cell? ⟨ad.block, ad.off + j, none⟩ = some x ∧ DRel c.I c.W u x := by
  cases h with
  | d h => cases h with
    | nil t c h => exact .inl ⟨rfl, rfl, rfl, c, rfl, h⟩
    | list vals ht hn hI hc hv => exact .inr ⟨_, _, rfl, rfl, ht, hn, hI, fun j u hj => ⟨_, hc j u hj, hv j u hj⟩⟩
theorem list_mk {tight : Bool} {n cap : Nat} {cells : List DV} {ad : Addr} (ht : tight = true → cap = n) (hn : n ≤ cap) (hI : cells ≠ [] → c.I ad.block ∧ ad.spot = none)
    (h : ∀ (j : Nat) (u : DV), cells[j]? = some u → ∃ x, c.W.cell? ⟨ad.block, ad.off + j, none⟩ = some x ∧ DRel c.I c.W u x) : VRel c (.d (.list false tight n cells)) (.slice (some ad) n cap) := by
  have hg : ∀ j, ∃ x, ∀ u, cells[j]? = some u → c.W.cell? ⟨ad.block, ad.off + j, none⟩ = some x ∧ DRel c.I c.W u x := fun j => by
    cases hj : cells[j]? with
    | none => exact ⟨undef, fun u h => by cases h⟩
    | some u => obtain ⟨x, h1, h2⟩ := h j u hj; exact ⟨x, fun u' h => by cases h; exact ⟨h1, h2⟩⟩
  exact .d (.list (fun j => Classical.choose (hg j)) ht hn hI (fun j u hj => (Classical.choose_spec (hg j) u hj).1) (fun j u hj => (Classical.choose_spec (hg j) u hj).2))
theorem ref_inv {id off n sz : Nat} {v : Value} (h : VRel c (.ref id off n sz) v) : ∃ b base cap bs, c.ρ id = some (b, base) ∧ v = .slice (some ⟨b, base + off, none⟩) n cap ∧ n ≤ cap ∧ Shape c.W b bs ∧ base + off + cap * sz ≤ bs := by
  cases h with | ref h hn hs hb => exact ⟨_, _, _, _, h, rfl, hn, hs, hb⟩
theorem add_lit' (ad : Addr) (h : ad.spot = none) (k : Nat) : ad.add k = ⟨ad.block, ad.off + k, none⟩ := by
  cases ad; simp only at h; subst h; exact Addr.add_lit _ _ _

theorem opD_index_ref {t elem : TypeId} {x ix : Operand} {sz : Nat} {k : IntKind} {i : Int} (hr : Rel get N c) (hρ : ∀ x, VRel c (ρp x) (ρv x)) (hop : o.op = .indexAddr t x ix) (hi : ρp ix = .d (.int k i)) (ht : P.underlying t = some (.slice elem)) (hz : sz? P elem = some sz)
    {id off n : Nat} (hx : ρp x = .ref id off n sz) (h0 : 0 ≤ i ∧ i < n) : Done c get N nid ((execOp ρv o).run P c.W) (.ptr id (off + i.toNat * sz)) .none := by
  have hiv := int_inv (hi ▸ hρ ix)
  obtain ⟨inf, hinf, hsz⟩ := sz_spec hz
  obtain ⟨b, base, cap, bs, h1, h2, _⟩ := ref_inv (hx ▸ hρ x)
  refine done_pure (rv := .pointer (some ⟨b, base + (off + i.toNat * sz), none⟩)) hr (.ptr h1) ?_
  simp [execOp, hop, Instr.indexAt, hiv, asIntOf, run_underlying ht, h2, Instr.sureAddr, sizeOf, typeInfo, hinf, hsz, h0.1, h0.2, Addr.add_lit, Nat.add_assoc]
theorem opD_index_list {t elem : TypeId} {x ix : Operand} {sz : Nat} {k : IntKind} {i : Int} (hr : Rel get N c) (hρ : ∀ x, VRel c (ρp x) (ρv x)) (hop : o.op = .indexAddr t x ix) (hi : ρp ix = .d (.int k i)) (ht : P.underlying t = some (.slice elem)) (hz : sz? P elem = some sz)
    {nl tight : Bool} {n : Nat} {cells : List DV} (hx : ρp x = .d (.list nl tight n cells)) (hne : cells ≠ []) (h0 : 0 ≤ i ∧ i < n) : Done c get N nid ((execOp ρv o).run P c.W) (.rd (cells.drop (i.toNat * sz))) .none := by
  have hiv := int_inv (hi ▸ hρ ix)
  obtain ⟨inf, hinf, hsz⟩ := sz_spec hz
  rcases list_inv (hx ▸ hρ x) with ⟨_, rfl, _, _⟩ | ⟨ad, cap, rfl, h2, h3, h4, h5, h6⟩
  · omega
  have hsp := (h5 hne).2
  refine done_pure (rv := .pointer (some ⟨ad.block, ad.off + i.toNat * sz, none⟩)) hr (rd_mk (fun _ => (h5 hne).1) (fun j u hj => ?_)) ?_
  · rw [drop_get] at hj
    rw [Nat.add_assoc]
    exact h6 _ u hj
  · simp [execOp, hop, Instr.indexAt, hiv, asIntOf, run_underlying ht, h2, Instr.sureAddr, sizeOf, typeInfo, hinf, hsz, h0.1, h0.2, add_lit' ad hsp]

theorem part_spec {t : TypeId} {cs : List PV} {off : Nat} {v : PV} (h : readAt P t cs off = some v) {vs : Array Value} (hc : VL c cs vs) (w : World) : ∃ rv, (part t vs off).run P w = .ok rv w ∧ VRel c v rv := by
  unfold readAt at h
  split at h
  · rename_i n ha hs
    split at h
    · rename_i hle
      cases h
      obtain ⟨i, hi, hsz⟩ := sz_spec hs
      refine ⟨.agg (vs.extract off (off + n)), by simp [part, agg_spec ha, sizeOf, typeInfo, hi, hsz], .agg (by have := hc.1; simp; omega) fun j u hj => ?_⟩
      rw [List.getElem?_take] at hj
      split at hj
      · rename_i hjn
        rw [List.getElem?_drop] at hj
        obtain ⟨x, h1, h2⟩ := hc.get hj
        rw [Array.getD_eq_getD_getElem?, Array.getElem?_extract]
        have := hc.1
        rw [if_pos (by omega), h1]
        exact h2
      · cases hj
    · cases h
  · rename_i n ha hs
    obtain ⟨x, h1, h2⟩ := hc.get h
    exact ⟨x, by simp [part, agg_spec ha, h1], h2⟩
  · cases h
theorem opD_part {t : TypeId} {x : Operand} {f : Nat} (hr : Rel get N c) (hρ : ∀ x, VRel c (ρp x) (ρv x)) (hop : o.op = .field t x f) {fields : Array Field} {fl : Field} (ht : P.underlying t = some (.struct fields)) (hf : fields[f]? = some fl) {cs : List PV} (hx : ρp x = .agg cs) {v : PV}
    (hv : readAt P fl.type cs fl.offset = some v) : Done c get N nid ((execOp ρv o).run P c.W) v .none := by
  have h := hx ▸ hρ x
  cases hxx : ρv x with
  | agg vs =>
    rw [hxx] at h
    cases h with
    | agg hs hv' =>
      obtain ⟨rv, h1, h2⟩ := part_spec (c := c) hv ⟨hs, hv'⟩ c.W
      refine done_pure hr h2 ?_
      simp [execOp, hop, Instr.field, run_underlying ht, hf, hxx, asAgg, h1]
  | _ => rw [hxx] at h; cases h
theorem opD_extract {x : Operand} {i : Nat} (hr : Rel get N c) (hρ : ∀ x, VRel c (ρp x) (ρv x)) (hop : o.op = .extract x i) {cs : List PV} (hx : ρp x = .tuple cs) {v : PV} (hv : cs[i]? = some v) : Done c get N nid ((execOp ρv o).run P c.W) v .none := by
  have h := hx ▸ hρ x
  cases hxx : ρv x with
  | tuple vs =>
    rw [hxx] at h
    cases h with
    | tuple hs hv' =>
      obtain ⟨y, h1, h2⟩ := VL.get ⟨hs, hv'⟩ hv
      refine done_pure hr h2 ?_
      simp [execOp, hop, Instr.extract, hxx, h1]
  | _ => rw [hxx] at h; cases h
theorem opD_func {f : FuncId} {first caps : Array Operand} (hr : Rel get N c) (hρ : ∀ x, VRel c (ρp x) (ρv x)) (hop : o.op = .makeFunc (.func f) first caps) (h0 : first.size = 0) : Done c get N nid ((execOp ρv o).run P c.W) (.func f (caps.toList.map ρp)) .none := by
  have hf : first = #[] := Array.eq_empty_of_size_eq_zero h0
  subst hf
  refine done_pure (rv := .func (.func f) #[] (caps.map ρv)) hr (.func (by simp) fun j u hj => ?_) ?_
  · rw [List.getElem?_map, Array.getElem?_toList] at hj
    obtain ⟨x, h1, rfl⟩ := Option.map_eq_some_iff.1 hj
    rw [Array.getD_eq_getD_getElem?, Array.getElem?_map, h1]
    exact hρ x
  · simp [execOp, hop, Instr.makeFunc]
end
end Go.Proofs.Ytpepghaknilmhaa.Vm
