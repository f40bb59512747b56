/- The machine of plain values: each operation does in Go's memory what the machine says. Written once for all seats. -/
import Derived.Test.YtpepghaknilmhaaVmB
import Derived.Orders
namespace Go.Proofs.Ytpepghaknilmhaa.Vm
open Go
set_option linter.unusedVariables false
set_option linter.unusedSimpArgs false

theorem toV1_spec {c : Cfg} {p : PV} {v u : Value} (h : VRel c p v) (e : p.toV1 = some u) : v = u := by
  cases h with
  | d h =>
    cases h with
    | bool b => simpa [PV.toV1] using e
    | int k n => simpa [PV.toV1] using e
    | str s => simpa [PV.toV1] using e
    | nil t => cases t <;> simp_all [PV.toV1]
    | list => simp [PV.toV1] at e
  | nilptr => simpa [PV.toV1] using e
  | nilfunc => simpa [PV.toV1] using e
  | nilmap => simpa [PV.toV1] using e
  | _ => simp [PV.toV1] at e
theorem mapM_some {α β : Type} (f : α → Option β) : ∀ (l : List α) (r : List β), l.mapM f = some r → l.length = r.length ∧ ∀ (j : Nat) (x : α), l[j]? = some x → ∃ y, f x = some y ∧ r[j]? = some y := by
  intro l
  induction l with
  | nil => intro r h; simp at h; subst h; exact ⟨rfl, fun j x h => by simp at h⟩
  | cons a l ih =>
    intro r h
    rw [List.mapM_cons] at h
    cases ha : f a with
    | none => simp [ha] at h
    | some y =>
      cases hl : l.mapM f with
      | none => simp [ha, hl] at h
      | some ys =>
        simp [ha, hl] at h
        subst h
        obtain ⟨h1, h2⟩ := ih ys hl
        refine ⟨by simp [h1], fun j x hj => ?_⟩
        cases j with
        | zero => simp at hj; subst hj; exact ⟨y, ha, rfl⟩
        | succ j => simpa using h2 j x (by simpa using hj)
theorem toV_spec {c : Cfg} {p : PV} {v u : Value} (h : VRel c p v) (e : p.toV = some u) : v = u := by
  cases p with
  | agg cs =>
    cases h with
    | @agg _ vs hs hv =>
      simp only [PV.toV, Option.map_eq_some_iff] at e
      obtain ⟨us, h1, rfl⟩ := e
      obtain ⟨h2, h3⟩ := mapM_some _ _ _ h1
      congr 1
      apply Array.ext
      · simp [hs, h2]
      · intro j hj1 hj2
        have hjl : j < cs.length := hs ▸ hj1
        obtain ⟨y, h4, h5⟩ := h3 j cs[j] (List.getElem?_eq_getElem hjl)
        have h6 := hv j cs[j] (List.getElem?_eq_getElem hjl)
        have h7 := toV1_spec h6 h4
        rw [Array.getD_eq_getD_getElem?, Array.getElem?_eq_getElem hj1] at h7
        simp only [Option.getD_some] at h7
        rw [h7]
        have := List.getElem?_eq_some_iff.1 h5
        simp [this.2]
  | _ => exact toV1_spec h e

theorem ofConst1_spec (c : Cfg) (v : Value) : VRel c (ofConst1 v) v := by
  unfold ofConst1
  split <;> first | exact .d (.bool _) | exact .d (.int _ _) | exact .d (.str _) | exact .d (.nil _ 0 (fun _ => rfl)) | exact .nilptr | exact .nilfunc | exact .nilmap | exact .undef _
theorem ofConst_spec (c : Cfg) (v : Value) : VRel c (ofConst v) v := by
  unfold ofConst
  split
  · rename_i cs
    refine .agg (by simp) fun j u hj => ?_
    rw [List.getElem?_map, Array.getElem?_toList] at hj
    obtain ⟨x, h1, rfl⟩ := Option.map_eq_some_iff.1 hj
    rw [Array.getD_eq_getD_getElem?, h1]
    exact ofConst1_spec c x
  · exact ofConst1_spec c _

theorem calm_run {α : Type} {P : Program} : ∀ (e : Sem α) {a : α} (w : World), calm P e = some a → e.run P w = .ok a w
  | .pure a, b, w, h => by simp only [calm, Option.some.injEq] at h; subst h; rfl
  | .program k, b, w, h => calm_run (k P) w h
  | .mark m k, b, w, h => calm_run k w h
  | .load .., _, _, h => by simp [calm] at h
  | .store .., _, _, h => by simp [calm] at h
  | .new .., _, _, h => by simp [calm] at h
  | .shape .., _, _, h => by simp [calm] at h
  | .freeze .., _, _, h => by simp [calm] at h
  | .frozen .., _, _, h => by simp [calm] at h
  | .getObj .., _, _, h => by simp [calm] at h
  | .setObj .., _, _, h => by simp [calm] at h
  | .choose .., _, _, h => by simp [calm] at h
  | .sys .., _, _, h => by simp [calm] at h
  | .halt .., _, _, h => by simp [calm] at h

theorem one_cell {c : Cfg} {p : PV} {v : Value} (h : VRel c p v) (h1 : p.one = true) : v.oneCell' = true ∧ v.cells = #[v] := by
  cases h with
  | d h => cases h <;> exact ⟨rfl, rfl⟩
  | undef | agg | tuple => simp [PV.one] at h1
  | _ => exact ⟨rfl, rfl⟩
theorem cells_spec {c : Cfg} {p : PV} {v : Value} {cs : List PV} (h : VRel c p v) (e : p.cells? = some cs) : VL c cs v.cells ∧ ∀ u ∈ cs, u.one = true := by
  have hone : ∀ {p : PV} {v : Value}, VRel c p v → p.one = true → VL c [p] v.cells ∧ ∀ u ∈ [p], u.one = true := fun {p v} h h1 => by
    refine ⟨?_, by simpa using h1⟩
    rw [(one_cell h h1).2]
    refine ⟨rfl, fun j u hj => ?_⟩
    cases j with
    | zero => simp at hj; subst hj; exact h
    | succ j => simp at hj
  cases p with
  | agg l =>
    simp only [PV.cells?] at e
    split at e
    · rename_i hall
      cases e
      cases h with
      | agg hs hv => exact ⟨⟨hs, hv⟩, List.all_eq_true.1 hall⟩
    · cases e
  | _ =>
    simp only [PV.cells?, PV.one, if_true, Bool.false_eq_true, if_false, Option.some.injEq, reduceCtorEq] at e
    try (subst e; exact hone h rfl)

/-- What an operation comes to. -/
def Done (c : Cfg) (get : Nat → Option Obj) (N : Nat → Prop) (nid : Nat) (s : Result Next) (v : PV) (e : Eff) : Prop :=
  ∃ c' nx, s = .ok nx c'.W ∧ ((∃ rv, nx = .value rv ∧ VRel c' v rv) ∨ (nx = .skip ∧ v = .undef)) ∧ Rel (fun i => e.at i (get i)) (fun i => N i ∧ i ≠ nid) c' ∧ Step (Lb get c) c c' ∧
    (∀ k, Lb (fun i => e.at i (get i)) c' k → Lb get c k ∨ c.W.heap.size ≤ k) ∧ ∀ i, i ≠ nid → c'.ρ i = c.ρ i

section
variable {P : Program} {c : Cfg} {get : Nat → Option Obj} {N : Nat → Prop} {nid : Nat} {ρp : Operand → PV} {ρv : Operand → Value}

theorem done_pure (hr : Rel get N c) {v : PV} {rv : Value} (hv : VRel c v rv) {s : Result Next} (hs : s = .ok (.value rv) c.W) : Done c get N nid s v .none :=
  ⟨c, _, hs, .inl ⟨rv, rfl, hv⟩, hr.sub (fun _ _ h => h) (fun _ h => h.1), Step.refl _ _, fun _ h => .inl h, fun _ _ => rfl⟩
theorem done_grown (hr : Rel get N c) (hN : N nid) {v : PV} {rv : Value} {bx : Bool} {cs : List PV} {g : Nat} {W' : World} (hg : c.W.grownBy W' none) (hge : c.W.heap.size ≤ g) {arr : Array Value} {t : TypeId} (hb : W'.heap[g]? = some (.cells arr t (0, 0)))
    (hl : cs.length ≤ arr.size) (hcs : ∀ j u, cs[j]? = some u → VRel c u (arr.getD j undef)) {s : Result Next} (hs : s = .ok (.value rv) W') (hv : VRel (c.named nid (g, 0) W') v rv) : Done c get N nid s v (.new nid (.cells bx cs)) ∧
    ∀ id, Done c get N nid s v (.mv id nid (.cells bx cs)) := by
  have e := ext_new (g := g) hg (hr.fresh nid hN) hr.immlt
  have hx : ORel (c.named nid (g, 0) W') (.cells bx cs) g 0 := by
    refine ⟨arr, t, hb, by omega, fun j u hj => ?_⟩
    rw [Nat.zero_add]
    exact (hcs j u hj).mono e
  have hrel := rel_new hr hN hg hge hx
  have hst := step_new (g := g) (Lb get c) hg (hr.fresh nid hN) hr.immlt
  refine ⟨⟨_, _, hs, .inl ⟨rv, rfl, hv⟩, hrel, hst, fun k h => lb_new hge k h, fun i hi => if_neg hi⟩, fun id => ?_⟩
  have hsub : ∀ i x, (Eff.mv id nid (.cells bx cs)).at i (get i) = some x → (if i = nid then some (Obj.cells bx cs) else get i) = some x := fun i x h => by
    simp only [Eff.at] at h
    by_cases h1 : i = nid
    · rw [if_pos h1] at h ⊢; exact h
    · rw [if_neg h1] at h ⊢
      by_cases h2 : i = id
      · rw [if_pos h2] at h; cases h
      · rw [if_neg h2] at h; exact h
  exact ⟨_, _, hs, .inl ⟨rv, rfl, hv⟩, hrel.sub hsub (fun _ h => h), hst, fun k ⟨i, o, ba, h1, h2⟩ => lb_new hge k ⟨i, o, ba, hsub i o h1, h2⟩, fun i hi => if_neg hi⟩
theorem done_new (hr : Rel get N c) (hN : N nid) {v : PV} {rv : Value} {bx : Bool} {cs : List PV} {arr : Array Value} {t : TypeId} (hl : cs.length ≤ arr.size) (hcs : ∀ j u, cs[j]? = some u → VRel c u (arr.getD j undef))
    {s : Result Next} (hs : s = .ok (.value rv) (c.W.alloc (.cells arr t))) (hv : VRel (c.named nid (c.W.heap.size, 0) (c.W.alloc (.cells arr t))) v rv) : Done c get N nid s v (.new nid (.cells bx cs)) :=
  (done_grown hr hN (grown_alloc _ _) (Nat.le_refl _) (heap_alloc_new _ _) hl hcs hs hv).1
theorem vrel_new_ref {g : Nat} {W' : World} {arr : Array Value} {t : TypeId} {n cap sz : Nat} (hb : W'.heap[g]? = some (.cells arr t (0, 0))) (hn : n ≤ cap) (hs : cap * sz ≤ arr.size) : VRel (c.named nid (g, 0) W') (.ref nid 0 n sz) (.slice (some ⟨g, 0, none⟩) n cap) :=
  .ref (base := 0) (bs := arr.size) (if_pos rfl) hn ⟨arr, t, hb, rfl⟩ (by omega)
theorem vrel_new_ptr {W : World} : VRel (c.named nid (c.W.heap.size, 0) W) (.ptr nid 0) (.pointer (some ⟨c.W.heap.size, 0, none⟩)) :=
  .ptr (base := 0) (if_pos rfl)

theorem zero_spec {t : TypeId} {cs : List PV} (h : zero? P t = some cs) (c : Cfg) : ∃ i z, P.info? t = some i ∧ i.zero = some z ∧ VL c cs z.cells ∧ ∀ u ∈ cs, u.one = true := by
  unfold zero? at h
  obtain ⟨z, h1, h2⟩ := Option.bind_eq_some_iff.1 h
  obtain ⟨i, h3, h4⟩ := Option.bind_eq_some_iff.1 h1
  exact ⟨i, z, h3, h4, cells_spec (ofConst_spec c z) h2⟩
theorem sz_spec {t : TypeId} {n : Nat} (h : sz? P t = some n) : ∃ i, P.info? t = some i ∧ i.size = n := Option.map_eq_some_iff.1 h

theorem agg_spec {t : TypeId} {b : Bool} (h : agg? P t = some b) (w : World) : (isAgg t).run P w = .ok b w := by
  unfold agg? at h
  unfold isAgg
  split at h
  · rename_i h1; cases h; simp [run_underlying h1]
  · rename_i h1; cases h; simp [run_underlying h1]
  · rename_i d h2 h3 h1
    cases h
    rw [Sem.run_bind, run_underlying h1]
    simp only [Result.andThen_ok]
    cases d <;> first | rfl | exact absurd rfl (h2 _) | exact absurd rfl (h3 _ _)
  · cases h

/-- Reading a variable. -/
theorem read_spec {t : TypeId} {cs : List PV} {off : Nat} {v : PV} (h : readAt P t cs off = some v) {b o : Nat} (hc : ∀ j u, cs[j]? = some u → ∃ x, c.W.cell? ⟨b, o + j, none⟩ = some x ∧ VRel c u x) :
    ∃ rv, (loadVar t ⟨b, o + off, none⟩).run P c.W = .ok rv c.W ∧ VRel c v rv := by
  unfold readAt at h
  split at h
  · rename_i n ha hs
    split at h
    · rename_i hle
      cases h
      obtain ⟨i, hi, hsz⟩ := sz_spec hs
      have hg : ∀ j, j < n → ∃ x, c.W.cell? ⟨b, o + off + j, none⟩ = some x ∧ ∀ u, cs[off + j]? = some u → VRel c u x := fun j hj => by
        have hlt : off + j < cs.length := by omega
        obtain ⟨x, h1, h2⟩ := hc (off + j) cs[off + j] (List.getElem?_eq_getElem hlt)
        refine ⟨x, by rw [Nat.add_assoc]; exact h1, fun u hu => ?_⟩
        rw [List.getElem?_eq_getElem hlt] at hu
        cases hu
        exact h2
      obtain ⟨f, hf⟩ : ∃ f : Nat → Value, ∀ j, j < n → c.W.cell? ⟨b, o + off + j, none⟩ = some (f j) ∧ ∀ u, cs[off + j]? = some u → VRel c u (f j) :=
        ⟨fun j => if hj : j < n then Classical.choose (hg j hj) else undef, fun j hj => by simp only [dif_pos hj]; exact Classical.choose_spec (hg j hj)⟩
      have hl := run_loadCells_list (P := P) (w := c.W) ⟨b, o + off, none⟩ ((List.range n).map f) (fun j v hj => by
        rw [List.getElem?_map] at hj
        obtain ⟨k, h1, rfl⟩ := Option.map_eq_some_iff.1 hj
        obtain ⟨h2, h3⟩ := List.getElem?_eq_some_iff.1 h1
        simp at h2 h3
        subst h3
        rw [Addr.add_lit]
        exact (hf j h2).1)
      simp only [List.length_map, List.length_range] at hl
      refine ⟨.agg ((List.range n).map f).toArray, ?_, .agg (by simp; omega) fun j u hj => ?_⟩
      · simp [loadVar, agg_spec ha, sizeOf, typeInfo, hi, hsz, hl]
      · rw [List.getElem?_take] at hj
        split at hj
        · rename_i hjn
          rw [List.getElem?_drop] at hj
          rw [Array.getD_eq_getD_getElem?, List.getElem?_toArray, List.getElem?_map, List.getElem?_range hjn]
          exact (hf j hjn).2 u hj
        · cases hj
    · cases h
  · rename_i n ha hs
    obtain ⟨x, h1, h2⟩ := hc off v h
    refine ⟨x, ?_, h2⟩
    simp [loadVar, agg_spec ha, h1]
  · cases h

theorem obj_cells {id : Nat} {bx : Bool} {cs : List PV} (hr : Rel get N c) (h : get id = some (.cells bx cs)) : ∃ b base arr t, c.ρ id = some (b, base) ∧ c.W.heap[b]? = some (.cells arr t (0, 0)) ∧ base + cs.length ≤ arr.size ∧
    (∀ j u, cs[j]? = some u → VRel c u (arr.getD (base + j) undef)) ∧ ∀ j u, cs[j]? = some u → ∃ x, c.W.cell? ⟨b, base + j, none⟩ = some x ∧ VRel c u x := by
  obtain ⟨b, base, h1, arr, t, h2, h3, h4⟩ := hr.live id _ h
  refine ⟨b, base, arr, t, h1, h2, h3, h4, fun j u hj => ?_⟩
  have hlt : base + j < arr.size := by have := (List.getElem?_eq_some_iff.1 hj).1; omega
  refine ⟨arr[base + j], ?_, ?_⟩
  · simp [World.cell?, h2, hlt]
  · have := h4 j u hj
    rwa [Array.getD_eq_getD_getElem?, Array.getElem?_eq_getElem hlt] at this
theorem ptr_inv {id off : Nat} {v : Value} {b base : Nat} (h : VRel c (.ptr id off) v) (hb : c.ρ id = some (b, base)) : v = .pointer (some ⟨b, base + off, none⟩) := by
  cases h with
  | ptr h => rw [hb] at h; cases h; rfl
theorem VL.toList {cs : List PV} {vs : Array Value} (h : VL c cs vs) : ∀ (j : Nat) (u : PV), cs[j]? = some u → ∃ v, vs.toList[j]? = some v ∧ VRel c u v := fun j u hj => by
  obtain ⟨v, h1, h2⟩ := h.get hj
  exact ⟨v, by rw [Array.getElem?_toList]; exact h1, h2⟩

/-- Cells are written. -/
theorem done_wr (hr : Rel get N c) {id off : Nat} {bx : Bool} {cs xs : List PV} (hg : get id = some (.cells bx cs)) (hle : off + xs.length ≤ cs.length) {vs : List Value} (hvl : vs.length = xs.length) (hvs : ∀ j u, xs[j]? = some u → VRel c u (vs.getD j undef)) (h1 : ∀ v ∈ vs, v.oneCell' = true)
    {b base : Nat} (hb : c.ρ id = some (b, base)) : ∃ c', (∀ i, (storeCells ⟨b, base + off, none⟩ vs i).run P c.W = .ok () c'.W ∨ i ≠ 0) ∧ Ext c c' ∧ Rel (fun i => (Eff.wr id off xs).at i (get i)) (fun i => N i ∧ i ≠ nid) c' ∧ Step (Lb get c) c c' ∧
      (∀ k, Lb (fun i => (Eff.wr id off xs).at i (get i)) c' k → Lb get c k ∨ c.W.heap.size ≤ k) ∧ ∀ i, c'.ρ i = c.ρ i := by
  obtain ⟨b', base', arr, t, h1', h2, h3, h4, h5⟩ := obj_cells hr hg
  rw [hb] at h1'
  cases h1'
  have hst := run_storeCells_at P b (base + off) t vs 0 arr c.W h2 (by omega) h1
  simp only [Nat.add_zero] at hst
  obtain ⟨new, hnew⟩ : ∃ new, (arr.toList.take (base + off) ++ vs ++ arr.toList.drop (base + off + vs.length)).toArray = new := ⟨_, rfl⟩
  rw [hnew] at hst
  have hsz : new.size = arr.size := by rw [← hnew]; simp; omega
  have hnj : ∀ j, new[j]? = if j < base + off then arr[j]? else if j < base + off + vs.length then vs[j - (base + off)]? else arr[j]? := fun j => by
    rw [← hnew, List.getElem?_toArray, List.append_assoc, List.getElem?_append, List.length_take]
    have hm : min (base + off) arr.toList.length = base + off := by simp; omega
    rw [hm]
    by_cases e : j < base + off
    · rw [if_pos e, if_pos e, List.getElem?_take, if_pos e, Array.getElem?_toList]
    · rw [if_neg e, if_neg e, List.getElem?_append]
      by_cases e2 : j < base + off + vs.length
      · rw [if_pos e2, if_pos (by omega)]
      · rw [if_neg e2, if_neg (by omega), List.getElem?_drop, Array.getElem?_toList]
        congr 1
        omega
  have he := ext_row hr hg hb h2 hsz
  have hfun : (fun i => (Eff.wr id off xs).at i (get i)) = fun i => if i = id then some (.cells bx (splice cs off xs)) else if i = id then none else get i := by
    funext i
    simp only [Eff.at]
    by_cases e : i = id
    · subst e; simp [hg]
    · simp [e]
  refine ⟨{ c with W := c.W.setRow b new }, fun i => ?_, he, ?_, step_row hr hg hb h2 hsz, ?_, fun _ => rfl⟩
  · by_cases hi : i = 0
    · subst hi; exact .inl hst
    · exact .inr hi
  · rw [hfun]
    have hrel := fun hy => rel_row (y := .cells bx (splice cs off xs)) (base := base) (base' := base) (c' := { c with W := c.W.setRow b new }) hr hg hb h2 hsz rfl rfl he (fun _ _ => rfl) hb (.inl rfl) hy
    refine (hrel ?_).sub (fun _ _ h => h) (fun i hi => ⟨hi.1, fun e => by have := hr.fresh i hi.1; rw [e, hb] at this; cases this⟩)
    refine ⟨new, t, setRow_heap _ _ _ _ _ _ h2, by rw [splice_length hle, hsz]; exact h3, fun j u hj => ?_⟩
    rw [splice_get hle] at hj
    rw [Array.getD_eq_getD_getElem?, hnj]
    by_cases e : j < off
    · rw [if_pos e] at hj
      rw [if_pos (by omega), ← Array.getD_eq_getD_getElem?]
      exact (h4 j u hj).mono he
    · rw [if_neg e] at hj
      rw [if_neg (by omega)]
      by_cases e2 : j < off + xs.length
      · rw [if_pos e2] at hj
        rw [if_pos (by omega)]
        have := hvs (j - off) u hj
        rw [List.getD_eq_getElem?_getD] at this
        rw [show base + j - (base + off) = j - off from by omega]
        exact this.mono he
      · rw [if_neg e2] at hj
        rw [if_neg (by omega), ← Array.getD_eq_getD_getElem?]
        exact (h4 j u hj).mono he
  · intro k hk
    obtain ⟨i, o, ba, g1, g2⟩ := hk
    have g1 : (fun i => (Eff.wr id off xs).at i (get i)) i = some o := g1
    rw [hfun] at g1
    simp only at g1
    by_cases e : i = id
    · subst e; exact .inl ⟨i, _, ba, hg, g2⟩
    · rw [if_neg e, if_neg e] at g1; exact .inl ⟨i, o, ba, g1, g2⟩
end
end Go.Proofs.Ytpepghaknilmhaa.Vm
