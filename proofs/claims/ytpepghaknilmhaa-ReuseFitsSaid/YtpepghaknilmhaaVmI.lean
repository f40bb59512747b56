/- The machine of plain values: rows are frozen, results come to the caller. Written once for all seats. -/
import Derived.Test.YtpepghaknilmhaaVmG
import Derived.Test.YtpepghaknilmhaaVmH
namespace Go.Proofs.Ytpepghaknilmhaa.Vm
open Go
set_option linter.unusedVariables false
set_option linter.unusedSimpArgs false

theorem data1_mono {c c' : Cfg} (hI : ∀ k, c.I k → c'.I k) (hs : ∀ k, c.I k → c'.W.heap[k]? = c.W.heap[k]?) {p : PV} {v : Value} (h : isData1 p = true) (hv : VRel c p v) : VRel c' p v := by
  cases hv with
  | d h => exact .d (h.mono hI hs)
  | nilptr => exact .nilptr
  | nilfunc => exact .nilfunc
  | nilmap => exact .nilmap
  | _ => simp [isData1] at h
theorem data_mono {c c' : Cfg} (hI : ∀ k, c.I k → c'.I k) (hs : ∀ k, c.I k → c'.W.heap[k]? = c.W.heap[k]?) {p : PV} {v : Value} (h : isData p = true) (hv : VRel c p v) : VRel c' p v := by
  cases p with
  | agg cs =>
    cases hv with
    | agg hz hv => exact .agg hz fun j u hj => data1_mono hI hs (List.all_eq_true.1 h u (List.mem_of_getElem? hj)) (hv j u hj)
  | _ => exact data1_mono hI hs h hv

/-- A list, worked off one by one. -/
theorem thread_sound {σ γ : Type} {f : σ → PV → Option (PV × σ)} (R : σ → γ → Prop) (E : σ → γ → σ → γ → Prop) (V V' : γ → PV → Value → Prop) (hrefl : ∀ x c, E x c x c) (htrans : ∀ {x c x1 c1 x2 c2}, E x c x1 c1 → E x1 c1 x2 c2 → E x c x2 c2)
    (hV : ∀ {x c x' c' p v}, R x c → E x c x' c' → V c p v → V c' p v) (hV' : ∀ {x c x' c' p v}, R x c → E x c x' c' → V' c p v → V' c' p v)
    (hf : ∀ x p p' x' c v, f x p = some (p', x') → R x c → V c p v → ∃ c', R x' c' ∧ E x c x' c' ∧ V' c' p' v) :
    ∀ (l : List PV) (x : σ) (l' : List PV) (x' : σ) (c : γ) (vs : Nat → Value), thread f x l = some (l', x') → R x c → (∀ (j : Nat) (p : PV), l[j]? = some p → V c p (vs j)) →
      ∃ c', R x' c' ∧ E x c x' c' ∧ l'.length = l.length ∧ ∀ (j : Nat) (p : PV), l'[j]? = some p → V' c' p (vs j)
  | [], x, l', x', c, vs, h, hR, hl => by
    simp only [thread, Option.some.injEq, Prod.mk.injEq] at h
    obtain ⟨rfl, rfl⟩ := h
    exact ⟨c, hR, hrefl _ _, rfl, fun j p h => by simp at h⟩
  | p :: l, x, l', x', c, vs, h, hR, hl => by
    simp only [thread] at h
    obtain ⟨⟨p1, x1⟩, h1, h⟩ := Option.bind_eq_some_iff.1 h
    obtain ⟨⟨l2, x2⟩, h2, h⟩ := Option.map_eq_some_iff.1 h
    simp only [Prod.mk.injEq] at h
    obtain ⟨rfl, rfl⟩ := h
    obtain ⟨c1, g1, g2, g3⟩ := hf x p p1 x1 c (vs 0) h1 hR (hl 0 p rfl)
    obtain ⟨c2, g4, g5, g6, g7⟩ := thread_sound R E V V' hrefl htrans hV hV' hf l x1 l2 x2 c1 (fun j => vs (j + 1)) h2 g1 (fun j q hj => hV hR g2 (hl (j + 1) q hj))
    refine ⟨c2, g4, htrans g2 g5, by simp [g6], fun j q hj => ?_⟩
    cases j with
    | zero => simp only [List.getElem?_cons_zero, Option.some.injEq] at hj; subst hj; exact hV' g1 g5 g3
    | succ j => exact g7 j q hj

/-- Objects are gone, their blocks may have become data. -/
def Frz (h : Heap) (c : Cfg) (h' : Heap) (c' : Cfg) : Prop :=
  c'.ρ = c.ρ ∧ c'.W = c.W ∧ (∀ j, c.I j → c'.I j) ∧ (∀ j, c'.I j → c.I j ∨ Lb h.get c j) ∧ ∀ i o, h'.get i = some o → h.get i = some o
theorem Frz.refl (h : Heap) (c : Cfg) : Frz h c h c := ⟨rfl, rfl, fun _ h => h, fun _ h => .inl h, fun _ _ h => h⟩
theorem Frz.lb {h h' : Heap} {c c' : Cfg} (e : Frz h c h' c') {k : Nat} (hk : Lb h'.get c' k) : Lb h.get c k := by
  obtain ⟨i, o, ba, h1, h2⟩ := hk
  rw [e.1] at h2
  exact ⟨i, o, ba, e.2.2.2.2 i o h1, h2⟩
theorem Frz.trans {h h1 h2 : Heap} {c c1 c2 : Cfg} (e : Frz h c h1 c1) (g : Frz h1 c1 h2 c2) : Frz h c h2 c2 :=
  ⟨g.1.trans e.1, g.2.1.trans e.2.1, fun j hj => g.2.2.1 j (e.2.2.1 j hj), fun j hj => (g.2.2.2.1 j hj).elim (e.2.2.2.1 j) (fun l => .inr (e.lb l)), fun i o hi => e.2.2.2.2 i o (g.2.2.2.2 i o hi)⟩
theorem Frz.ext {h h' : Heap} {c c' : Cfg} (e : Frz h c h' c') : Ext c c' :=
  ⟨fun i p hp => by rw [e.1]; exact hp, e.2.2.1, fun k _ => by rw [e.2.1], fun b bs hb => by rw [e.2.1]; exact hb, fun b L hL => by rw [e.2.1]; exact ⟨L, hL⟩⟩
theorem Frz.step {h h' : Heap} {c c' : Cfg} (e : Frz h c h' c') : Step (Lb h.get c) c c' :=
  ⟨e.ext, by rw [e.2.1], by rw [e.2.1], by rw [e.2.1], by rw [e.2.1]; exact Nat.le_refl _, fun k _ _ => by rw [e.2.1], fun k hk => (e.2.2.2.1 k hk).imp id .inl⟩

theorem del_sub {h : Heap} {a i : Nat} {o : Obj} (hi : (h.del a).get i = some o) : h.get i = some o := by
  rw [Heap.get_del] at hi
  split at hi
  · cases hi
  · exact hi
theorem frzC_sound (N : Nat → Prop) : ∀ (k : Nat) (h : Heap) (p p' : PV) (h' : Heap) (c : Cfg) (v : Value), frzC k h p = some (p', h') → Rel h.get N c → VRel c p v → ∃ c', Rel h'.get N c' ∧ Frz h c h' c' ∧ (VRel c' p' v ∧ isData1 p' = true)
  | 0, h, p, p', h', c, v, e, hr, hv => by simp [frzC] at e
  | k + 1, h, p, p', h', c, v, e, hr, hv => by
    unfold frzC at e
    split at e
    · rename_i id off n sz
      split at e
      · rename_i bx cs hg
        split at e
        · rename_i hle
          obtain ⟨⟨ps, h2⟩, h1, e⟩ := Option.bind_eq_some_iff.1 e
          obtain ⟨ds, hd, e⟩ := Option.map_eq_some_iff.1 e
          simp only [Prod.mk.injEq] at e
          obtain ⟨rfl, rfl⟩ := e
          obtain ⟨b, base, cap, bs, p1, rfl, p3, _⟩ := ref_inv hv
          obtain ⟨b', base', arr, t, g1, g2, g3, g4, g5⟩ := obj_cells hr hg
          rw [p1] at g1
          cases g1
          have hr1 : Rel (h.del id).get N c := hr.sub (fun i x hx => del_sub hx) (fun _ h => h)
          have hfr1 : Frz h c (h.del id) c := ⟨rfl, rfl, fun _ h => h, fun _ h => .inl h, fun i o hi => del_sub hi⟩
          obtain ⟨c1, q1, q2, q3, q4⟩ := thread_sound (f := frzC k) (fun h c => Rel h.get N c) Frz VRel (fun c p v => VRel c p v ∧ isData1 p = true) Frz.refl Frz.trans (fun _ e h => h.mono e.ext) (fun _ e h => ⟨h.1.mono e.ext, h.2⟩)
            (fun x p p' x' c v => frzC_sound N k x p p' x' c v) _ _ _ _ c (fun j => arr.getD (base + off + j) undef) h1 hr1 (fun j u hj => by
              rw [List.getElem?_take] at hj
              split at hj
              · rw [List.getElem?_drop] at hj
                rw [Nat.add_assoc]
                exact g4 _ u hj
              · cases hj)
          have hq := hfr1.trans q2
          obtain ⟨d1, d2⟩ := mapM_some _ _ _ hd
          have hpl : ps.length = n * sz := by rw [q3, List.length_take, List.length_drop]; omega
          refine ⟨{ c1 with I := fun j => c1.I j ∨ j = b }, ?_, ⟨hq.1, hq.2.1, fun j hj => .inl (hq.2.2.1 j hj), fun j hj => hj.elim (hq.2.2.2.1 j) (fun e => .inr ⟨id, _, base, hg, e ▸ p1⟩), hq.2.2.2.2⟩, ?_, rfl⟩
          · have hne : ∀ i o b1 ba, h2.get i = some o → c1.ρ i = some (b1, ba) → b1 ≠ b := fun i o b1 ba hi hb e => by
              have hi1 := q2.2.2.2.2 i o hi
              have hii : i ≠ id := fun e => by rw [e, Heap.get_del, if_pos rfl] at hi1; cases hi1
              rw [hq.1] at hb
              exact hii (hr.apart i id _ _ b ba base (hq.2.2.2.2 i o hi) hg (e ▸ hb) p1)
            have e1 : Ext c1 { c1 with I := fun j => c1.I j ∨ j = b } := ⟨fun _ _ h => h, fun _ h => .inl h, fun _ _ => rfl, fun _ _ h => h, fun _ L h => ⟨L, h⟩⟩
            refine ⟨fun i o hi => ?_, fun i j o o' b1 ba bb h1 h2 h3 h4 => q1.apart i j o o' b1 ba bb h1 h2 h3 h4, fun i o b1 ba hi hb hk => ?_, fun j hj => ?_, fun i hi => q1.fresh i hi⟩
            · obtain ⟨b1, ba, h3, h4⟩ := q1.live i o hi
              exact ⟨b1, ba, h3, h4.mono e1 rfl⟩
            · rcases hk with hk | hk
              · exact q1.notI i o b1 ba hi hb hk
              · exact hne i o b1 ba hi hb hk
            · rcases hj with hj | hj
              · exact q1.immlt j hj
              · subst hj
                show j < c1.W.heap.size
                rw [hq.2.1]
                exact (Array.getElem?_eq_some_iff.1 g2).1
          · refine list_mk (fun e => by cases e) p3 (fun _ => ⟨.inr rfl, rfl⟩) fun j u hj => ?_
            have hjl : j < ps.length := by rw [d1]; exact (List.getElem?_eq_some_iff.1 hj).1
            obtain ⟨y, d3, d4⟩ := d2 j ps[j] (List.getElem?_eq_getElem hjl)
            rw [hj] at d4
            cases d4
            have q5 := (q4 j ps[j] (List.getElem?_eq_getElem hjl)).1
            have hlt : base + off + j < arr.size := by omega
            refine ⟨arr[base + off + j], ?_, ?_⟩
            · show c1.W.cell? ⟨b, base + off + j, none⟩ = _
              rw [hq.2.1]
              simp [World.cell?, g2, hlt]
            · rw [Array.getD_eq_getD_getElem?, Array.getElem?_eq_getElem hlt] at q5
              cases hcj : ps[j] with
              | d v =>
                rw [hcj] at d3 q5
                cases d3
                cases q5 with | d h8 => exact h8.mono (fun _ h => .inl h) (fun _ _ => rfl)
              | _ => rw [hcj] at d3; cases d3
        · cases e
      · cases e
    · split at e
      · rename_i hd
        simp only [Option.some.injEq, Prod.mk.injEq] at e
        obtain ⟨rfl, rfl⟩ := e
        exact ⟨c, hr, Frz.refl _ _, hv, hd⟩
      · cases e

theorem frzV_sound (N : Nat → Prop) (k : Nat) (h : Heap) (p p' : PV) (h' : Heap) (c : Cfg) (v : Value) (e : frzV k h p = some (p', h')) (hr : Rel h.get N c) (hv : VRel c p v) : ∃ c', Rel h'.get N c' ∧ Frz h c h' c' ∧ (VRel c' p' v ∧ isData p' = true) := by
  cases p with
  | agg cs =>
    simp only [frzV] at e
    obtain ⟨⟨ps, h2⟩, h1, e⟩ := Option.map_eq_some_iff.1 e
    simp only [Prod.mk.injEq] at e
    obtain ⟨rfl, rfl⟩ := e
    cases hv with
    | @agg _ vs hs hv =>
      obtain ⟨c1, q1, q2, q3, q4⟩ := thread_sound (f := frzC k) (fun h c => Rel h.get N c) Frz VRel (fun c p v => VRel c p v ∧ isData1 p = true) Frz.refl Frz.trans (fun _ e h => h.mono e.ext) (fun _ e h => ⟨h.1.mono e.ext, h.2⟩)
        (fun x p p' x' c v => frzC_sound N k x p p' x' c v) _ _ _ _ c (fun j => vs.getD j undef) h1 hr (fun j u hj => hv j u hj)
      refine ⟨c1, q1, q2, .agg (by rw [hs, q3]) (fun j u hj => (q4 j u hj).1), ?_⟩
      exact List.all_eq_true.2 fun u hu => by
        obtain ⟨j, hj⟩ := List.mem_iff_getElem?.1 hu
        exact (q4 j u hj).2
  | _ =>
    obtain ⟨c', q1, q2, q3, q4⟩ := frzC_sound N k h _ p' h' c v e hr hv
    refine ⟨c', q1, q2, q3, ?_⟩
    cases p' <;> first | exact q4 | (simp [isData1] at q4)

/-- Callee and caller look at one world; their objects lie apart. -/
structure Two (B : Nat) (N : Nat → Prop) (x : Heap × St) (g : Cfg × Cfg) : Prop where
  ce : Rel x.1.get N g.1
  cr : Rel x.2.heap.get (x.2.next ≤ ·) g.2
  W : g.1.W = g.2.W
  I : g.1.I = g.2.I
  apart : ∀ k, Lb x.1.get g.1 k → ¬ Lb x.2.heap.get g.2 k
  new : ∀ k, Lb x.1.get g.1 k → B ≤ k
structure TwoE (x : Heap × St) (g : Cfg × Cfg) (x' : Heap × St) (g' : Cfg × Cfg) : Prop where
  f : Frz x.1 g.1 x'.1 g'.1
  W : g'.2.W = g.2.W
  e : Ext g.2 g'.2
  I : ∀ j, g'.2.I j → g.2.I j ∨ Lb x.1.get g.1 j
  lb : ∀ k, Lb x'.2.heap.get g'.2 k → Lb x.2.heap.get g.2 k ∨ Lb x.1.get g.1 k
  le : x.2.next ≤ x'.2.next
  old : ∀ i, i < x.2.next → g'.2.ρ i = g.2.ρ i
theorem TwoE.refl (x : Heap × St) (g : Cfg × Cfg) : TwoE x g x g := ⟨Frz.refl _ _, rfl, Ext.refl _, fun _ h => .inl h, fun _ h => .inl h, Nat.le_refl _, fun _ _ => rfl⟩
theorem TwoE.trans {x x1 x2 : Heap × St} {g g1 g2 : Cfg × Cfg} (h : TwoE x g x1 g1) (k : TwoE x1 g1 x2 g2) : TwoE x g x2 g2 :=
  ⟨h.f.trans k.f, k.W.trans h.W, h.e.trans k.e, fun j hj => (k.I j hj).elim (h.I j) (fun l => .inr (h.f.lb l)), fun j hj => (k.lb j hj).elim (h.lb j) (fun l => .inr (h.f.lb l)), Nat.le_trans h.le k.le, fun i hi => (k.old i (Nat.lt_of_lt_of_le hi h.le)).trans (h.old i hi)⟩

theorem adoptC_sound (B : Nat) (N : Nat → Prop) (k : Nat) (own : Bool) (x : Heap × St) (p p' : PV) (x' : Heap × St) (g : Cfg × Cfg) (v : Value) (e : adoptC k own x p = some (p', x')) (hr : Two B N x g) (hv : VRel g.1 p v) : ∃ g', Two B N x' g' ∧ TwoE x g x' g' ∧ VRel g'.2 p' v := by
  unfold adoptC at e
  split at e
  · rename_i id off n sz
    split at e
    · rename_i bx cs hg
      split at e
      · rename_i hle
        obtain ⟨⟨ps, h2⟩, h1, e⟩ := Option.bind_eq_some_iff.1 e
        obtain ⟨ds, hd, e⟩ := Option.map_eq_some_iff.1 e
        simp only [Prod.mk.injEq] at e
        obtain ⟨rfl, rfl⟩ := e
        obtain ⟨b, base, cap, bs, p1, rfl, p3, p4, p5⟩ := ref_inv hv
        obtain ⟨b', base', arr, t, g1, g2, g3, g4, g5⟩ := obj_cells hr.ce hg
        rw [p1] at g1
        cases g1
        have hr1 : Rel (x.1.del id).get N g.1 := hr.ce.sub (fun i x hx => del_sub hx) (fun _ h => h)
        have hfr1 : Frz x.1 g.1 (x.1.del id) g.1 := ⟨rfl, rfl, fun _ h => h, fun _ h => .inl h, fun i o hi => del_sub hi⟩
        obtain ⟨c1, q1, q2, q3, q4⟩ := thread_sound (f := frzC k) (fun h c => Rel h.get N c) Frz VRel (fun c p v => VRel c p v ∧ isData1 p = true) Frz.refl Frz.trans (fun _ e h => h.mono e.ext) (fun _ e h => ⟨h.1.mono e.ext, h.2⟩)
          (fun x p p' x' c v => frzC_sound N k x p p' x' c v) _ _ _ _ g.1 (fun j => arr.getD (base + off + j) undef) h1 hr1 (fun j u hj => by
            rw [List.getElem?_take] at hj
            split at hj
            · rw [List.getElem?_drop] at hj
              rw [Nat.add_assoc]
              exact g4 _ u hj
            · cases hj)
        have hq := hfr1.trans q2
        obtain ⟨d1, d2⟩ := mapM_some _ _ _ hd
        have hpl : ps.length = n * sz := by rw [q3, List.length_take, List.length_drop]; omega
        have hlive : Lb x.1.get g.1 b := ⟨id, _, base, hg, p1⟩
        have hWc : c1.W = g.2.W := hq.2.1.trans hr.W
        obtain ⟨c2, hc2⟩ : ∃ c2 : Cfg, c2 = { (g.2.named x.2.next (b, base + off) g.2.W) with I := c1.I } := ⟨_, rfl⟩
        have hf := hr.cr.fresh x.2.next (Nat.le_refl _)
        have hρ : ∀ i, i ≠ x.2.next → c2.ρ i = g.2.ρ i := fun i hi => by rw [hc2]; exact if_neg hi
        have hρ' : c2.ρ x.2.next = some (b, base + off) := by rw [hc2]; exact if_pos rfl
        have hW2 : c2.W = g.2.W := by rw [hc2]; rfl
        have hI2 : c2.I = c1.I := by rw [hc2]
        have hII : ∀ j, g.2.I j → c2.I j := fun j hj => by rw [hI2]; exact hq.2.2.1 j (by rw [hr.I]; exact hj)
        have hE : Ext g.2 c2 := by
          refine ⟨fun i p h => ?_, hII, fun k _ => by rw [hW2], fun b bs hb => by rw [hW2]; exact hb, fun b L hL => by rw [hW2]; exact ⟨L, hL⟩⟩
          rw [hρ i (fun e => by rw [e, hf] at h; cases h)]
          exact h
        have hInew : ∀ j, c2.I j → g.2.I j ∨ Lb x.1.get g.1 j := fun j hj => by
          rw [hI2] at hj
          have := hq.2.2.2.1 j hj
          rw [hr.I] at this
          exact this
        have hnb : ∀ i o b1 ba, h2.get i = some o → c1.ρ i = some (b1, ba) → b1 ≠ b := fun i o b1 ba hi hb e => by
          have hi1 := q2.2.2.2.2 i o hi
          have hii : i ≠ id := fun e => by rw [e, Heap.get_del, if_pos rfl] at hi1; cases hi1
          rw [hq.1] at hb
          exact hii (hr.ce.apart i id _ _ b ba base (hq.2.2.2.2 i o hi) hg (e ▸ hb) p1)
        have hbI : ¬ c1.I b := fun hb => by
          rcases q2.2.2.2.1 b hb with h | h
          · exact hr.ce.notI id _ b base hg p1 h
          · obtain ⟨i, o, ba, h3, h4⟩ := h
            have hii : i ≠ id := fun e => by rw [e, Heap.get_del, if_pos rfl] at h3; cases h3
            exact hii (hr.ce.apart i id _ _ b ba base (del_sub h3) hg h4 p1)
        have hdat : ∀ (j : Nat) (u : PV), (ds.map PV.d)[j]? = some u → VRel c2 u (arr.getD (base + off + j) undef) := fun j u hj => by
          rw [List.getElem?_map] at hj
          obtain ⟨y, h3, rfl⟩ := Option.map_eq_some_iff.1 hj
          have hjl : j < ps.length := by rw [d1]; exact (List.getElem?_eq_some_iff.1 h3).1
          obtain ⟨y', h4, h5⟩ := d2 j ps[j] (List.getElem?_eq_getElem hjl)
          rw [h3] at h5
          cases h5
          have q5 := q4 j ps[j] (List.getElem?_eq_getElem hjl)
          cases hcj : ps[j] with
          | d v =>
            rw [hcj] at h4 q5
            cases h4
            exact data1_mono (c := c1) (fun k hk => by rw [hI2]; exact hk) (fun k _ => by rw [hW2, hWc]) q5.2 q5.1
          | _ => rw [hcj] at h4; cases h4
        have hdl : (ds.map PV.d).length = n * sz := by rw [List.length_map, ← d1, hpl]
        have hlb2 : ∀ k, Lb (Heap.get ((x.2.next, Obj.cells false (ds.map .d)) :: x.2.heap)) c2 k → Lb x.2.heap.get g.2 k ∨ k = b := fun k ⟨i, o, ba, h3, h4⟩ => by
          rw [Heap.get_cons] at h3
          by_cases hi : x.2.next = i
          · subst hi
            rw [hρ'] at h4
            cases h4
            exact .inr rfl
          · rw [if_neg hi] at h3
            rw [hρ i (Ne.symm hi)] at h4
            exact .inl ⟨i, o, ba, h3, h4⟩
        refine ⟨(c1, c2), ⟨q1, ?_, hWc.trans hW2.symm, hI2.symm, ?_, fun k hk => hr.new k (hq.lb hk)⟩, ⟨hq, hW2, hE, hInew, fun k hk => (hlb2 k hk).elim .inl (fun e => .inr (by rw [e]; exact hlive)), Nat.le_succ _, fun i hi => hρ i (by omega)⟩, ?_⟩
        · refine ⟨fun i o hi => ?_, fun i j o o' b1 ba bb h3 h4 h5 h6 => ?_, fun i o b1 ba hi hb => ?_, fun j hj => ?_, fun i hi => ?_⟩
          · simp only [Heap.get_cons] at hi
            by_cases h : x.2.next = i
            · subst h
              rw [if_pos rfl] at hi
              cases hi
              refine ⟨b, base + off, hρ', arr, t, by rw [hW2, ← hr.W]; exact g2, by rw [hdl]; omega, hdat⟩
            · rw [if_neg h] at hi
              obtain ⟨b1, ba, h3, h4⟩ := hr.cr.live i o hi
              exact ⟨b1, ba, by rw [hρ i (Ne.symm h)]; exact h3, h4.mono hE (by rw [hW2])⟩
          · have hcase : ∀ i o b1 ba, Heap.get ((x.2.next, Obj.cells false (ds.map .d)) :: x.2.heap) i = some o → c2.ρ i = some (b1, ba) → i ≠ x.2.next → x.2.heap.get i = some o ∧ g.2.ρ i = some (b1, ba) ∧ b1 ≠ b := fun i o b1 ba h3 h4 hi => by
              rw [Heap.get_cons, if_neg (Ne.symm hi)] at h3
              rw [hρ i hi] at h4
              exact ⟨h3, h4, fun e => hr.apart b hlive ⟨i, o, ba, h3, e ▸ h4⟩⟩
            by_cases hi : i = x.2.next <;> by_cases hj : j = x.2.next
            · rw [hi, hj]
            · obtain ⟨_, _, hne⟩ := hcase j o' b1 bb h4 h6 hj
              rw [hi, hρ'] at h5
              cases h5
              exact absurd rfl hne
            · obtain ⟨_, _, hne⟩ := hcase i o b1 ba h3 h5 hi
              rw [hj, hρ'] at h6
              cases h6
              exact absurd rfl hne
            · obtain ⟨a1, a2, _⟩ := hcase i o b1 ba h3 h5 hi
              obtain ⟨a3, a4, _⟩ := hcase j o' b1 bb h4 h6 hj
              exact hr.cr.apart i j o o' b1 ba bb a1 a3 a2 a4
          · rw [hI2]
            by_cases h : i = x.2.next
            · rw [h, hρ'] at hb
              cases hb
              exact hbI
            · simp only [Heap.get_cons, if_neg (Ne.symm h)] at hi
              rw [hρ i h] at hb
              intro hI
              rcases hInew b1 (by rw [hI2]; exact hI) with hI | hI
              · exact hr.cr.notI i o b1 ba hi hb hI
              · exact hr.apart b1 hI ⟨i, o, ba, hi, hb⟩
          · rw [hW2, ← hWc]
            rw [hI2] at hj
            exact q1.immlt j hj
          · have hi' : x.2.next + 1 ≤ i := hi
            rw [hρ i (by omega)]
            exact hr.cr.fresh i (by show x.2.next ≤ i; omega)
        · intro k hk hk2
          rcases hlb2 k hk2 with h | h
          · exact hr.apart k (hq.lb hk) h
          · obtain ⟨i, o, ba, h3, h4⟩ := hk
            exact hnb i o k ba h3 h4 h
        · have := VRel.ref (c := c2) (id := x.2.next) (off := 0) (n := n) (sz := sz) hρ' p3 (bs := bs) (by rw [hW2, ← hr.W]; exact p4) (by omega)
          simpa using this
      · cases e
    · cases e
  · obtain ⟨⟨p1, h1⟩, hf, e⟩ := Option.map_eq_some_iff.1 e
    simp only [Prod.mk.injEq] at e
    obtain ⟨rfl, rfl⟩ := e
    obtain ⟨c1, q1, q2, q3, q4⟩ := frzC_sound N k x.1 p _ h1 g.1 v hf hr.ce hv
    obtain ⟨c2, hc2⟩ : ∃ c2 : Cfg, c2 = { g.2 with I := c1.I } := ⟨_, rfl⟩
    have hWc : c1.W = g.2.W := q2.2.1.trans hr.W
    have hE : Ext g.2 c2 := by
      rw [hc2]
      exact ⟨fun _ _ h => h, fun j hj => q2.2.2.1 j (by rw [hr.I]; exact hj), fun _ _ => rfl, fun _ _ h => h, fun _ L h => ⟨L, h⟩⟩
    have hInew : ∀ j, c1.I j → g.2.I j ∨ Lb x.1.get g.1 j := fun j hj => by
      have := q2.2.2.2.1 j hj
      rw [hr.I] at this
      exact this
    have hlbe : ∀ k, Lb x.2.heap.get c2 k → Lb x.2.heap.get g.2 k := fun k hk => by rw [hc2] at hk; exact hk
    refine ⟨(c1, c2), ⟨q1, ?_, by rw [hWc, hc2], by rw [hc2], fun k hk hk2 => hr.apart k (q2.lb hk) (hlbe k hk2), fun k hk => hr.new k (q2.lb hk)⟩, ⟨q2, by rw [hc2], hE, fun j hj => hInew j (by rw [hc2] at hj; exact hj), fun k hk => .inl (hlbe k hk), Nat.le_refl _, fun i _ => by rw [hc2]⟩, ?_⟩
    · refine ⟨fun i o hi => ?_, fun i j o o' b1 ba bb h3 h4 h5 h6 => hr.cr.apart i j o o' b1 ba bb h3 h4 (by rw [hc2] at h5; exact h5) (by rw [hc2] at h6; exact h6), fun i o b1 ba hi hb hI => ?_, fun j hj => ?_, fun i hi => by rw [hc2]; exact hr.cr.fresh i hi⟩
      · obtain ⟨b1, ba, h3, h4⟩ := hr.cr.live i o hi
        exact ⟨b1, ba, by rw [hc2]; exact h3, h4.mono hE (by rw [hc2])⟩
      · rw [hc2] at hb hI
        rcases hInew b1 hI with hI | hI
        · exact hr.cr.notI i o b1 ba hi hb hI
        · exact hr.apart b1 hI ⟨i, o, ba, hi, hb⟩
      · rw [hc2] at hj ⊢
        show j < g.2.W.heap.size
        rw [← hWc]
        exact q1.immlt j hj
    · exact data1_mono (c := c1) (fun k hk => by rw [hc2]; exact hk) (fun k _ => by rw [hc2, hWc]) q4 q3

theorem adopt_thread (B : Nat) (N : Nat → Prop) {f : Heap × St → PV → Option (PV × (Heap × St))} (hf : ∀ x p p' x' (g : Cfg × Cfg) v, f x p = some (p', x') → Two B N x g → VRel g.1 p v → ∃ g', Two B N x' g' ∧ TwoE x g x' g' ∧ VRel g'.2 p' v) (x : Heap × St) (cs ps : List PV) (x' : Heap × St) (g : Cfg × Cfg) (vs : Array Value)
    (e : thread f x cs = some (ps, x')) (hr : Two B N x g) (hs : vs.size = cs.length) (hv : ∀ j u, cs[j]? = some u → VRel g.1 u (vs.getD j undef)) : ∃ g', Two B N x' g' ∧ TwoE x g x' g' ∧ vs.size = ps.length ∧ ∀ j u, ps[j]? = some u → VRel g'.2 u (vs.getD j undef) := by
  obtain ⟨g1, q1, q2, q3, q4⟩ := thread_sound (f := f) (Two B N) TwoE (fun g p v => VRel g.1 p v) (fun g p v => VRel g.2 p v) TwoE.refl TwoE.trans (fun _ e h => h.mono e.f.ext) (fun _ e h => h.mono e.e) hf _ _ _ _ g (fun j => vs.getD j undef) e hr hv
  exact ⟨g1, q1, q2, by rw [hs, q3], q4⟩
theorem adoptV_sound (B : Nat) (N : Nat → Prop) (k : Nat) (own : Bool) (x : Heap × St) (p p' : PV) (x' : Heap × St) (g : Cfg × Cfg) (v : Value) (e : adoptV k own x p = some (p', x')) (hr : Two B N x g) (hv : VRel g.1 p v) : ∃ g', Two B N x' g' ∧ TwoE x g x' g' ∧ VRel g'.2 p' v := by
  cases p with
  | agg cs =>
    simp only [adoptV] at e
    obtain ⟨⟨ps, h2⟩, h1, e⟩ := Option.map_eq_some_iff.1 e
    simp only [Prod.mk.injEq] at e
    obtain ⟨rfl, rfl⟩ := e
    cases hv with
    | agg hs hv =>
      obtain ⟨g1, q1, q2, q3, q4⟩ := adopt_thread B N (adoptC_sound B N k own) _ _ _ _ g _ h1 hr hs hv
      exact ⟨g1, q1, q2, .agg q3 q4⟩
  | _ => exact adoptC_sound B N k own x _ p' x' g v e hr hv
theorem adopt_sound (B : Nat) (N : Nat → Prop) (k : Nat) (own : Bool) (x : Heap × St) (p p' : PV) (x' : Heap × St) (g : Cfg × Cfg) (v : Value) (e : adopt k own x p = some (p', x')) (hr : Two B N x g) (hv : VRel g.1 p v) : ∃ g', Two B N x' g' ∧ TwoE x g x' g' ∧ VRel g'.2 p' v := by
  cases p with
  | tuple cs =>
    simp only [adopt] at e
    obtain ⟨⟨ps, h2⟩, h1, e⟩ := Option.map_eq_some_iff.1 e
    simp only [Prod.mk.injEq] at e
    obtain ⟨rfl, rfl⟩ := e
    cases hv with
    | tuple hs hv =>
      obtain ⟨g1, q1, q2, q3, q4⟩ := adopt_thread B N (adoptV_sound B N k own) _ _ _ _ g _ h1 hr hs hv
      exact ⟨g1, q1, q2, .tuple q3 q4⟩
  | undef => exact adoptV_sound B N k own x .undef p' x' g v e hr hv
  | d y => exact adoptV_sound B N k own x (.d y) p' x' g v e hr hv
  | ref a b c d => exact adoptV_sound B N k own x (.ref a b c d) p' x' g v e hr hv
  | ptr a b => exact adoptV_sound B N k own x (.ptr a b) p' x' g v e hr hv
  | rd a => exact adoptV_sound B N k own x (.rd a) p' x' g v e hr hv
  | nilptr => exact adoptV_sound B N k own x .nilptr p' x' g v e hr hv
  | func a b => exact adoptV_sound B N k own x (.func a b) p' x' g v e hr hv
  | nilfunc => exact adoptV_sound B N k own x .nilfunc p' x' g v e hr hv
  | yield a => exact adoptV_sound B N k own x (.yield a) p' x' g v e hr hv
  | nilmap => exact adoptV_sound B N k own x .nilmap p' x' g v e hr hv
  | agg a => exact adoptV_sound B N k own x (.agg a) p' x' g v e hr hv

theorem scal_mono {c c' : Cfg} {p : PV} {v : Value} (h : scal p = true) (hv : VRel c p v) : VRel c' p v := by
  have hone : ∀ {p : PV} {v : Value}, p.toV1.isSome = true → VRel c p v → VRel c' p v := fun {p v} h hv => by
    cases hv with
    | d h' => cases h' with
      | bool => exact .d (.bool _)
      | int => exact .d (.int _ _)
      | str => exact .d (.str _)
      | nil t c h0 => exact .d (.nil t c h0)
      | list => simp [PV.toV1] at h
    | nilptr => exact .nilptr
    | nilfunc => exact .nilfunc
    | nilmap => exact .nilmap
    | _ => simp [PV.toV1] at h
  have hval : ∀ {p : PV} {v : Value}, p.toV.isSome = true → VRel c p v → VRel c' p v := fun {p v} h hv => by
    cases p with
    | agg cs =>
      cases hv with
      | agg hs hv =>
        obtain ⟨w, hw⟩ := Option.isSome_iff_exists.1 h
        simp only [PV.toV, Option.map_eq_some_iff] at hw
        obtain ⟨us, h1, _⟩ := hw
        refine .agg hs fun j u hj => ?_
        obtain ⟨y, h2, _⟩ := (mapM_some _ _ _ h1).2 j u hj
        exact hone (by rw [h2]; rfl) (hv j u hj)
    | _ => exact hone h hv
  cases p with
  | tuple vs =>
    cases hv with
    | tuple hs hv => exact .tuple hs fun j u hj => hval (List.all_eq_true.1 h u (List.mem_of_getElem? hj)) (hv j u hj)
  | _ => exact hval h hv
end Go.Proofs.Ytpepghaknilmhaa.Vm
