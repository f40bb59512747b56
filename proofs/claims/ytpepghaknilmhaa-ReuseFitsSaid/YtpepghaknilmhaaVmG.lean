/- The machine of plain values: one operation, whichever. Written once for all seats. -/
import Derived.Test.YtpepghaknilmhaaVmF
import Derived.Laws.Cover3
namespace Go.Proofs.Ytpepghaknilmhaa.Vm
open Go
set_option linter.unusedVariables false
set_option linter.unusedSimpArgs false

section
variable {P : Program} {c : Cfg} {get : Nat → Option Obj} {N : Nat → Prop} {nid : Nat} {ρp : Operand → PV} {ρv : Operand → Value} {o : Oper}

theorem scalar_sound (hr : Rel get N c) (hρ : ∀ x, VRel c (ρp x) (ρv x)) (hsel : ∀ cs b, o.op ≠ .select cs b) {v : PV} {e : Eff} (h : op1.scalar P o ρp = some (v, e)) : Done c get N nid ((execOp ρv o).run P c.W) v e := by
  unfold op1.scalar at h
  split at h
  · rename_i vs hvs
    split at h
    · rename_i w hw
      have hd := opD_calm (nid := nid) hr hρ hsel hvs hw
      split at h
      · cases h
      · simp only [Option.some.injEq, Prod.mk.injEq] at h
        obtain ⟨rfl, rfl⟩ := h
        exact hd
    · cases h
  · cases h

theorem nilEq_spec {op : BinOp} {t : TypeId} {p q : PV} {b : Bool} (h : nilEq P op t p q = some b) {v u : Value} (hp : VRel c p v) (hq : VRel c q u) : ∃ e a n k, P.underlying t = some (.slice e) ∧ v = .slice a n k ∧ u = .slice none 0 0 ∧ ((op = .eql ∧ b = a.isNone) ∨ (op = .neq ∧ b = !a.isNone)) := by
  unfold nilEq at h
  split at h
  · rename_i nl tight n cells
    have hu : u = .slice none 0 0 := by
      rcases list_inv hq with ⟨_, _, _, cap, h2, h3⟩ | ⟨_, _, h2, _⟩
      · rw [h2, h3 rfl]
      · cases h2
    have hv : ∃ a k, v = .slice a n k ∧ nl = a.isNone := by
      rcases list_inv hp with ⟨h1, h0, _, cap, h2, h3⟩ | ⟨ad, cap, h1, h2, _⟩
      · exact ⟨none, cap, by rw [h2, h0], by rw [h1]; rfl⟩
      · exact ⟨some ad, cap, h2, by rw [h1]; rfl⟩
    obtain ⟨a, k, hv, hnl⟩ := hv
    split at h
    · rename_i e ht; cases h; exact ⟨e, a, n, k, ht, hv, hu, .inl ⟨rfl, hnl⟩⟩
    · rename_i e ht; cases h; exact ⟨e, a, n, k, ht, hv, hu, .inr ⟨rfl, by rw [hnl]⟩⟩
    · cases h
  · rename_i id off n sz
    have hu : u = .slice none 0 0 := by
      rcases list_inv hq with ⟨_, _, _, cap, h2, h3⟩ | ⟨_, _, h2, _⟩
      · rw [h2, h3 rfl]
      · cases h2
    obtain ⟨bb, base, cap, bs, _, h2, _⟩ := ref_inv hp
    split at h
    · rename_i e ht; cases h; exact ⟨e, _, _, _, ht, h2, hu, .inl ⟨rfl, rfl⟩⟩
    · rename_i e ht; cases h; exact ⟨e, _, _, _, ht, h2, hu, .inr ⟨rfl, rfl⟩⟩
    · cases h
  · cases h
theorem opD_nilEq {op : BinOp} {t t' : TypeId} {x y : Operand} {b : Bool} (hr : Rel get N c) (hρ : ∀ x, VRel c (ρp x) (ρv x)) (hop : o.op = .binOp op t x y t') (hb : nilEq P op t (ρp x) (ρp y) = some b) : Done c get N nid ((execOp ρv o).run P c.W) (.d (.bool b)) .none := by
  obtain ⟨e, a, n, k, ht, hv, hu, ⟨rfl, rfl⟩ | ⟨rfl, rfl⟩⟩ := nilEq_spec hb (hρ x) (hρ y)
  · refine done_pure (rv := .bool a.isNone) hr (.d (.bool _)) ?_
    simp [execOp, hop, hv, hu, eqGuard, binOp, run_equal_slice_nil _ _ _ _ _ _ ht]
  · refine done_pure (rv := .bool (!a.isNone)) hr (.d (.bool _)) ?_
    simp [execOp, hop, hv, hu, eqGuard, binOp, run_equal_slice_nil _ _ _ _ _ _ ht]
theorem op1_sound {own : Bool} {v : PV} {e : Eff} (h : op1 P own nid get o ρp = some (v, e)) (hr : Rel get N c) (hN : N nid) (hρ : ∀ x, VRel c (ρp x) (ρv x)) : Done c get N nid ((execOp ρv o).run P c.W) v e := by
  unfold op1 at h
  split at h
  · -- move
    rename_i x hop
    cases h
    exact done_pure hr (hρ x) (by simp [execOp, hop])
  · rename_i x hop
    cases h
    exact done_pure hr (hρ x) (by simp [execOp, hop])
  · rename_i x a b hop
    split at h
    · rename_i t ht
      cases h
      exact opD_pick hr hρ hop ht
    · cases h
  · rename_i elem hop
    obtain ⟨cs, h1, h2⟩ := Option.map_eq_some_iff.1 h
    cases h2
    exact opD_alloc hr hN hop h1
  · rename_i elem x hop
    obtain ⟨cs, h1, h2⟩ := Option.map_eq_some_iff.1 h
    cases h2
    exact opD_box hr hN hρ hop h1
  · rename_i t a hop
    split at h
    · rename_i id off ha
      split at h
      · rename_i bx cs hg
        obtain ⟨x, h1, h2⟩ := Option.map_eq_some_iff.1 h
        cases h2
        exact opD_load_ptr hr hρ hop ha hg h1
      · cases h
    · rename_i cells ha
      obtain ⟨x, h1, h2⟩ := Option.map_eq_some_iff.1 h
      cases h2
      exact opD_load_rd hr hρ hop ha h1
    · cases h
  · rename_i t a x hop
    split at h
    · rename_i id off xs n ha hx hs
      split at h
      · rename_i bx cs hg
        split at h
        · rename_i hc
          cases h
          exact opD_store hr hρ hop ha hg hx hs hc.1 hc.2
        · cases h
      · cases h
    · cases h
  · rename_i x hop
    split at h
    · rename_i id off hx
      cases h
      have := opD_nil (P := P) (nid := nid) hr hρ hop (.inl ⟨id, off, hx⟩)
      rwa [hx] at this
    · rename_i cells hx
      cases h
      have := opD_nil (P := P) (nid := nid) hr hρ hop (.inr (.inl ⟨cells, hx⟩))
      rwa [hx] at this
    · rename_i f caps hx
      cases h
      have := opD_nil (P := P) (nid := nid) hr hρ hop (.inr (.inr ⟨f, caps, hx⟩))
      rwa [hx] at this
    · cases h
  · rename_i s x f hop
    split at h
    · rename_i fields hs
      split at h
      · rename_i fl hf
        split at h
        · rename_i n hn
          split at h
          · cases h
          · rename_i hn0
            have d := opD_field (nid := nid) (v := v) hr hρ hop hs hf hn hn0 (by cases hx : ρp x <;> rw [hx] at h <;> first | (cases h; rfl) | cases h)
            have : e = .none := by cases hx : ρp x <;> rw [hx] at h <;> first | (cases h; rfl) | cases h
            rw [this]; exact d
        · cases h
      · cases h
    · cases h
  · rename_i t x ix hop
    split at h
    · rename_i k i len elem hi ht
      split at h
      · rename_i sz hz
        split at h
        · rename_i h0
          have d := opD_index_arr (nid := nid) (v := v) hr hρ hop hi ht hz h0 (by cases hx : ρp x <;> rw [hx] at h <;> first | (cases h; rfl) | cases h)
          have : e = .none := by cases hx : ρp x <;> rw [hx] at h <;> first | (cases h; rfl) | cases h
          rw [this]; exact d
        · cases h
      · cases h
    · rename_i k i elem hi ht
      split at h
      · rename_i sz hz
        split at h
        · rename_i id off n sz' hx
          split at h
          · rename_i hc
            obtain ⟨a1, a2, rfl⟩ := hc
            cases h
            exact opD_index_ref hr hρ hop hi ht hz hx ⟨a1, a2⟩
          · cases h
        · rename_i nl tight n cells hx
          split at h
          · rename_i hc
            cases h
            exact opD_index_list hr hρ hop hi ht hz hx (fun e => by rw [e] at hc; simp at hc) ⟨hc.1, hc.2.1⟩
          · cases h
        · cases h
      · cases h
    · cases h
  · rename_i t x f hop
    split at h
    · rename_i fields ht
      split at h
      · rename_i fl cs hf hx
        obtain ⟨y, h1, h2⟩ := Option.map_eq_some_iff.1 h
        cases h2
        exact opD_part hr hρ hop ht hf hx h1
      · cases h
    · cases h
  · rename_i x i hop
    split at h
    · rename_i vs hx
      obtain ⟨y, h1, h2⟩ := Option.map_eq_some_iff.1 h
      cases h2
      exact opD_extract hr hρ hop hx h1
    · cases h
  · rename_i f first captured hop
    split at h
    · rename_i h0
      cases h
      exact opD_func hr hρ hop h0
    · cases h
  · rename_i t parts hop
    split at h
    · rename_i z fields hz ht
      split at h
      · rename_i places hp
        obtain ⟨y, h1, h2⟩ := Option.map_eq_some_iff.1 h
        cases h2
        exact opD_build hr hρ hop hz h1 (.inl ⟨_, _, ht, hp, rfl⟩)
      · cases h
    · rename_i z len elem hz ht
      split at h
      · rename_i sz hs
        obtain ⟨y, h1, h2⟩ := Option.map_eq_some_iff.1 h
        cases h2
        exact opD_build hr hρ hop hz h1 (.inr ⟨_, _, _, ht, hs, rfl⟩)
      · cases h
    · cases h
  · rename_i t len parts hop
    split at h
    · rename_i elem ht
      split at h
      · rename_i sz z hs hz
        split at h
        · rename_i hc
          split at h
          · rename_i cs hf
            obtain ⟨d1, d2⟩ := opD_buildSlice hr hN hρ hop ht hs hz hc.1 hc.2.1 hc.2.2 hf
            split at h
            · rename_i _ ds hd
              cases h
              exact d1 _ hd
            · cases h
              exact d2
          · cases h
        · cases h
      · cases h
    · cases h
  · rename_i t l cp hop
    split at h
    · rename_i elem k n k' m ht hl hc
      split at h
      · rename_i sz z by_ hs hz hb
        split at h
        · rename_i hc'
          cases h
          exact opD_make hr hN hρ hop ht hl hc hs hz hb hc'.1 hc'.2.1 hc'.2.2.1 hc'.2.2.2.1 hc'.2.2.2.2.1 hc'.2.2.2.2.2
        · cases h
      · cases h
    · cases h
  · rename_i t x low high max hop
    split at h
    · rename_i elem nl tight n cells ht hx
      split at h
      · rename_i sz l hh m hs hb
        split at h
        · rename_i hc
          cases h
          exact opD_slice_list hr hρ hop ht hs hx hb hc
        · cases h
      · cases h
    · rename_i elem id off n sz' ht hx
      split at h
      · rename_i sz l hh hs hb
        split at h
        · rename_i hc
          subst hc
          split at h
          · rename_i hc
            cases h
            exact opD_slice_ref hr hρ hop ht hs hx hb hc
          · rename_i hc
            cases h
            exact opD_slice_end hr hρ hop ht hs hx hb (fun e => hc (.inl e))
        · cases h
      · cases h
    · exact scalar_sound hr hρ (fun cs b => by rw [hop]; simp) h
    · cases h
  · rename_i args argTypes hop
    split at h
    · rename_i elem nl tight n cells hty hx
      obtain ⟨t, ht1, ht2⟩ := Option.bind_eq_some_iff.1 hty
      obtain ⟨x, hx1, hx2⟩ := Option.map_eq_some_iff.1 hx
      cases h
      exact opD_len hr hρ hop hx1 ht1 (.inl ⟨_, ht2, .inl ⟨_, _, _, hx2⟩⟩)
    · rename_i elem id off n sz hty hx
      obtain ⟨t, ht1, ht2⟩ := Option.bind_eq_some_iff.1 hty
      obtain ⟨x, hx1, hx2⟩ := Option.map_eq_some_iff.1 hx
      cases h
      exact opD_len hr hρ hop hx1 ht1 (.inl ⟨_, ht2, .inr ⟨_, _, _, hx2⟩⟩)
    · cases h
    · rename_i n elem y hty hx
      obtain ⟨t, ht1, ht2⟩ := Option.bind_eq_some_iff.1 hty
      obtain ⟨x, hx1, hx2⟩ := Option.map_eq_some_iff.1 hx
      cases h
      exact opD_len hr hρ hop hx1 ht1 (.inr ⟨_, ht2⟩)
    · exact scalar_sound hr hρ (fun cs b => by rw [hop]; simp) h
  · rename_i args argTypes hop
    split at h
    · rename_i elem elem' s x hty hty' hs hx
      obtain ⟨t, ht1, ht2⟩ := Option.bind_eq_some_iff.1 hty
      obtain ⟨t', ht1', ht2'⟩ := Option.bind_eq_some_iff.1 hty'
      obtain ⟨so, hs1, hs2⟩ := Option.map_eq_some_iff.1 hs
      obtain ⟨xo, hx1, hx2⟩ := Option.map_eq_some_iff.1 hx
      split at h
      · rename_i sz by_ z n old m new hsz hby hz hcs hcx
        split at h
        · rename_i hc
          obtain ⟨c1, c2, c3, c4, c5, c6, c7, c8, c9, c10⟩ := hc
          have ha2 : args = #[so, xo] := by
            apply Array.ext
            · simpa using c2
            · intro j h1 h2
              have hj : j = 0 ∨ j = 1 := by simp at h2; omega
              rcases hj with rfl | rfl
              · rw [Array.getElem?_eq_getElem h1] at hs1; exact Option.some.inj hs1
              · rw [Array.getElem?_eq_getElem h1] at hx1; exact Option.some.inj hx1
          have ht2a : argTypes = #[t, t'] := by
            apply Array.ext
            · simpa using c3
            · intro j h1 h2
              have hj : j = 0 ∨ j = 1 := by simp at h2; omega
              rcases hj with rfl | rfl
              · rw [Array.getElem?_eq_getElem h1] at ht1; exact Option.some.inj ht1
              · rw [Array.getElem?_eq_getElem h1] at ht1'; exact Option.some.inj ht1'
          subst hs2 hx2
          obtain ⟨d1, d2⟩ := opD_append hr hN hρ hop ha2 ht2a ht2 ht2' hsz hby hz c1 hcs hcx c4 c5 c6 c7 c8 c10 c9
          split at h
          · rename_i h0
            cases h
            exact d1 h0
          · rename_i h0
            obtain ⟨e1, e2⟩ := d2 h0
            split at h
            · rename_i nl k ds hss
              cases h
              exact e1 _ _ _ hss
            · rename_i id off k sz' hss
              split at h
              · rename_i hsz'
                subst hsz'
                cases h
                exact e2 _ _ _ hss
              · cases h
            · cases h
        · cases h
      · cases h
    · cases h
  · rename_i args argTypes hop
    split at h
    · rename_i elem d x hty hd hx
      obtain ⟨t, ht1, ht2⟩ := Option.bind_eq_some_iff.1 hty
      obtain ⟨dd, hd1, hd2⟩ := Option.map_eq_some_iff.1 hd
      obtain ⟨xo, hx1, hx2⟩ := Option.map_eq_some_iff.1 hx
      subst hd2 hx2
      split at h
      · rename_i sz m new hs hsrc
        split at h
        · rename_i hc
          split at h
          · rename_i id off n sz' hdd
            split at h
            · rename_i bx cs hg
              split at h
              · rename_i hc2
                obtain ⟨rfl, hle⟩ := hc2
                cases h
                exact opD_copy hr hρ hop hd1 hx1 ht1 ht2 hs hc.1 hsrc hc.2.1 hc.2.2 hdd hg hle
              · cases h
            · cases h
          · rename_i hdd
            cases h
            exact opD_copy0 hr hρ hop hd1 hx1 ht1 ht2 hs hc.1 hsrc hc.2.1 hdd
          · cases h
        · cases h
      · cases h
    · cases h
  · rename_i src dst x hop
    split at h
    · rename_i id off n sz hx
      split at h
      · rename_i e hs hd
        split at h
        · rename_i m cells he hc
          split at h
          · rename_i hc2
            obtain ⟨rfl, hm⟩ := hc2
            obtain ⟨ns, h1, h2⟩ := Option.map_eq_some_iff.1 h
            cases h2
            exact opD_bstr hr hρ hop hx hs hd he (by rw [hx]; exact hc) hm h1
          · cases h
        · cases h
      · cases h
    · exact scalar_sound hr hρ (fun cs b => by rw [hop]; simp) h
  · cases h
  · cases h
  · rename_i op t x y t' hop
    split at h
    · rename_i b hb
      cases h
      exact opD_nilEq hr hρ hop hb
    · exact scalar_sound hr hρ (fun cs b => by rw [hop]; simp) h
  · exact scalar_sound hr hρ (by assumption) h
end
end Go.Proofs.Ytpepghaknilmhaa.Vm
