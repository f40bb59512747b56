/- The machine of plain values: ranges over functions; functions; all levels. Written once for all seats. -/
import Derived.Test.YtpepghaknilmhaaVmR
import Derived.RangeFuncNested
namespace Go.Proofs.Ytpepghaknilmhaa.Vm
open Go
set_option linter.unusedVariables false
set_option linter.unusedSimpArgs false

theorem enter_sound {st : St} {c : Cfg} {regs : List PV} {a : Act} (hv : VL c regs a.tmps) (hr : Rel st.heap.get (st.next ≤ ·) c) {W1 : World} {g fid : Nat} {ps : Array Tmp} {as bo : Code} {L0 : Loop} (hg : c.W.grownBy W1 none) (hge : c.W.heap.size ≤ g) (hL : W1.heap[g]? = some (.loop L0))
    (h1 : L0.state = .ready) (h2 : L0.pending = none) (h3 : L0.params = ps) (h4 : L0.assign = as) (h5 : L0.body = bo) (h6 : L0.tmps = a.tmps) :
    Post st.heap.get (Heap.get ((st.next, .loop fid .ready none regs ps.toList as bo) :: st.heap)) st.next (st.next + 1) c (c.named st.next (g, 0) W1) := by
  have hf := hr.fresh st.next (Nat.le_refl _)
  have e := ext_new (g := g) hg hf hr.immlt
  have hrel := rel_new (id := st.next) (x := .loop fid .ready none regs ps.toList as bo) hr (Nat.le_refl _) hg hge ⟨rfl, L0, hL, h1, h2, by simp [h3], h4, h5, by rw [h6]; exact hv.mono e⟩
  have hfun : Heap.get ((st.next, .loop fid .ready none regs ps.toList as bo) :: st.heap) = fun i => if i = st.next then some (.loop fid .ready none regs ps.toList as bo) else st.heap.get i := by
    funext i
    rw [Heap.get_cons]
    by_cases h : i = st.next
    · rw [if_pos h, if_pos h.symm]
    · rw [if_neg h, if_neg (Ne.symm h)]
  rw [hfun]
  refine ⟨hrel.sub (fun _ _ h => h) (fun i hi => ⟨Nat.le_of_succ_le hi, by omega⟩), step_new _ hg hf hr.immlt, fun k hk => lb_new hge k hk, fun i hi => if_neg (by omega), Nat.le_succ _⟩

theorem range_sound {env : Env} {L : Lvl} (hL : CallOK env.P L) {fuel fid : Nat} {g : Operand} {ps : Array Tmp} {as bo : Code} {regs regs' : List PV} {st st' : St} {e : Ex} (h : exec env L fuel fid (.rangeFunc g ps as bo) regs st = some (e, regs', st')) {c : Cfg} {a : Act}
    (hv : VL c regs a.tmps) (hr : Rel st.heap.get (st.next ≤ ·) c) {F : Fence} (hF : FOK F c.W) : (Code.rangeFunc g ps as bo).wpIn F 0 env.P (CodeEnd st st' c regs' e a.defers) a c.W := by
  unfold exec at h
  split at h
  case h_2 => cases h
  rename_i f caps hgf
  split at h
  case isFalse => cases h
  rename_i hok
  split at h
  case h_2 => cases h
  rename_i rr s1 hcall
  split at h
  case h_2 => cases h
  rename_i fid' stt pe tm ps' as' bo' hgl
  split at h
  case isTrue => cases h
  rename_i hnb
  obtain ⟨hfn, hd, hin⟩ := fok_fn hF
  have hgv := hv.eval g
  rw [hgf] at hgv
  refine wpIn_rangeFunc fun fn _ => ?_
  -- the record
  obtain ⟨l, mk, W1, L0, henter, hg, hge, hL0, k1, k2, k3, k4, k5, k6, hmark⟩ : ∃ (l : Nat) (mk : List Deferred) (W1 : World) (L0 : Loop), (Instr.enterLoop fn a.tmps ps as bo F.round).run env.P c.W = .ok (l, mk) W1 ∧ c.W.grownBy W1 none ∧ c.W.heap.size ≤ l ∧ W1.heap[l]? = some (.loop L0) ∧
      L0.state = .ready ∧ L0.pending = none ∧ L0.params = ps ∧ L0.assign = as ∧ L0.body = bo ∧ L0.tmps = a.tmps ∧
      (mk = [] ∨ ∃ D, mk = [dmark D] ∧ c.W.heap.size ≤ D ∧ D ≠ l ∧ W1.heap[D]? = some (.deferred (some []))) := by
    rcases hF with rfl | ⟨l0, rfl, L, hl0⟩
    · refine ⟨_, _, _, { state := .ready, pending := none, fn, tmps := a.tmps, params := ps, assign := as, body := bo, defers := c.W.heap.size }, run_enterLoop_outer fn a.tmps ps as bo, ⟨rfl, rfl, rfl, by simp; omega, fun k hk _ => (heap_alloc_old _ _ (by simp; omega)).trans (heap_alloc_old _ _ hk)⟩, Nat.le_succ _, ?_, rfl, rfl, rfl, rfl, rfl, rfl, .inr ⟨c.W.heap.size, rfl, Nat.le_refl _, by omega, ?_⟩⟩
      · have := World.alloc_heap_new (c.W.alloc (.deferred (some []))) (.loop { state := .ready, pending := none, fn, tmps := a.tmps, params := ps, assign := as, body := bo, defers := c.W.heap.size })
        simpa using this
      · exact (heap_alloc_old _ _ (by simp)).trans (World.alloc_heap_new _ _)
    · exact ⟨_, _, _, { state := .ready, pending := none, fn, tmps := a.tmps, params := ps, assign := as, body := bo, defers := L.defers }, run_enterLoop_inner hl0 fn a.tmps ps as bo, grown_alloc _ _, Nat.le_refl _, World.alloc_heap_new _ _, rfl, rfl, rfl, rfl, rfl, rfl, .inl rfl⟩
  have hp1 := enter_sound (fid := fid) hv hr hg hge hL0 k1 k2 k3 k4 k5 k6
  obtain ⟨c1, hc1⟩ : ∃ c1, c1 = c.named st.next (l, 0) W1 := ⟨_, rfl⟩
  have hW1 : c1.W = W1 := by rw [hc1]; rfl
  have hρ1 : c1.ρ st.next = some (l, 0) := by rw [hc1]; exact if_pos rfl
  rw [← hc1] at hp1
  have hm1 : Marks (Heap.get ((st.next, .loop fid .ready none regs ps.toList as bo) :: st.heap)) c1 c.W.heap.size a.defers (mk ++ a.defers) := by
    rcases hmark with rfl | ⟨D, rfl, hD1, hD2, hD3⟩
    · exact Marks.nil _ _ _ _
    · refine ⟨[D], rfl, by simp, fun E hE => ?_⟩
      rw [List.mem_singleton.1 hE]
      refine ⟨hD1, by rw [hW1]; exact hD3, ?_, fun hI => ?_⟩
      · rintro ⟨i, o, ba, hi, hρ⟩
        rw [hc1] at hρ
        by_cases hi' : i = st.next
        · have hρ' : (if i = st.next then some (l, 0) else c.ρ i) = some (D, ba) := hρ
          rw [if_pos hi'] at hρ'
          have := congrArg Prod.fst (Option.some.inj hρ')
          exact hD2 this.symm
        · have hρ' : (if i = st.next then some (l, 0) else c.ρ i) = some (D, ba) := hρ
          rw [if_neg hi'] at hρ'
          rw [Heap.get_cons, if_neg (Ne.symm hi')] at hi
          have := lb_lt hr ⟨i, o, ba, hi, hρ'⟩
          omega
      · rw [hc1] at hI
        have := hr.immlt D hI
        omega
  cases hgv' : a.eval g with
  | func fnv first vs =>
    rw [hgv'] at hgv
    cases hgv with
    | func hs hvs =>
      refine ⟨l, mk, W1, { target := .fn (.func f) vs, args := #[.func (.yield l) #[] #[]] }, W1, f, #[.func (.yield l) #[] #[]] ++ vs, W1, henter, ?_, fun f' _ => hfn f', ?_, (fun h => by rw [hd] at h; cases h), ?_⟩
      · simp only [resolve, hgv']
        simp [go_sem, Deferred.ofValue, Act.eval]
      · simp [invoke, go_sem, okFn_spec hok]
      · have hargs : VL c1 (.yield st.next :: caps) (#[.func (.yield l) #[] #[]] ++ vs) := by
          refine VL.mk' (by simp [hs, Nat.add_comm]) fun j u hj => ?_
          cases j with
          | zero =>
            simp only [List.getElem?_cons_zero, Option.some.injEq] at hj
            subst hj
            exact ⟨.func (.yield l) #[] #[], by rw [Array.getElem?_append_left (by simp)]; rfl, .yield hρ1⟩
          | succ j =>
            rw [List.getElem?_cons_succ] at hj
            obtain ⟨x, h1, h2⟩ := VL.get ⟨hs, hvs⟩ hj
            exact ⟨x, by rw [Array.getElem?_append_right (by simp)]; simpa using h1, h2.mono hp1.step.toExt⟩
        have hcall' := hL f _ _ _ s1 hcall c1 _ hargs hp1.rel
        rw [hW1] at hcall'
        have hcl : ∀ R, CallsIn Fence.wide 0 env.P f (#[.func (.yield l) #[] #[]] ++ vs) W1 R → CallsIn F 0 env.P f (#[.func (.yield l) #[] #[]] ++ vs) W1 R := fun R hc => by
          rcases hF with rfl | ⟨l0, rfl, _⟩
          · exact hc
          · exact CallsIn.inRound l0 hc
        refine CallsIn.mono (hcl _ hcall') ?_
        rintro en w' ⟨c2, rv, rfl, rfl, hrv, hp2⟩
        -- behind the function
        have hρ2 : c2.ρ st.next = some (l, 0) := (hp2.old st.next (Nat.lt_succ_self _)).trans hρ1
        obtain ⟨b2, ba2, hb2, h02, L2, hL2, hst2, hpe2, hps2, has2, hbo2, htm2⟩ := hp2.rel.live st.next _ hgl
        rw [hρ2] at hb2
        cases hb2
        have hlt2 := (Array.getElem?_eq_some_iff.1 hL2).1
        have hend := run_endLoop (P := env.P) hL2 (by rw [hst2]; exact hnb)
        obtain ⟨c3, hc3⟩ : ∃ c3 : Cfg, c3 = ⟨c2.ρ, c2.I, c2.W.putObj l (.loop { L2 with state := .exhausted })⟩ := ⟨_, rfl⟩
        have he3 : Ext c2 c3 := by
          rw [hc3]
          refine ⟨fun _ _ h => h, fun _ h => h, fun k hk => World.putObj_heap_other (fun e => hp2.rel.notI st.next _ l 0 hgl hρ2 (e ▸ hk)), fun k bs ⟨cs, t, h1, h2⟩ => ⟨cs, t, (World.putObj_heap_other (fun e => by rw [e, hL2] at h1; cases h1)).trans h1, h2⟩, fun k L hL => ?_⟩
          by_cases e : k = l
          · subst e; exact ⟨_, World.putObj_heap_same hlt2⟩
          · exact ⟨L, (World.putObj_heap_other e).trans hL⟩
        obtain ⟨hrel3, hstep3, hlb3⟩ := loop_put hp2.rel hgl hρ2 hL2 (L1 := { L2 with state := .exhausted }) (y := .loop fid' .exhausted pe tm ps' as' bo') ⟨rfl, _, World.putObj_heap_same hlt2, rfl, hpe2, hps2, has2, hbo2, by rw [← hc3]; exact htm2.mono he3⟩
        rw [← hc3] at hrel3 hstep3 hlb3
        have hp3 : Post s1.heap.get (s1.heap.del st.next).get s1.next s1.next c2 c3 := by
          have hp : Post s1.heap.get (fun i => if i = st.next then some (.loop fid' .exhausted pe tm ps' as' bo') else s1.heap.get i) s1.next s1.next c2 c3 := ⟨hrel3, hstep3, fun k hk => .inl (hlb3 k hk), fun _ _ => by rw [hc3], Nat.le_refl _⟩
          refine hp.drop fun i o hi => ?_
          rw [Heap.get_del] at hi
          split at hi
          · cases hi
          · rename_i hne
            rw [if_neg hne]; exact hi
        have hp13 := (hp1.trans hp2).trans hp3
        have hm3 := Marks.trans hp1.step.size hm1 (hp2.trans hp3) (Marks.nil _ _ _ _)
        have hfin : ∀ (e1 : Ex) (e1' : Exit), ExRel e1 e1' → CodeEnd st (sweep st.next ⟨s1.heap.del st.next, s1.next⟩) c regs e1 a.defers e1' { a with defers := mk ++ a.defers } c3.W := fun e1 e1' hx =>
          CodeEnd.sweep ⟨hx, c3, rfl, hv.mono hp13.step.toExt, hp13, hm3⟩
        have hW3 : c2.W.putObj l (.loop { L2 with state := .exhausted }) = c3.W := by rw [hc3]
        rw [hW3, hpe2] at hend
        refine ⟨pe, _, hend, ?_⟩
        split at h
        · simp only [Option.some.injEq, Prod.mk.injEq] at h
          obtain ⟨rfl, rfl, rfl⟩ := h
          exact hfin .normal .normal trivial
        · simp only [Option.some.injEq, Prod.mk.injEq] at h
          obtain ⟨rfl, rfl, rfl⟩ := h
          exact wpIn_ret (hfin .ret .ret trivial)
        · rename_i id
          simp only [Option.some.injEq, Prod.mk.injEq] at h
          obtain ⟨rfl, rfl, rfl⟩ := h
          exact wpIn_exit (hfin (.exit id) (.exit id) rfl)
        · rename_i lb
          simp only [Option.some.injEq, Prod.mk.injEq] at h
          obtain ⟨rfl, rfl, rfl⟩ := h
          exact wpIn_goto (hfin (.goto lb) (.goto lb) rfl)
        · cases h
  | _ => rw [hgv'] at hgv; cases hgv

theorem exec_sound {env : Env} {L : Lvl} (hmix : env.P.follows .mixedOrders = true) (hL : CallOK env.P L) (hX : ExtOK env) (hC : CodeOK env.P L) {fuel fid : Nat} : ∀ (code : Code) (regs : List PV) (st : St) (e : Ex) (regs' : List PV) (st' : St), exec env L fuel fid code regs st = some (e, regs', st') →
    ∀ (c : Cfg) (a : Act), VL c regs a.tmps → Rel st.heap.get (st.next ≤ ·) c → ∀ F, FOK F c.W → code.wpIn F 0 env.P (CodeEnd st st' c regs' e a.defers) a c.W := by
  intro code
  induction code with
  | skip =>
    intro regs st e regs' st' h c a hv hr F hF
    simp only [exec, Option.some.injEq, Prod.mk.injEq] at h
    obtain ⟨rfl, rfl, rfl⟩ := h
    exact wpIn_skip ⟨trivial, c, rfl, hv, Post.refl hr, Marks.nil _ _ _ _⟩
  | label l =>
    intro regs st e regs' st' h c a hv hr F hF
    simp only [exec, Option.some.injEq, Prod.mk.injEq] at h
    obtain ⟨rfl, rfl, rfl⟩ := h
    exact wpIn_label ⟨trivial, c, rfl, hv, Post.refl hr, Marks.nil _ _ _ _⟩
  | exit id =>
    intro regs st e regs' st' h c a hv hr F hF
    simp only [exec, Option.some.injEq, Prod.mk.injEq] at h
    obtain ⟨rfl, rfl, rfl⟩ := h
    exact wpIn_exit ⟨rfl, c, rfl, hv, Post.refl hr, Marks.nil _ _ _ _⟩
  | goto id =>
    intro regs st e regs' st' h c a hv hr F hF
    simp only [exec, Option.some.injEq, Prod.mk.injEq] at h
    obtain ⟨rfl, rfl, rfl⟩ := h
    exact wpIn_goto ⟨rfl, c, rfl, hv, Post.refl hr, Marks.nil _ _ _ _⟩
  | ret =>
    intro regs st e regs' st' h c a hv hr F hF
    simp only [exec, Option.some.injEq, Prod.mk.injEq] at h
    obtain ⟨rfl, rfl, rfl⟩ := h
    exact wpIn_ret ⟨trivial, c, rfl, hv, Post.refl hr, Marks.nil _ _ _ _⟩
  | scope b ih =>
    intro regs st e regs' st' h
    simp only [exec] at h
    cases h
  | refuse w =>
    intro regs st e regs' st' h
    simp only [exec] at h
    cases h
  | region id ops draw =>
    intro regs st e regs' st' h c a hv hr F hF
    exact region_sound hmix hL hX hC h hv hr hF
  | rangeFunc g ps as bo =>
    intro regs st e regs' st' h c a hv hr F hF
    exact range_sound hL h hv hr hF
  | loop b ih =>
    intro regs st e regs' st' h c a hv hr F hF
    exact loopN_sound (fun regs st e regs' st' h c a h1 h2 h3 => ih regs st e regs' st' h c a h1 h2 F h3) h hv hr hF
  | cond g x y ih1 ih2 =>
    intro regs st e regs' st' h c a hv hr F hF
    simp only [exec] at h
    have hg := hv.eval g
    split at h
    · rename_i hgb
      rw [hgb] at hg
      exact wpIn_cond_true (bool_inv hg) (ih1 regs st e regs' st' h c a hv hr F hF)
    · rename_i hgb
      rw [hgb] at hg
      exact wpIn_cond_false (bool_inv hg) (ih2 regs st e regs' st' h c a hv hr F hF)
    · cases h
  | block id b ih =>
    intro regs st e regs' st' h c a hv hr F hF
    simp only [exec] at h
    cases hx : exec env L fuel fid b regs st with
    | none => rw [hx] at h; cases h
    | some x =>
      obtain ⟨e1, r1, s1⟩ := x
      rw [hx] at h
      refine wpIn_block (wpIn_mono (ih regs st e1 r1 s1 hx c a hv hr F hF) ?_)
      rintro e' a' w' ⟨h1, h2⟩
      cases e1 with
      | exit id' =>
        simp only [Option.some.injEq, Prod.mk.injEq] at h
        obtain ⟨rfl, rfl, rfl⟩ := h
        cases e' <;> try exact h1.elim
        cases h1
        show if id' = id then _ else _
        by_cases hi : id' = id
        · rw [if_pos hi]
          simp only [if_pos hi]
          exact ⟨trivial, h2⟩
        · rw [if_neg hi]
          simp only [if_neg hi]
          exact ⟨rfl, h2⟩
      | normal =>
        simp only [Option.some.injEq, Prod.mk.injEq] at h
        obtain ⟨rfl, rfl, rfl⟩ := h
        cases e' <;> try exact h1.elim
        exact ⟨h1, h2⟩
      | goto l =>
        simp only [Option.some.injEq, Prod.mk.injEq] at h
        obtain ⟨rfl, rfl, rfl⟩ := h
        cases e' <;> try exact h1.elim
        exact ⟨h1, h2⟩
      | ret =>
        simp only [Option.some.injEq, Prod.mk.injEq] at h
        obtain ⟨rfl, rfl, rfl⟩ := h
        cases e' <;> try exact h1.elim
        exact ⟨h1, h2⟩
  | seq x y ih1 ih2 =>
    intro regs st e regs' st' h c a hv hr F hF
    simp only [exec] at h
    cases hx : exec env L fuel fid x regs st with
    | none => rw [hx] at h; cases h
    | some z =>
      obtain ⟨e1, r1, s1⟩ := z
      rw [hx] at h
      refine wpIn_seq (wpIn_mono (ih1 regs st e1 r1 s1 hx c a hv hr F hF) ?_)
      rintro e' a' w' hend
      cases e1 with
      | normal =>
        obtain ⟨h1, c1, rfl, h2, h3, h4⟩ := hend
        cases e' <;> try exact h1.elim
        refine wpIn_mono (ih2 r1 s1 e regs' st' h c1 a' h2 h3.rel F (hF.ext h3.step.toExt)) ?_
        intro e2 a2 w2 hend2
        exact hend2.trans h3 h4
      | exit id =>
        simp only [Option.some.injEq, Prod.mk.injEq] at h
        obtain ⟨rfl, rfl, rfl⟩ := h
        obtain ⟨h1, h2⟩ := hend
        cases e' <;> try exact h1.elim
        exact ⟨h1, h2⟩
      | goto l =>
        simp only [Option.some.injEq, Prod.mk.injEq] at h
        obtain ⟨rfl, rfl, rfl⟩ := h
        obtain ⟨h1, h2⟩ := hend
        cases e' <;> try exact h1.elim
        exact ⟨h1, h2⟩
      | ret =>
        simp only [Option.some.injEq, Prod.mk.injEq] at h
        obtain ⟨rfl, rfl, rfl⟩ := h
        obtain ⟨h1, h2⟩ := hend
        cases e' <;> try exact h1.elim
        exact ⟨h1, h2⟩

/-! ### Functions -/
theorem mapM_run {α : Type} {P : Program} {c : Cfg} {g : α → Option PV} {f : α → Sem Value} (hgf : ∀ x u, g x = some u → ∃ rv, (f x).run P c.W = .ok rv c.W ∧ VRel c u rv) : ∀ (l : List α) (us : List PV), l.mapM g = some us → ∃ vs : List Value, (l.mapM f).run P c.W = .ok vs c.W ∧ VL c us vs.toArray
  | [], us, h => by
    simp at h
    subst h
    exact ⟨[], by simp [List.mapM_nil], rfl, fun j u hj => by simp at hj⟩
  | x :: l, us, h => by
    rw [List.mapM_cons] at h
    simp only [Option.bind_eq_bind, Option.bind_eq_some_iff, Option.pure_def, Option.some.injEq] at h
    obtain ⟨u, h1, us', h2, rfl⟩ := h
    obtain ⟨rv, g1, g2⟩ := hgf x u h1
    obtain ⟨vs, g3, g4⟩ := mapM_run hgf l us' h2
    refine ⟨rv :: vs, ?_, ?_⟩
    · rw [List.mapM_cons]
      simp [Sem.run_bind, g1, g3, Result.andThen]
    · refine VL.mk' (by simpa using g4.1) fun j u' hj => ?_
      cases j with
      | zero =>
        simp only [List.getElem?_cons_zero, Option.some.injEq] at hj
        subst hj
        exact ⟨rv, by simp, g2⟩
      | succ j =>
        rw [List.getElem?_cons_succ] at hj
        obtain ⟨v, h5, h6⟩ := g4.get hj
        exact ⟨v, by simpa using h5, h6⟩

theorem results_spec {P : Program} {fn : Func} {regs : List PV} {st : St} {v : PV} (h : resultsP P fn regs st = some v) {c : Cfg} {tmps : Array Value} (hv : VL c regs tmps) {N : Nat → Prop} (hr : Rel st.heap.get N c) : ∃ rv, (results fn tmps).run P c.W = .ok rv c.W ∧ VRel c v rv := by
  unfold resultsP at h
  obtain ⟨us, h1, h2⟩ := Option.map_eq_some_iff.1 h
  obtain ⟨vs, g1, g2⟩ := mapM_run (P := P) (c := c) (f := fun (x : ResultVar) => match x with
      | .tmp t => pure (tmps.getD t undef)
      | .cell a t => do loadVar t (← asAddr (tmps.getD a undef))) (fun x u hx => by
    cases x with
    | tmp t =>
      exact ⟨tmps.getD t undef, rfl, hv.2 t u hx⟩
    | cell a t =>
      simp only at hx
      split at hx
      case h_2 => cases hx
      rename_i id off hra
      split at hx
      case h_2 => cases hx
      rename_i bx cs hgc
      have hav := hv.2 a _ hra
      obtain ⟨b, base, hb, arr, t', ha1, ha2, ha3⟩ := hr.live id _ hgc
      show ∃ rv, Sem.run P (do loadVar t (← asAddr (tmps.getD a undef)) : Sem Value) c.W = .ok rv c.W ∧ VRel c u rv
      generalize tmps.getD a undef = av at hav ⊢
      cases hav with
      | ptr hρ =>
        rw [hb] at hρ
        cases hρ
        obtain ⟨rv, e1, e2⟩ := read_spec (c := c) hx (b := b) (o := base) (fun j u hj => by
          have hlt : j < cs.length := (List.getElem?_eq_some_iff.1 hj).1
          have hlt2 : base + j < arr.size := by omega
          exact ⟨arr[base + j], by simp [World.cell?, ha1, hlt2], by have := ha3 j u hj; rwa [Array.getD_eq_getD_getElem?, Array.getElem?_eq_getElem hlt2] at this⟩)
        exact ⟨rv, by simp [asAddr, e1], e2⟩) _ us h1
  subst h2
  unfold results
  rw [Array.mapM_eq_mapM_toList]
  refine ⟨if h : vs.toArray.size = 1 then vs.toArray[0] else .tuple vs.toArray, ?_, ?_⟩
  · simp only [Sem.run_bind, map_eq_pure_bind, bind_assoc, pure_bind]
    erw [g1]
    rfl
  · have hs := g2.1
    cases us with
    | nil =>
      have : vs = [] := List.eq_nil_of_length_eq_zero (by simpa using hs)
      subst this
      exact .tuple rfl (fun j u hj => by simp at hj)
    | cons u us =>
      cases us with
      | nil =>
        obtain ⟨x, rfl⟩ := List.length_eq_one_iff.1 (by simpa using hs : vs.length = 1)
        have := g2.2 0 u rfl
        simpa using this
      | cons u' us =>
        rw [dif_neg (by simp at hs ⊢; omega)]
        exact .tuple hs g2.2

theorem leaves_dmarks {P : Program} {fn : Func} {tmps : Array Value} {R : Ending → World → Prop} : ∀ (Ds : List Nat) (w : World), Ds.Nodup → (∀ D ∈ Ds, w.heap[D]? = some (.deferred (some []))) →
    (∀ w', w'.os = w.os → w'.tape = w.tape → w'.output = w.output → w'.heap.size = w.heap.size → (∀ k, k ∉ Ds → w'.heap[k]? = w.heap[k]?) → LeavesIn Fence.wide 0 P fn tmps R [] .returning w') → LeavesInM Fence.wide 0 P fn tmps R (Ds.map dmark) .returning w
  | [], w, _, _, h => h w rfl rfl rfl rfl (fun _ _ => rfl)
  | D :: Ds, w, hn, hd, h => by
    obtain ⟨h1, h2⟩ := List.nodup_cons.1 hn
    refine ⟨by simp, .inl ⟨D, _, rfl, run_takeDeferred (hd D List.mem_cons_self), ?_⟩⟩
    refine leaves_dmarks Ds _ h2 (fun E hE => (World.putObj_heap_other (fun e => h1 (by subst e; exact hE))).trans (hd E (List.mem_cons_of_mem _ hE))) fun w' a1 a2 a3 a4 a5 => h w' a1 a2 a3 (a4.trans World.putObj_size) fun k hk => ?_
    rw [List.mem_cons, not_or] at hk
    exact (a5 k hk.2).trans (World.putObj_heap_other hk.1)

theorem callF_sound {env : Env} {L : Lvl} (hmix : env.P.follows .mixedOrders = true) (hL : CallOK env.P L) (hX : ExtOK env) (hC : CodeOK env.P L) {fuel : Nat} {f : FuncId} {args : List PV} {st st' : St} {r : PV} (h : callF env L fuel f args st = some (r, st')) {c : Cfg} {vargs : Array Value} (hv : VL c args vargs) (hr : Rel st.heap.get (st.next ≤ ·) c) :
    CallsIn Fence.wide 0 env.P f vargs c.W (Back st.heap.get st.next c r st'.heap.get st'.next) := by
  unfold callF at h
  split at h
  case h_1 => cases h
  rename_i fn hfn
  split at h
  case h_1 => cases h
  rename_i body hbody
  obtain ⟨e, regs', s1, hx, hres, hne⟩ : ∃ e regs' s1, exec env L fuel f body (args ++ List.replicate (fn.ntmps - args.length) .undef) st = some (e, regs', s1) ∧ (resultsP env.P fn regs' s1).map (fun v => (v, s1)) = some (r, st') ∧ (e = .normal ∨ e = .ret) := by
    split at h
    · rename_i hx; exact ⟨_, _, _, hx, h, .inl rfl⟩
    · rename_i hx; exact ⟨_, _, _, hx, h, .inr rfl⟩
    · cases h
  obtain ⟨v, hv2, hvs⟩ := Option.map_eq_some_iff.1 hres
  simp only [Prod.mk.injEq] at hvs
  obtain ⟨rfl, rfl⟩ := hvs
  have hregs : VL c (args ++ List.replicate (fn.ntmps - args.length) .undef) (vargs ++ Array.replicate (fn.ntmps - vargs.size) undef) := by
    refine VL.mk' (by simp [hv.1]) fun j u hj => ?_
    rw [List.getElem?_append] at hj
    rw [Array.getElem?_append, hv.1]
    by_cases e : j < args.length
    · rw [if_pos e] at hj ⊢
      exact hv.get hj
    · rw [if_neg e] at hj ⊢
      have hlt := (List.getElem?_eq_some_iff.1 hj).1
      rw [List.getElem?_replicate] at hj
      split at hj
      · cases hj
        refine ⟨undef, ?_, .undef _⟩
        rw [Array.getElem?_replicate, if_pos (by simpa using hlt)]
      · cases hj
  refine callsIn_of_wp_marks hfn hbody trivial (wpIn_mono (exec_sound hmix hL hX hC body _ st e regs' s1 hx c { tmps := vargs ++ Array.replicate (fn.ntmps - vargs.size) undef, defers := [] } hregs hr Fence.wide (.inl rfl)) ?_)
  rintro e' a' w' ⟨h1, c1, rfl, hv1, hp1, Ds, hDs, hDn, hD⟩
  have hleave : LeavesInM Fence.wide 0 env.P fn a'.tmps (Back st.heap.get st.next c v s1.heap.get s1.next) a'.defers .returning c1.W := by
    rw [hDs, List.append_nil]
    refine leaves_dmarks Ds c1.W hDn (fun D hd => (hD D hd).2.1) fun w' a1 a2 a3 a4 a5 => ?_
    obtain ⟨c2, hc2⟩ : ∃ c2 : Cfg, c2 = ⟨c1.ρ, c1.I, w'⟩ := ⟨_, rfl⟩
    have hnc : ∀ D ∈ Ds, ¬ Lb s1.heap.get c1 D := fun D hd => (hD D hd).2.2.1
    have he : Ext c1 c2 := by
      rw [hc2]
      refine ⟨fun _ _ h => h, fun _ h => h, fun k hk => a5 k (fun hd => (hD k hd).2.2.2 hk), fun k bs ⟨cs, t, h1, h2⟩ => ⟨cs, t, (a5 k (fun hd => by rw [(hD k hd).2.1] at h1; cases h1)).trans h1, h2⟩, fun k L hL => ⟨L, (a5 k (fun hd => by rw [(hD k hd).2.1] at hL; cases hL)).trans hL⟩⟩
    have hs2 : Step (fun k => k ∈ Ds) c1 c2 := by
      rw [hc2] at he ⊢
      exact ⟨he, a1, a2, a3, Nat.le_of_eq a4.symm, fun k _ hk => a5 k hk, fun k hk => .inl hk⟩
    have hr2 : Rel s1.heap.get (s1.next ≤ ·) c2 := hp1.rel.carry hs2 (fun k hk hd => hnc k hd hk) (fun k hk => by rw [hc2] at hk ⊢; show k < w'.heap.size; rw [a4]; exact hp1.rel.immlt k hk) (fun i hi => by rw [hc2]; exact hp1.rel.fresh i hi) (fun k hk hi => by
      rw [hc2] at hi
      obtain ⟨i, o, ba, g1, g2⟩ := hk
      exact hp1.rel.notI i o k ba g1 g2 hi)
    have hp2 : Post st.heap.get s1.heap.get st.next s1.next c c2 := by
      refine ⟨hr2, ⟨hp1.step.toExt.trans he, ?_, ?_, ?_, ?_, fun k hk hn => ?_, fun k hk => ?_⟩, fun k hk => ?_, fun i hi => ?_, hp1.le⟩
      · exact hs2.os.trans hp1.step.os
      · exact hs2.tape.trans hp1.step.tape
      · exact hs2.output.trans hp1.step.output
      · exact Nat.le_trans hp1.step.size hs2.size
      · exact (hs2.block k (Nat.lt_of_lt_of_le hk hp1.step.size) (fun hd => by have := (hD k hd).1; omega)).trans (hp1.step.block k hk hn)
      · rw [hc2] at hk
        exact hp1.step.inew k hk
      · obtain ⟨i, o, ba, g1, g2⟩ := hk
        rw [hc2] at g2
        exact hp1.lb k ⟨i, o, ba, g1, g2⟩
      · rw [hc2]
        exact hp1.old i hi
    obtain ⟨rv, g1, g2⟩ := results_spec hv2 (hv1.mono he) hr2
    have hW2 : c2.W = w' := by rw [hc2]
    rw [hW2] at g1
    exact ⟨rv, g1, c2, rv, rfl, hW2, g2, hp2⟩
  rcases hne with rfl | rfl
  · cases e' <;> try exact h1.elim
    exact hleave
  · cases e' <;> try exact h1.elim
    exact hleave

theorem lvl_sound {env : Env} (hmix : env.P.follows .mixedOrders = true) (hX : ExtOK env) : ∀ k, CallOK env.P (lvl env k) ∧ CodeOK env.P (lvl env k)
  | 0 => ⟨fun f args st r st' h => (by cases h), fun fid code regs st e regs' st' h => (by cases h)⟩
  | k + 1 => by
    obtain ⟨h1, h2⟩ := lvl_sound hmix hX k
    exact ⟨fun f args st r st' h c vargs hv hr => callF_sound hmix h1 hX h2 h hv hr, fun fid code regs st e regs' st' h c a hv hr F hF => exec_sound hmix h1 hX h2 code regs st e regs' st' h c a hv hr F hF⟩

/-- What the machine computes on data, the program computes. -/
theorem vm_calls {env : Env} (hmix : env.P.follows .mixedOrders = true) (hX : ExtOK env) {k : Nat} {f : FuncId} {args : List PV} {r : PV} {sc : St} (h : (lvl env k).call f args ⟨[], 0⟩ = some (r, sc)) (hd : args.all isData = true) {c : Cfg} {vargs : Array Value} (hv : VL c args vargs) (hI : ∀ k, c.I k → k < c.W.heap.size) :
    Calls env.P f vargs c.W fun e w' => ∃ cc rv, e = .returned rv ∧ cc.W = w' ∧ VRel cc r rv ∧ Rel sc.heap.get (sc.next ≤ ·) cc ∧ cc.W.os = c.W.os ∧ cc.W.tape = c.W.tape ∧ cc.W.output = c.W.output ∧ c.W.heap.size ≤ cc.W.heap.size ∧ (∀ k, k < c.W.heap.size → cc.W.heap[k]? = c.W.heap[k]?) ∧
      (∀ k, c.I k → cc.I k) ∧ (∀ k, cc.I k → c.I k ∨ c.W.heap.size ≤ k) ∧ ∀ k, Lb sc.heap.get cc k → c.W.heap.size ≤ k :=
  callsIn_wide.1 (call_data (lvl_sound hmix hX k).1 h hv hd hI)
end Go.Proofs.Ytpepghaknilmhaa.Vm
