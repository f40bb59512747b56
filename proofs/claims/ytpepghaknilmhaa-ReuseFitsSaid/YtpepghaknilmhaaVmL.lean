/- The machine of plain values: steps of the walk, regions in one order. Written once for all seats. -/
import Derived.Test.YtpepghaknilmhaaVmK
import Derived.OrdersIn
namespace Go.Proofs.Ytpepghaknilmhaa.Vm
open Go
set_option linter.unusedVariables false
set_option linter.unusedSimpArgs false

theorem VL.set {c : Cfg} {regs : List PV} {tmps : Array Value} (h : VL c regs tmps) {v : PV} {rv : Value} (hv : VRel c v rv) (t : Nat) : VL c (regs.set t v) (tmps.setIfInBounds t rv) := by
  refine VL.mk' (by simp [h.1]) fun j u hj => ?_
  rw [List.getElem?_set] at hj
  by_cases e : t = j
  · subst e
    rw [if_pos rfl] at hj
    split at hj
    · rename_i hlt
      cases hj
      have : t < tmps.size := by rw [h.1]; exact hlt
      exact ⟨rv, by simp [this], hv⟩
    · cases hj
  · rw [if_neg e] at hj
    obtain ⟨x, h1, h2⟩ := h.get hj
    exact ⟨x, by rw [Array.getElem?_setIfInBounds_ne e]; exact h1, h2⟩
theorem VL.put {c : Cfg} {regs : List PV} {a : Act} (h : VL c regs a.tmps) {v : PV} {rv : Value} (hv : VRel c v rv) (d : Option Tmp) : VL c (put regs d v) (a.put d rv).tmps := by
  cases d with
  | none => exact h
  | some t => exact h.set hv t
theorem VL.eval {c : Cfg} {regs : List PV} {a : Act} (h : VL c regs a.tmps) (x : Operand) : VRel c (opd regs x) (a.eval x) := by
  cases x with
  | tmp t =>
    simp only [opd, Act.eval]
    rw [List.getD_eq_getElem?_getD]
    cases hj : regs[t]? with
    | none => exact .undef _
    | some u => exact h.2 t u hj
  | const v => exact ofConst_spec c v
  | func f => exact .func (by simp) (fun j u hj => by simp at hj)
  | global g => exact .undef _
theorem wanted_spec {c : Cfg} {regs : List PV} {a : Act} (h : VL c regs a.tmps) {ops : Array Oper} {o : Oper} {b : Bool} (e : wantedP ops regs o = some b) : Region.wanted o (yielded ops a.tmps) = b := by
  unfold wantedP at e
  unfold Region.wanted
  split at e
  · rename_i hg; cases e; rw [hg]
  · rename_i j want hg
    rw [hg]
    split at e
    · rename_i t ht
      split at e
      · rename_i b' hb
        cases e
        obtain ⟨x, h1, h2⟩ := h.get hb
        have := bool_inv h2
        subst this
        simp only [yielded, ht, Option.bind_some, h1]
        cases b' <;> cases want <;> rfl
      · rename_i vs hb
        cases e
        obtain ⟨x, h1, h2⟩ := h.get hb
        cases h2
        simp only [yielded, ht, Option.bind_some, h1]
        cases want <;> rfl
      · cases e
    · cases e

theorem zip_fold {c : Cfg} : ∀ (ps : List Tmp) (args : List PV) (vs : List Value) (tmps : List PV) (T : Array Value), VL c tmps T → args.length = vs.length → (∀ (j : Nat) (u : PV), args[j]? = some u → VRel c u (vs.getD j undef)) →
    VL c ((ps.zip args).foldl (fun t x => t.set x.1 x.2) tmps) ((ps.zip vs).foldl (fun (t : Array Value) (x : Tmp × Value) => t.setIfInBounds x.1 x.2) T)
  | [], _, _, _, _, h, _, _ => by simpa using h
  | p :: ps, [], vs, tmps, T, h, hl, _ => by
    have : vs = [] := List.eq_nil_of_length_eq_zero (by simpa using hl.symm)
    subst this
    simpa using h
  | p :: ps, x :: args, [], tmps, T, h, hl, _ => by simp at hl
  | p :: ps, x :: args, v :: vs, tmps, T, h, hl, hv => by
    simp only [List.zip_cons_cons, List.foldl_cons]
    exact zip_fold ps args vs _ _ (h.set (hv 0 x rfl) p) (by simpa using hl) (fun j u hj => hv (j + 1) u hj)

theorem yield_sound {P : Program} {L : Lvl} (hC : CodeOK P L) {l : Nat} {args : List PV} {st st' : St} {r : PV} (h : yieldRun L l args st = some (r, st')) {c : Cfg} {vargs : Array Value} (hv : VL c args vargs) (hr : Rel st.heap.get (st.next ≤ ·) c) {b : Nat} (hb : c.ρ l = some (b, 0)) (F : Fence) (hF : ∀ f, F.fn f)
    (hFi : F.inRound b = Fence.wide.inRound b) : ∃ r0 : Loop, c.W.heap[b]? = some (.loop r0) ∧ vargs.size = r0.params.size ∧ RoundIn F 0 P b r0.fn ((r0.params.zip vargs).foldl (fun tmps (t, a) => tmps.setIfInBounds t a) r0.tmps) r0.assign r0.body c.W (Back st.heap.get st.next c r st'.heap.get st'.next) := by
  unfold yieldRun at h
  split at h
  case h_2 => cases h
  rename_i fid pe tmps ps as bo hg
  split at h
  case isFalse => cases h
  rename_i hlen
  obtain ⟨b', base', hb', h0, L0, hL0, hst0, hpe0, hps0, has0, hbo0, htm0⟩ := hr.live l _ hg
  rw [hb] at hb'
  cases hb'
  refine ⟨L0, hL0, by rw [hv.1, hps0]; simp [hlen], ?_⟩
  split at h
  case h_2 => cases h
  rename_i r1 s1 hcode1
  split at h
  case h_2 => cases h
  rename_i fid' pe' tmps' ps' as' bo' hg1
  split at h
  case h_2 => cases h
  rename_i e rr s2 hcode2
  split at h
  case h_2 => cases h
  rename_i fid2 st2 pe2 tmps2 ps2 as2 bo2 hg2
  have hregs : VL c ((ps.zip args).foldl (fun t x => t.set x.1 x.2) tmps) ((L0.params.zip vargs).foldl (fun tmps (t, a) => tmps.setIfInBounds t a) L0.tmps) := by
    have := zip_fold (c := c) ps args vargs.toList tmps L0.tmps htm0 (by have := hv.1; simp; omega) (fun j u hj => by
      have := hv.2 j u hj
      rw [Array.getD_eq_getD_getElem?] at this
      rw [List.getD_eq_getElem?_getD, Array.getElem?_toList]
      exact this)
    rw [hps0]
    have hz : (ps.toArray.zip vargs).foldl (fun tmps (x : Tmp × Value) => match x with | (t, a) => tmps.setIfInBounds t a) L0.tmps = (ps.zip vargs.toList).foldl (fun (t : Array Value) (x : Tmp × Value) => t.setIfInBounds x.1 x.2) L0.tmps := by
      rw [← Array.foldl_toList, Array.toList_zip]
    rw [hz]
    exact this
  refine roundIn_of_wpIn (hF _) ?_
  rw [hFi, has0, hbo0]
  refine wpIn_mono (hC fid as _ st .normal r1 s1 hcode1 c ⟨(L0.params.zip vargs).foldl (fun tmps (t, a) => tmps.setIfInBounds t a) L0.tmps, []⟩ hregs hr _ (.inr ⟨b, rfl, L0, hL0⟩)) ?_
  rintro e1 a1 w1 ⟨hex, c1, rfl, hv1, hp1, hm1⟩
  cases e1 <;> try exact hex.elim
  obtain ⟨b1, base1, hb1, h01, L1, hL1, hst1, hpe1, hps1, has1, hbo1, htm1⟩ := hp1.rel.live l _ hg1
  have hbb := hp1.step.rho l _ hb
  rw [hbb] at hb1
  cases hb1
  refine ⟨_, run_beginRound hL1 hst1, ?_⟩
  have hlp := fun (hr : Rel s1.heap.get (s1.next ≤ ·) c1) => loop_put hr hg1 hbb hL1 (L1 := { L1 with state := .busy }) (y := .loop fid' .busy pe' tmps' ps' as' bo')
  have hlt1 := (Array.getElem?_eq_some_iff.1 hL1).1
  have he1 : Ext c1 ⟨c1.ρ, c1.I, c1.W.putObj b (.loop { L1 with state := .busy })⟩ := by
    refine ⟨fun _ _ h => h, fun _ h => h, fun k hk => World.putObj_heap_other (fun e => hp1.rel.notI l _ b 0 hg1 hbb (e ▸ hk)), fun k bs ⟨cs, t, h1, h2⟩ => ⟨cs, t, (World.putObj_heap_other (fun e => by rw [e, hL1] at h1; cases h1)).trans h1, h2⟩, fun k L hL => ?_⟩
    by_cases e : k = b
    · subst e; exact ⟨_, World.putObj_heap_same hlt1⟩
    · exact ⟨L, (World.putObj_heap_other e).trans hL⟩
  obtain ⟨hrel2, hstep2, hlb2⟩ := hlp hp1.rel ⟨rfl, _, World.putObj_heap_same hlt1, rfl, hpe1, hps1, has1, hbo1, htm1.mono he1⟩
  have hput : (fun i => if i = l then some (Obj.loop fid' .busy pe' tmps' ps' as' bo') else s1.heap.get i) = (s1.heap.put l (.loop fid' .busy pe' tmps' ps' as' bo')).get := by
    funext i
    rw [Heap.get_put, hg1]
    rfl
  rw [hput] at hrel2 hlb2
  have hL2 : (c1.W.putObj b (.loop { L1 with state := .busy })).heap[b]? = some (.loop { L1 with state := .busy }) := World.putObj_heap_same hlt1
  refine wpIn_mono (hC fid bo r1 ⟨s1.heap.put l (.loop fid' .busy pe' tmps' ps' as' bo'), s1.next⟩ e rr s2 hcode2 ⟨c1.ρ, c1.I, c1.W.putObj b (.loop { L1 with state := .busy })⟩ a1 (hv1.mono he1) hrel2 _ (.inr ⟨b, rfl, _, hL2⟩)) ?_
  rintro e2 a2 w2 ⟨hex2, c3, rfl, hv3, hp3, hm3⟩
  have hp12 : Post s1.heap.get (s1.heap.put l (.loop fid' .busy pe' tmps' ps' as' bo')).get s1.next s1.next c1 ⟨c1.ρ, c1.I, c1.W.putObj b (.loop { L1 with state := .busy })⟩ := ⟨hrel2, hstep2, fun k hk => .inl (hlb2 k hk), fun _ _ => rfl, Nat.le_refl _⟩
  have hp13 := (hp1.trans hp12).trans hp3
  obtain ⟨b3, base3, hb3, h03, L3, hL3, hst3, hpe3, hps3, has3, hbo3, htm3⟩ := hp3.rel.live l _ hg2
  have hbb3 := hp3.step.rho l _ (show (⟨c1.ρ, c1.I, c1.W.putObj b (.loop { L1 with state := .busy })⟩ : Cfg).ρ l = some (b, 0) from hbb)
  rw [hbb3] at hb3
  cases hb3
  have hlt3 := (Array.getElem?_eq_some_iff.1 hL3).1
  have fin : ∀ (jump : Option Code) (stt : LoopState) (hst : stt = if jump.isNone then .ready else .done), ∃ v w', (Instr.endRound b jump).run P c3.W = .ok v w' ∧
      Back st.heap.get st.next c (.d (.bool jump.isNone)) (s2.heap.put l (.loop fid2 stt jump tmps2 ps2 as2 bo2)).get s2.next (.returned v) w' := fun jump stt hst => by
    refine ⟨_, _, run_endRound jump hL3, ?_⟩
    have he3 : Ext c3 ⟨c3.ρ, c3.I, c3.W.putObj b (.loop { L3 with state := if jump.isNone then .ready else .done, pending := jump })⟩ := by
      refine ⟨fun _ _ h => h, fun _ h => h, fun k hk => World.putObj_heap_other (fun e => hp3.rel.notI l _ b 0 hg2 hbb3 (e ▸ hk)), fun k bs ⟨cs, t, h1, h2⟩ => ⟨cs, t, (World.putObj_heap_other (fun e => by rw [e, hL3] at h1; cases h1)).trans h1, h2⟩, fun k L hL => ?_⟩
      by_cases e : k = b
      · subst e; exact ⟨_, World.putObj_heap_same hlt3⟩
      · exact ⟨L, (World.putObj_heap_other e).trans hL⟩
    obtain ⟨hrel4, hstep4, hlb4⟩ := loop_put hp3.rel hg2 hbb3 hL3 (L1 := { L3 with state := if jump.isNone then .ready else .done, pending := jump }) (y := .loop fid2 stt jump tmps2 ps2 as2 bo2) ⟨rfl, _, World.putObj_heap_same hlt3, hst.symm, rfl, hps3, has3, hbo3, htm3.mono he3⟩
    have hput4 : (fun i => if i = l then some (Obj.loop fid2 stt jump tmps2 ps2 as2 bo2) else s2.heap.get i) = (s2.heap.put l (.loop fid2 stt jump tmps2 ps2 as2 bo2)).get := by
      funext i
      rw [Heap.get_put, hg2]
      rfl
    rw [hput4] at hrel4 hlb4
    exact ⟨_, _, rfl, rfl, .d (.bool _), hp13.trans ⟨hrel4, hstep4, fun k hk => .inl (hlb4 k hk), fun _ _ => rfl, Nat.le_refl _⟩⟩
  cases e with
  | normal =>
    simp only [Option.some.injEq, Prod.mk.injEq] at h
    obtain ⟨rfl, rfl⟩ := h
    cases e2 <;> try exact hex2.elim
    obtain ⟨v, w', h1, c5, rv, h2, h3, h4, h5⟩ := fin none .ready rfl
    exact ⟨v, w', h1, c5, rv, h2, h3, h4, h5.drop fun i o hi => (Heap.get_keep hi).1⟩
  | ret =>
    simp only [Option.some.injEq, Prod.mk.injEq] at h
    obtain ⟨rfl, rfl⟩ := h
    cases e2 <;> try exact hex2.elim
    exact fin (some .ret) .done rfl
  | exit id =>
    simp only [Option.some.injEq, Prod.mk.injEq] at h
    obtain ⟨rfl, rfl⟩ := h
    cases e2 <;> try exact hex2.elim
    cases hex2
    exact fin (some (.exit id)) .done rfl
  | goto t =>
    simp only [Option.some.injEq, Prod.mk.injEq] at h
    obtain ⟨rfl, rfl⟩ := h
    cases e2 <;> try exact hex2.elim
    cases hex2
    exact fin (some (.goto t)) .done rfl
end Go.Proofs.Ytpepghaknilmhaa.Vm
