/- The machine of plain values: calls in the walk. Written once for all seats. -/
import Derived.Test.YtpepghaknilmhaaVmJ
import Derived.RangeFuncCalls
namespace Go.Proofs.Ytpepghaknilmhaa.Vm
open Go
set_option linter.unusedVariables false
set_option linter.unusedSimpArgs false

theorem callOp_sound {env : Env} {L : Lvl} (hL : CallOK env.P L) (hX : ExtOK env) {f : FuncId} {args : List PV} {st st' : St} {r : PV} {big : Bool} (h : callOp env L f args st = some (r, st', big)) {c : Cfg} {vargs : Array Value} (hv : VL c args vargs) (hr : Rel st.heap.get (st.next ≤ ·) c) :
    okFn env.P f = true ∧ (big = false → st' = st) ∧ CallsIn Fence.wide 0 env.P f vargs c.W (Back st.heap.get st.next c r st'.heap.get st'.next) := by
  unfold callOp at h
  split at h
  case isFalse => cases h
  rename_i hok
  refine ⟨hok, ?_⟩
  split at h
  · rename_i r' hx
    simp only [Option.some.injEq, Prod.mk.injEq] at h
    obtain ⟨rfl, rfl, rfl⟩ := h
    obtain ⟨hd, hc⟩ := hX f args _ hx
    refine ⟨fun _ => rfl, CallsIn.mono (callsIn_wide.2 (hc c vargs hv hr.immlt)) ?_⟩
    rintro e w' ⟨rv, I', rfl, h1, h2, h3, h4, h5, h6, h7, h8, h9⟩
    exact ⟨⟨c.ρ, I', w'⟩, rv, rfl, rfl, data_mono (c := ⟨fun _ => none, I', w'⟩) (c' := ⟨c.ρ, I', w'⟩) (fun _ h => h) (fun _ _ => rfl) hd h9, post_grown hr h1 h2 h3 h4 h5 h6 h7 h8⟩
  · split at h
    · obtain ⟨⟨r1, st1⟩, h1, h⟩ := Option.map_eq_some_iff.1 h
      simp only [Prod.mk.injEq] at h
      obtain ⟨rfl, h2, rfl⟩ := h
      refine ⟨(fun e => by cases e), CallsIn.mono (hL f args st _ st1 h1 c vargs hv hr) ?_⟩
      rintro e w' ⟨c', rv, rfl, rfl, h3, h4⟩
      refine ⟨c', rv, rfl, rfl, h3, ?_⟩
      split at h2
      · subst h2; exact h4
      · subst h2; exact h4.drop fun i o hi => (Heap.get_keep hi).1
    · obtain ⟨⟨args', h'⟩, h1, h⟩ := Option.bind_eq_some_iff.1 h
      obtain ⟨⟨r1, sc⟩, h2, h⟩ := Option.bind_eq_some_iff.1 h
      split at h
      case isFalse => cases h
      rename_i hs
      simp only [Option.some.injEq, Prod.mk.injEq] at h
      obtain ⟨rfl, rfl, rfl⟩ := h
      refine ⟨fun _ => rfl, ?_⟩
      obtain ⟨c1, q1, q2, q3, q4⟩ := args_frozen h1 hr hv
      have hcl := call_data hL h2 q3 q4 q1.immlt
      rw [q2.2.1] at hcl
      refine CallsIn.mono hcl ?_
      rintro e w' ⟨cc, rv, rfl, rfl, a1, a2, a3, a4, a5, a6, a7, a8, a9, a10⟩
      exact ⟨⟨c.ρ, c.I, cc.W⟩, rv, rfl, rfl, scal_mono hs a1, post_grown hr a3 a4 a5 a6 a7 (fun _ h => h) (fun _ h => .inl h) (fun k hk => Nat.lt_of_lt_of_le (hr.immlt k hk) a6)⟩
    · rename_i own hmode
      split at h
      · obtain ⟨⟨args', h'⟩, h1, h⟩ := Option.bind_eq_some_iff.1 h
        obtain ⟨⟨r1, sc⟩, h2, h⟩ := Option.bind_eq_some_iff.1 h
        obtain ⟨⟨r2, hc2, st2⟩, h3, h⟩ := Option.map_eq_some_iff.1 h
        simp only [Prod.mk.injEq] at h
        obtain ⟨rfl, rfl, rfl⟩ := h
        refine ⟨(fun e => by cases e), ?_⟩
        obtain ⟨c1, q1, q2, q3, q4⟩ := args_frozen h1 hr hv
        have hcl := call_data hL h2 q3 q4 q1.immlt
        rw [q2.2.1] at hcl
        refine CallsIn.mono hcl ?_
        rintro e w' ⟨cc, rv, rfl, rfl, a1, a2, a3, a4, a5, a6, a7, a8, a9, a10⟩
        have hW1 : c1.W = c.W := q2.2.1
        have p1 : Post (Heap.get h') (Heap.get h') st.next st.next c1 ⟨c1.ρ, cc.I, cc.W⟩ := post_grown q1 (by rw [hW1]; exact a3) (by rw [hW1]; exact a4) (by rw [hW1]; exact a5) (by rw [hW1]; exact a6) (fun k hk => by rw [hW1] at hk ⊢; exact a7 k hk) a8 (fun k hk => by rw [hW1]; exact a9 k hk) a2.immlt
        have htwo : Two c.W.heap.size (sc.next ≤ ·) (sc.heap, ⟨h', st.next⟩) (cc, ⟨c1.ρ, cc.I, cc.W⟩) := by
          refine ⟨a2, p1.rel, rfl, rfl, fun k hk hk2 => ?_, a10⟩
          have h5 := a10 k hk
          have h6 := lb_lt q1 (k := k) hk2
          rw [hW1] at h6
          omega
        obtain ⟨⟨cc', c3⟩, b1, b2, b3⟩ := adopt_sound _ _ 8 own _ _ _ _ _ rv h3 htwo a1
        refine ⟨c3, rv, rfl, b2.W, b3, ?_⟩
        have s1 := q2.step
        have s12 : Step (Lb st.heap.get c) c ⟨c1.ρ, cc.I, cc.W⟩ := s1.trans (fun k hk => .inl (q2.lb hk)) p1.step
        have hW3 : c3.W = cc.W := b2.W
        have s3 : Step (Lb sc.heap.get cc) ⟨c1.ρ, cc.I, cc.W⟩ c3 := ⟨b2.e, by rw [hW3], by rw [hW3], by rw [hW3], by rw [hW3]; exact Nat.le_refl _, fun k _ _ => by rw [hW3], fun j hj => (b2.I j hj).imp (fun h => h) .inl⟩
        refine ⟨b1.cr, s12.trans (fun k hk => .inr (a10 k hk)) s3, fun k hk => ?_, fun i hi => ?_, b2.le⟩
        · rcases b2.lb k hk with h | h
          · exact .inl (q2.lb h)
          · exact .inr (a10 k h)
        · rw [b2.old i hi]
          show c1.ρ i = c.ρ i
          rw [q2.1]
      · rename_i hcond
        obtain ⟨⟨r1, sc⟩, h2, h⟩ := Option.bind_eq_some_iff.1 h
        obtain ⟨⟨r2, hc2⟩, h3, h⟩ := Option.map_eq_some_iff.1 h
        simp only [Prod.mk.injEq] at h
        obtain ⟨rfl, rfl, rfl⟩ := h
        refine ⟨fun _ => rfl, ?_⟩
        have hd : args.all isData = true := by
          rw [Bool.not_eq_true, Bool.or_eq_false_iff] at hcond
          simpa using hcond.2
        refine CallsIn.mono (call_data hL h2 hv hd hr.immlt) ?_
        rintro e w' ⟨cc, rv, rfl, rfl, a1, a2, a3, a4, a5, a6, a7, a8, a9, a10⟩
        obtain ⟨c', b1, b2, b3, b4⟩ := frzR_sound _ 8 _ _ _ _ cc rv h3 a2 a1
        refine ⟨⟨c.ρ, c'.I, cc.W⟩, rv, rfl, rfl, b4 _ (fun _ h => h) (fun _ _ => by rw [b2.2.1]), post_grown hr a3 a4 a5 a6 a7 (fun k hk => b2.2.2.1 k (a8 k hk)) (fun k hk => ?_) (fun k hk => ?_)⟩
        · rcases b2.2.2.2.1 k hk with h | h
          · exact a9 k h
          · exact .inr (a10 k h)
        · have := b1.immlt k hk
          rw [b2.2.1] at this
          exact this

/-! ### Rounds -/
def ExRel : Ex → Exit → Prop
  | .normal, .normal => True
  | .exit i, .exit j => i = j
  | .goto i, .goto j => i = j
  | .ret, .ret => True
  | _, _ => False
def dmark (D : Nat) : Deferred := { target := .collected D, args := #[] }
/-- Marks that ranges over functions have left. -/
def Marks (H : Nat → Option Obj) (c : Cfg) (B : Nat) (d d' : List Deferred) : Prop :=
  ∃ Ds : List Nat, d' = Ds.map dmark ++ d ∧ Ds.Nodup ∧ ∀ D ∈ Ds, B ≤ D ∧ c.W.heap[D]? = some (.deferred (some [])) ∧ ¬ Lb H c D ∧ ¬ c.I D
def FOK (F : Fence) (W : World) : Prop := F = Fence.wide ∨ ∃ l, F = Fence.wide.inRound l ∧ ∃ L, W.heap[l]? = some (.loop L)
theorem FOK.ext {F : Fence} {c c' : Cfg} (h : FOK F c.W) (e : Ext c c') : FOK F c'.W := by
  rcases h with h | ⟨l, h, L, hl⟩
  · exact .inl h
  · exact .inr ⟨l, h, e.loops l L hl⟩
def CodeEnd (st st' : St) (c : Cfg) (regs' : List PV) (e : Ex) (d : List Deferred) (e' : Exit) (a' : Act) (w' : World) : Prop :=
  ExRel e e' ∧ ∃ c', c'.W = w' ∧ VL c' regs' a'.tmps ∧ Post st.heap.get st'.heap.get st.next st'.next c c' ∧ Marks st'.heap.get c' c.W.heap.size d a'.defers
def CodeOK (P : Program) (L : Lvl) : Prop := ∀ fid code regs st e regs' st', L.code fid code regs st = some (e, regs', st') → ∀ (c : Cfg) (a : Act), VL c regs a.tmps → Rel st.heap.get (st.next ≤ ·) c → ∀ F, FOK F c.W →
  code.wpIn F 0 P (CodeEnd st st' c regs' e a.defers) a c.W
theorem Marks.nil (H : Nat → Option Obj) (c : Cfg) (B : Nat) (d : List Deferred) : Marks H c B d d := ⟨[], rfl, List.nodup_nil, fun D h => by cases h⟩
theorem Marks.trans {H1 H2 : Nat → Option Obj} {n1 n2 B : Nat} {c1 c2 : Cfg} {d d1 d2 : List Deferred} (hB : B ≤ c1.W.heap.size) (h : Marks H1 c1 B d d1) (hp : Post H1 H2 n1 n2 c1 c2) (g : Marks H2 c2 c1.W.heap.size d1 d2) : Marks H2 c2 B d d2 := by
  obtain ⟨Ds, rfl, hn, hD⟩ := h
  obtain ⟨Es, rfl, hn2, hE⟩ := g
  have hlt : ∀ D ∈ Ds, D < c1.W.heap.size := fun D h => (Array.getElem?_eq_some_iff.1 (hD D h).2.1).1
  refine ⟨Es ++ Ds, by simp, List.nodup_append.2 ⟨hn2, hn, fun a ha b hb e => ?_⟩, fun D h => ?_⟩
  · subst e
    have := (hE a ha).1
    have := hlt a hb
    omega
  · rcases List.mem_append.1 h with h | h
    · exact ⟨Nat.le_trans hB (hE D h).1, (hE D h).2⟩
    · refine ⟨(hD D h).1, (hp.step.block D (hlt D h) (hD D h).2.2.1).trans (hD D h).2.1, fun hl => ?_, fun hi => ?_⟩
      · rcases hp.lb D hl with h' | h'
        · exact (hD D h).2.2.1 h'
        · have := hlt D h; omega
      · rcases hp.step.inew D hi with h' | h' | h'
        · exact (hD D h).2.2.2 h'
        · exact (hD D h).2.2.1 h'
        · have := hlt D h; omega
theorem Marks.drop {H H' : Nat → Option Obj} {c : Cfg} {B : Nat} {d d' : List Deferred} (h : Marks H c B d d') (hs : ∀ i o, H' i = some o → H i = some o) : Marks H' c B d d' := by
  obtain ⟨Ds, h1, h2, h3⟩ := h
  exact ⟨Ds, h1, h2, fun D hD => ⟨(h3 D hD).1, (h3 D hD).2.1, fun ⟨i, o, ba, a, b⟩ => (h3 D hD).2.2.1 ⟨i, o, ba, hs i o a, b⟩, (h3 D hD).2.2.2⟩⟩

/-- A loop's record is written. -/
theorem loop_put {H : Nat → Option Obj} {N : Nat → Prop} {c : Cfg} (hr : Rel H N c) {l b : Nat} {x y : Obj} (hx : H l = some x) (hb : c.ρ l = some (b, 0)) {L0 L1 : Loop} (h0 : c.W.heap[b]? = some (.loop L0))
    (hy : ORel ⟨c.ρ, c.I, c.W.putObj b (.loop L1)⟩ y b 0) : Rel (fun i => if i = l then some y else H i) N ⟨c.ρ, c.I, c.W.putObj b (.loop L1)⟩ ∧ Step (Lb H c) c ⟨c.ρ, c.I, c.W.putObj b (.loop L1)⟩ ∧ ∀ k, Lb (fun i => if i = l then some y else H i) ⟨c.ρ, c.I, c.W.putObj b (.loop L1)⟩ k → Lb H c k := by
  have hlt := (Array.getElem?_eq_some_iff.1 h0).1
  have hnI := hr.notI l x b 0 hx hb
  have ho : ∀ k, k ≠ b → (c.W.putObj b (.loop L1)).heap[k]? = c.W.heap[k]? := fun k hk => World.putObj_heap_other hk
  have hs : (c.W.putObj b (.loop L1)).heap.size = c.W.heap.size := by simp
  have he : Ext c ⟨c.ρ, c.I, c.W.putObj b (.loop L1)⟩ := by
    refine ⟨fun _ _ h => h, fun _ h => h, fun k hk => ho k (fun e => hnI (e ▸ hk)), fun k bs ⟨cs, t, h1, h2⟩ => ⟨cs, t, (ho k (fun e => by rw [e, h0] at h1; cases h1)).trans h1, h2⟩, fun k L hL => ?_⟩
    by_cases e : k = b
    · subst e; exact ⟨L1, World.putObj_heap_same hlt⟩
    · exact ⟨L, (ho k e).trans hL⟩
  have hlb : ∀ k, Lb (fun i => if i = l then some y else H i) ⟨c.ρ, c.I, c.W.putObj b (.loop L1)⟩ k → Lb H c k := fun k ⟨i, o, ba, h1, h2⟩ => by
    by_cases e : i = l
    · subst e; exact ⟨i, x, ba, hx, h2⟩
    · simp only [if_neg e] at h1; exact ⟨i, o, ba, h1, h2⟩
  have hap : ∀ i o b1 ba, H i = some o → c.ρ i = some (b1, ba) → i ≠ l → b1 ≠ b := fun i o b1 ba h1 h2 hi e => hi (hr.apart i l o x b1 ba 0 h1 hx h2 (e ▸ hb))
  refine ⟨⟨fun i o hi => ?_, fun i j o o' b1 ba bb h1 h2 h3 h4 => ?_, fun i o b1 ba hi h1 => ?_, fun k hk => by show k < (c.W.putObj b (.loop L1)).heap.size; rw [hs]; exact hr.immlt k hk, hr.fresh⟩,
    ⟨he, rfl, rfl, rfl, by show c.W.heap.size ≤ (c.W.putObj b (.loop L1)).heap.size; rw [hs]; exact Nat.le_refl _, fun k _ hn => ho k (fun e => hn ⟨l, x, 0, hx, e ▸ hb⟩), fun _ h => .inl h⟩, hlb⟩
  · by_cases e : i = l
    · subst e
      simp only [if_pos] at hi
      cases hi
      exact ⟨b, 0, hb, hy⟩
    · simp only [if_neg e] at hi
      obtain ⟨b1, ba, h1, h2⟩ := hr.live i o hi
      exact ⟨b1, ba, h1, h2.mono he (ho b1 (hap i o b1 ba hi h1 e))⟩
  · have hH : ∀ i o, (if i = l then some y else H i) = some o → ∃ o', H i = some o' := fun i o h => by
      by_cases e : i = l
      · subst e; exact ⟨x, hx⟩
      · rw [if_neg e] at h; exact ⟨o, h⟩
    obtain ⟨p, hp⟩ := hH i o h1
    obtain ⟨q, hq⟩ := hH j o' h2
    exact hr.apart i j p q b1 ba bb hp hq h3 h4
  · by_cases e : i = l
    · subst e; exact hr.notI i x b1 ba hx h1
    · simp only [if_neg e] at hi; exact hr.notI i o b1 ba hi h1
end Go.Proofs.Ytpepghaknilmhaa.Vm
