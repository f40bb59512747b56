/- The machine of plain values: a call. Written once for all seats. -/
import Derived.Test.YtpepghaknilmhaaVmI
namespace Go.Proofs.Ytpepghaknilmhaa.Vm
open Go
set_option linter.unusedVariables false
set_option linter.unusedSimpArgs false

/-- What a call or a piece of code leaves behind. -/
structure Post (H H' : Nat → Option Obj) (nx nx' : Nat) (c c' : Cfg) : Prop where
  rel : Rel H' (nx' ≤ ·) c'
  step : Step (Lb H c) c c'
  lb : ∀ k, Lb H' c' k → Lb H c k ∨ c.W.heap.size ≤ k
  old : ∀ i, i < nx → c'.ρ i = c.ρ i
  le : nx ≤ nx'
theorem Post.trans {H H1 H2 : Nat → Option Obj} {n n1 n2 : Nat} {c c1 c2 : Cfg} (h : Post H H1 n n1 c c1) (g : Post H1 H2 n1 n2 c1 c2) : Post H H2 n n2 c c2 :=
  ⟨g.rel, h.step.trans h.lb g.step, fun k hk => (g.lb k hk).elim (h.lb k) (fun l => .inr (Nat.le_trans h.step.size l)), fun i hi => (g.old i (Nat.lt_of_lt_of_le hi h.le)).trans (h.old i hi), Nat.le_trans h.le g.le⟩
theorem Post.refl {H : Nat → Option Obj} {n : Nat} {c : Cfg} (h : Rel H (n ≤ ·) c) : Post H H n n c c := ⟨h, Step.refl _ _, fun _ h => .inl h, fun _ _ => rfl, Nat.le_refl _⟩
/-- Fewer objects are left. -/
theorem Post.drop {H H1 H2 : Nat → Option Obj} {n n1 : Nat} {c c1 : Cfg} (h : Post H H1 n n1 c c1) (hs : ∀ i o, H2 i = some o → H1 i = some o) : Post H H2 n n1 c c1 :=
  ⟨h.rel.sub hs (fun _ h => h), h.step, fun k ⟨i, o, ba, h1, h2⟩ => h.lb k ⟨i, o, ba, hs i o h1, h2⟩, h.old, h.le⟩

/-- How a call ends. -/
def Back (H : Nat → Option Obj) (nx : Nat) (c : Cfg) (r : PV) (H' : Nat → Option Obj) (nx' : Nat) (e : Ending) (w' : World) : Prop :=
  ∃ c' rv, e = .returned rv ∧ c'.W = w' ∧ VRel c' r rv ∧ Post H H' nx nx' c c'
def CallOK (P : Program) (L : Lvl) : Prop := ∀ f args st r st', L.call f args st = some (r, st') → ∀ c vargs, VL c args vargs → Rel st.heap.get (st.next ≤ ·) c →
  CallsIn Fence.wide 0 P f vargs c.W (Back st.heap.get st.next c r st'.heap.get st'.next)
/-- Contracts that come from elsewhere: data in, data out. -/
def ExtOK (env : Env) : Prop := ∀ f args r, env.ext f args = some r → isData r = true ∧ ∀ (c : Cfg) (vargs : Array Value), VL c args vargs → (∀ k, c.I k → k < c.W.heap.size) →
  Calls env.P f vargs c.W fun e w' => ∃ rv I', e = .returned rv ∧ w'.os = c.W.os ∧ w'.tape = c.W.tape ∧ w'.output = c.W.output ∧ c.W.heap.size ≤ w'.heap.size ∧ (∀ k, k < c.W.heap.size → w'.heap[k]? = c.W.heap[k]?) ∧ (∀ k, c.I k → I' k) ∧ (∀ k, I' k → c.I k ∨ c.W.heap.size ≤ k) ∧ (∀ k, I' k → k < w'.heap.size) ∧ VRel ⟨fun _ => none, I', w'⟩ r rv

theorem rel_nil (I : Nat → Prop) (W : World) (hI : ∀ k, I k → k < W.heap.size) (N : Nat → Prop) : Rel (Heap.get []) N ⟨fun _ => none, I, W⟩ :=
  ⟨fun i o h => (by cases h), fun i j o o' b ba bb h => (by cases h), fun i o b ba h => (by cases h), hI, fun _ _ => rfl⟩

theorem lb_lt {H : Nat → Option Obj} {N : Nat → Prop} {c : Cfg} (hr : Rel H N c) {k : Nat} (h : Lb H c k) : k < c.W.heap.size := by
  obtain ⟨i, o, ba, h1, h2⟩ := h
  obtain ⟨b, ba', h3, h4⟩ := hr.live i o h1
  rw [h2] at h3; cases h3; exact h4.lt

/-- The world has grown elsewhere; more of it is data. -/
theorem post_grown {H : Nat → Option Obj} {nx : Nat} {c : Cfg} (hr : Rel H (nx ≤ ·) c) {I' : Nat → Prop} {W' : World} (hos : W'.os = c.W.os) (htape : W'.tape = c.W.tape) (hout : W'.output = c.W.output) (hsz : c.W.heap.size ≤ W'.heap.size) (hb : ∀ k, k < c.W.heap.size → W'.heap[k]? = c.W.heap[k]?)
    (hI : ∀ k, c.I k → I' k) (hn : ∀ k, I' k → c.I k ∨ c.W.heap.size ≤ k) (hlt : ∀ k, I' k → k < W'.heap.size) : Post H H nx nx c ⟨c.ρ, I', W'⟩ := by
  have he : Ext c ⟨c.ρ, I', W'⟩ := ⟨fun _ _ h => h, hI, fun k hk => hb k (hr.immlt k hk), fun b bs ⟨cs, t, h1, h2⟩ => ⟨cs, t, (hb b (Array.getElem?_eq_some_iff.1 h1).1).trans h1, h2⟩, fun b L h => ⟨L, (hb b (Array.getElem?_eq_some_iff.1 h).1).trans h⟩⟩
  have hst : ∀ T, Step T c ⟨c.ρ, I', W'⟩ := fun T => ⟨he, hos, htape, hout, hsz, fun k hk _ => hb k hk, fun k hk => (hn k hk).elim .inl (fun h => .inr (.inr h))⟩
  refine ⟨hr.carry (hst fun _ => False) (fun _ _ h => h) hlt hr.fresh (fun k hk hi => ?_), hst _, fun k hk => .inl hk, fun _ _ => rfl, Nat.le_refl _⟩
  rcases hn k hi with h | h
  · obtain ⟨i, o, ba, h1, h2⟩ := hk
    exact hr.notI i o k ba h1 h2 h
  · have := lb_lt hr hk; omega

theorem frzR_sound (N : Nat → Prop) (k : Nat) (h : Heap) (p p' : PV) (h' : Heap) (c : Cfg) (v : Value) (e : frzR k h p = some (p', h')) (hr : Rel h.get N c) (hv : VRel c p v) : ∃ c', Rel h'.get N c' ∧ Frz h c h' c' ∧ VRel c' p' v ∧
    ∀ c2 : Cfg, (∀ k, c'.I k → c2.I k) → (∀ k, c'.I k → c2.W.heap[k]? = c'.W.heap[k]?) → VRel c2 p' v := by
  have hone : ∀ {p p' : PV} {h h' : Heap} {c : Cfg} {v : Value}, frzV k h p = some (p', h') → Rel h.get N c → VRel c p v → ∃ c', Rel h'.get N c' ∧ Frz h c h' c' ∧ VRel c' p' v ∧ ∀ c2 : Cfg, (∀ k, c'.I k → c2.I k) → (∀ k, c'.I k → c2.W.heap[k]? = c'.W.heap[k]?) → VRel c2 p' v := fun {p p' h h' c v} e hr hv => by
    obtain ⟨c', q1, q2, q3, q4⟩ := frzV_sound N k h p p' h' c v e hr hv
    exact ⟨c', q1, q2, q3, fun c2 a b => data_mono a b q4 q3⟩
  cases p with
  | tuple cs =>
    simp only [frzR] at e
    obtain ⟨⟨ps, h2⟩, h1, e⟩ := Option.map_eq_some_iff.1 e
    simp only [Prod.mk.injEq] at e
    obtain ⟨rfl, rfl⟩ := e
    cases hv with
    | @tuple _ vs hs hv =>
      obtain ⟨c1, q1, q2, q3, q4⟩ := thread_sound (f := frzV k) (fun h c => Rel h.get N c) Frz VRel (fun c p v => VRel c p v ∧ isData p = true) Frz.refl Frz.trans (fun _ e h => h.mono e.ext) (fun _ e h => ⟨h.1.mono e.ext, h.2⟩)
        (fun x p p' x' c v => frzV_sound N k x p p' x' c v) _ _ _ _ c (fun j => vs.getD j undef) h1 hr (fun j u hj => hv j u hj)
      exact ⟨c1, q1, q2, .tuple (by rw [hs, q3]) (fun j u hj => (q4 j u hj).1), fun c2 a b => .tuple (by rw [hs, q3]) (fun j u hj => data_mono a b (q4 j u hj).2 (q4 j u hj).1)⟩
  | undef => exact hone (p := .undef) e hr hv
  | d y => exact hone (p := .d y) e hr hv
  | ref a b c d => exact hone (p := .ref a b c d) e hr hv
  | ptr a b => exact hone (p := .ptr a b) e hr hv
  | rd a => exact hone (p := .rd a) e hr hv
  | nilptr => exact hone (p := .nilptr) e hr hv
  | func a b => exact hone (p := .func a b) e hr hv
  | nilfunc => exact hone (p := .nilfunc) e hr hv
  | yield a => exact hone (p := .yield a) e hr hv
  | nilmap => exact hone (p := .nilmap) e hr hv
  | agg a => exact hone (p := .agg a) e hr hv

theorem vl_data {c c' : Cfg} {args : List PV} {vargs : Array Value} (hd : args.all isData = true) (hI : ∀ k, c.I k → c'.I k) (hs : ∀ k, c.I k → c'.W.heap[k]? = c.W.heap[k]?) (h : VL c args vargs) : VL c' args vargs :=
  ⟨h.1, fun j u hj => data_mono hI hs (List.all_eq_true.1 hd u (List.mem_of_getElem? hj)) (h.2 j u hj)⟩

/-- Arguments are frozen. -/
theorem args_frozen {N : Nat → Prop} {h h' : Heap} {args args' : List PV} {vargs : Array Value} {c : Cfg} (e : thread (frzV 8) h args = some (args', h')) (hr : Rel h.get N c) (hv : VL c args vargs) : ∃ c', Rel h'.get N c' ∧ Frz h c h' c' ∧ VL c' args' vargs ∧ args'.all isData = true := by
  obtain ⟨c1, q1, q2, q3, q4⟩ := thread_sound (f := frzV 8) (fun h c => Rel h.get N c) Frz VRel (fun c p v => VRel c p v ∧ isData p = true) Frz.refl Frz.trans (fun _ e h => h.mono e.ext) (fun _ e h => ⟨h.1.mono e.ext, h.2⟩)
    (fun x p p' x' c v => frzV_sound N 8 x p p' x' c v) _ _ _ _ c (fun j => vargs.getD j undef) e hr hv.2
  exact ⟨c1, q1, q2, ⟨by rw [hv.1, q3], fun j u hj => (q4 j u hj).1⟩, List.all_eq_true.2 fun u hu => by obtain ⟨j, hj⟩ := List.mem_iff_getElem?.1 hu; exact (q4 j u hj).2⟩

/-- A call on data alone, from the callee's side. -/
theorem call_data {P : Program} {L : Lvl} (hL : CallOK P L) {f : FuncId} {args : List PV} {r : PV} {sc : St} (h : L.call f args ⟨[], 0⟩ = some (r, sc)) {c : Cfg} {vargs : Array Value} (hv : VL c args vargs) (hd : args.all isData = true) (hI : ∀ k, c.I k → k < c.W.heap.size) :
    CallsIn Fence.wide 0 P f vargs c.W fun e w' => ∃ cc rv, e = .returned rv ∧ cc.W = w' ∧ VRel cc r rv ∧ Rel sc.heap.get (sc.next ≤ ·) cc ∧ cc.W.os = c.W.os ∧ cc.W.tape = c.W.tape ∧ cc.W.output = c.W.output ∧ c.W.heap.size ≤ cc.W.heap.size ∧ (∀ k, k < c.W.heap.size → cc.W.heap[k]? = c.W.heap[k]?) ∧
      (∀ k, c.I k → cc.I k) ∧ (∀ k, cc.I k → c.I k ∨ c.W.heap.size ≤ k) ∧ ∀ k, Lb sc.heap.get cc k → c.W.heap.size ≤ k := by
  have hv0 : VL ⟨fun _ => none, c.I, c.W⟩ args vargs := vl_data (c := c) hd (fun _ h => h) (fun _ _ => rfl) hv
  refine CallsIn.mono (hL f args ⟨[], 0⟩ r sc h ⟨fun _ => none, c.I, c.W⟩ vargs hv0 (rel_nil c.I c.W hI _)) ?_
  rintro e w' ⟨cc, rv, rfl, rfl, h1, h2⟩
  have hno : ∀ k, ¬ Lb (Heap.get []) ⟨fun _ => none, c.I, c.W⟩ k := fun k ⟨i, o, ba, h, _⟩ => by cases h
  exact ⟨cc, rv, rfl, rfl, h1, h2.rel, h2.step.os, h2.step.tape, h2.step.output, h2.step.size, fun k hk => h2.step.block k hk (hno k), h2.step.imm, fun k hk => (h2.step.inew k hk).elim .inl (fun h => h.elim (fun h => absurd h (hno k)) .inr), fun k hk => (h2.lb k hk).resolve_left (hno k)⟩

end Go.Proofs.Ytpepghaknilmhaa.Vm
