/- The machine of plain values: a region whose operations may come in any order: it comes to what the order of the text comes to. Written once for all seats. -/
import Derived.Test.YtpepghaknilmhaaVmO
namespace Go.Proofs.Ytpepghaknilmhaa.Vm
open Go
set_option linter.unusedVariables false
set_option linter.unusedSimpArgs false

/-- A call that has nothing to do with the caller's memory. -/
theorem callOp_free {env : Env} {L : Lvl} {f : FuncId} {args : List PV} {st st' : St} {r : PV} (h : callOp env L f args st = some (r, st', false)) (st2 : St) : callOp env L f args st2 = some (r, st2, false) := by
  unfold callOp at h ⊢
  split at h
  case isFalse => cases h
  rename_i hok
  rw [if_pos hok]
  split at h
  · rename_i r' hx
    simp only [Option.some.injEq, Prod.mk.injEq] at h
    obtain ⟨rfl, _, _⟩ := h
    rfl
  · split at h
    · obtain ⟨x, h1, h2⟩ := Option.map_eq_some_iff.1 h
      simp only [Prod.mk.injEq] at h2
      exact absurd h2.2.2 (by simp)
    · obtain ⟨y, h1, h⟩ := Option.bind_eq_some_iff.1 h
      obtain ⟨x, h2, h⟩ := Option.bind_eq_some_iff.1 h
      split at h
      · simp at h
      · cases h
    · split at h
      · obtain ⟨y, h1, h⟩ := Option.bind_eq_some_iff.1 h
        obtain ⟨x, h2, h⟩ := Option.bind_eq_some_iff.1 h
        obtain ⟨z, h3, h⟩ := Option.map_eq_some_iff.1 h
        simp at h
      · rename_i hc
        rw [if_neg hc]
        obtain ⟨x, h2, h⟩ := Option.bind_eq_some_iff.1 h
        obtain ⟨z, h3, h⟩ := Option.map_eq_some_iff.1 h
        simp only [Prod.mk.injEq] at h
        obtain ⟨rfl, _, _⟩ := h
        simp only [h2, Option.bind_some, h3, Option.map_some]

theorem put_at (regs : List PV) (d : Option Tmp) (v : PV) (t : Nat) : (put regs d v)[t]? = if d = some t then (if t < regs.length then some v else none) else regs[t]? := by
  cases d with
  | none => simp [put]
  | some s =>
    simp only [put, List.getElem?_set, Option.some.injEq]
    by_cases e : s = t
    · subst e; rfl
    · rw [if_neg e, if_neg e]
theorem put_length (regs : List PV) (d : Option Tmp) (v : PV) : (put regs d v).length = regs.length := by cases d <;> simp [put]
theorem put_comm (regs : List PV) {d e : Option Tmp} (v w : PV) (h : ∀ t, d = some t → e ≠ some t) : put (put regs d v) e w = put (put regs e w) d v := by
  cases d with
  | none => rfl
  | some s =>
    cases e with
    | none => rfl
    | some t => exact (List.set_comm v w (fun e => h s rfl (by rw [e])))

section
variable {env : Env} {L : Lvl} {fid nid0 : Nat} {ops : Array Oper} {R : Nat → List PV} {S : Nat → St} {T : Nat → PV × TE}

/-- What is known of the run in the order of the text. -/
structure Sched (env : Env) (L : Lvl) (fid nid0 : Nat) (ops : Array Oper) (R : Nat → List PV) (S : Nat → St) (T : Nat → PV × TE) : Prop where
  run : Listed env L fid nid0 ops 0 ops.size R S T
  start : (S 0).next = nid0 + ops.size
  pair : ∀ i j, i < j → j < ops.size → bef ops j i = false → compat (T i).2 (T j).2 = true
  regs : ∀ i d, dstOf ops i = some d → ∀ j o, ops[j]? = some o → i ≠ j → (d ∈ o.looksAt ops ∨ o.dst = some d) → bef ops (max i j) (min i j) = true
  low : ∀ j o, ops[j]? = some o → ∀ e ∈ o.after, Region.binds .any e = true → e.on < j

def RD (ops : Array Oper) (R : Nat → List PV) (T : Nat → PV × TE) (D : Nat → Bool) : List PV := foldD (fun i r => put r (dstOf ops i) (T i).1) D ops.size (R 0)
def HD (ops : Array Oper) (S : Nat → St) (T : Nat → PV × TE) (D : Nat → Bool) (id : Nat) : Option Obj := foldD (fun i o => (T i).2.at id o) D ops.size ((S 0).heap.get id)
def CD (ops : Array Oper) (S : Nat → St) (T : Nat → PV × TE) (D : Nat → Bool) : Nat := foldD (fun i n => if isBig (T i).2 then (S (i + 1)).next else n) D ops.size (S 0).next
def ND (nid0 : Nat) (ops : Array Oper) (S : Nat → St) (T : Nat → PV × TE) (D : Nat → Bool) (id : Nat) : Prop := CD ops S T D ≤ id ∨ ∃ k, k < ops.size ∧ D k = false ∧ id = nid0 + k

theorem Sched.dst (h : Sched env L fid nid0 ops R S T) {i : Nat} (hi : i < ops.size) : R (i + 1) = put (R i) (dstOf ops i) (T i).1 := by
  obtain ⟨o, h1, h2, _⟩ := h.run.at_ i (Nat.zero_le _) (by omega)
  rw [h2]
  simp [dstOf, h1]
theorem Sched.heap (h : Sched env L fid nid0 ops R S T) {i : Nat} (hi : i < ops.size) (id : Nat) : (S (i + 1)).heap.get id = (T i).2.at id ((S i).heap.get id) := by
  obtain ⟨o, h1, h2, ⟨_, h3, h4⟩ | ⟨_, h3⟩⟩ := h.run.at_ i (Nat.zero_le _) (by omega)
  · rw [h3, h4]; rfl
  · exact (step_at h3).1 id
theorem Sched.next (h : Sched env L fid nid0 ops R S T) {i : Nat} (hi : i < ops.size) : (S (i + 1)).next = (if isBig (T i).2 then (S (i + 1)).next else (S i).next) ∧ (S i).next ≤ (S (i + 1)).next := by
  obtain ⟨o, h1, h2, ⟨_, h3, h4⟩ | ⟨_, h3⟩⟩ := h.run.at_ i (Nat.zero_le _) (by omega)
  · rw [h3, h4]; exact ⟨rfl, Nat.le_refl _⟩
  · refine ⟨?_, (step_at h3).2.2⟩
    cases hb : isBig (T i).2 with
    | true => rfl
    | false => exact (step_at h3).2.1 hb
theorem Sched.ge (h : Sched env L fid nid0 ops R S T) : ∀ i, i ≤ ops.size → nid0 + ops.size ≤ (S i).next
  | 0, _ => by rw [h.start]; exact Nat.le_refl _
  | i + 1, hi => Nat.le_trans (h.ge i (by omega)) (h.next (by omega)).2
theorem Sched.cd_ge (h : Sched env L fid nid0 ops R S T) (D : Nat → Bool) : nid0 + ops.size ≤ CD ops S T D := by
  have : ∀ n, n ≤ ops.size → nid0 + ops.size ≤ foldD (fun i n => if isBig (T i).2 then (S (i + 1)).next else n) D n (S 0).next := by
    intro n
    induction n with
    | zero => intro _; show _ ≤ (S 0).next; rw [h.start]; exact Nat.le_refl _
    | succ n ih =>
      intro hn
      unfold foldD
      cases D n with
      | false => exact ih (by omega)
      | true =>
        simp only [if_true]
        split
        · exact h.ge (n + 1) hn
        · exact ih (by omega)
  exact this _ (Nat.le_refl _)

/-- Of two that may come in either order. -/
theorem Sched.free (h : Sched env L fid nid0 ops R S T) {D : Nat → Bool} (hc : Closed ops D) {j : Nat} {o : Oper} (hj : ops[j]? = some o) (hDj : D j = false) (hr : ∀ e ∈ o.after, Region.binds .any e = true → D e.on = true) {i : Nat} (hi : i < ops.size) (hne : D i ≠ decide (i < j)) : compat (T i).2 (T j).2 = true := by
  have hjl := (Array.getElem?_eq_some_iff.1 hj).1
  by_cases e : i < j
  · rw [decide_eq_true e] at hne
    refine h.pair i j e hjl ?_
    cases hb : bef ops j i with
    | false => rfl
    | true => exact absurd (ready_bef hc hj hr hb) hne
  · rw [decide_eq_false e] at hne
    have hDi : D i = true := by simpa using hne
    have hij : i ≠ j := fun e => by rw [e, hDj] at hDi; cases hDi
    refine compat_symm (h.pair j i (by omega) hi ?_)
    cases hb : bef ops i j with
    | false => rfl
    | true => have := closed_bef hc (i + 1) i (by omega) hDi hi hb; rw [hDj] at this; cases this
theorem Sched.rd (h : Sched env L fid nid0 ops R S T) {D : Nat → Bool} (hc : Closed ops D) {j : Nat} {o : Oper} (hj : ops[j]? = some o) (hDj : D j = false) (hr : ∀ e ∈ o.after, Region.binds .any e = true → D e.on = true) {t : Nat} (ht : t ∈ o.looksAt ops) : (RD ops R T D)[t]? = (R j)[t]? := by
  have hjl := (Array.getElem?_eq_some_iff.1 hj).1
  have hb := foldD_below (f := fun i r => put r (dstOf ops i) (T i).1) R ops.size (fun i hi => h.dst hi) j (by omega)
  rw [← hb]
  unfold RD
  have hlen : ∀ D n, (foldD (fun i r => put r (dstOf ops i) (T i).1) D n (R 0)).length = (R 0).length := by
    intro D n
    induction n with
    | zero => rfl
    | succ n ih => unfold foldD; cases D n <;> simp [put_length, ih]
  have key : ∀ n, n ≤ ops.size → (foldD (fun i r => put r (dstOf ops i) (T i).1) D n (R 0))[t]? = (foldD (fun i r => put r (dstOf ops i) (T i).1) (fun i => decide (i < j)) n (R 0))[t]? := by
    intro n
    induction n with
    | zero => intro _; rfl
    | succ n ih =>
      intro hn
      have ih := ih (by omega)
      unfold foldD
      by_cases hd : dstOf ops n = some t
      · have hD : D n = decide (n < j) := by
          by_cases hnj : n = j
          · subst hnj; rw [hDj]; simp
          · have hord := h.regs n t hd j o hj hnj (.inl ht)
            by_cases e : n < j
            · rw [decide_eq_true e]
              rw [Nat.max_eq_right (by omega), Nat.min_eq_left (by omega)] at hord
              exact ready_bef hc hj hr hord
            · rw [decide_eq_false e]
              rw [Nat.max_eq_left (by omega), Nat.min_eq_right (by omega)] at hord
              cases hDn : D n with
              | false => rfl
              | true => have := closed_bef hc (n + 1) n (by omega) hDn (by omega) hord; rw [hDj] at this; cases this
        rw [hD]
        cases decide (n < j) with
        | false => simpa using ih
        | true => simp only [if_true, put_at, if_pos hd, hlen]
      · cases D n <;> cases decide (n < j) <;> simp only [if_true, Bool.false_eq_true, if_false, put_at, if_neg hd] <;> exact ih
  exact key _ (Nat.le_refl _)
theorem Sched.rd_put (h : Sched env L fid nid0 ops R S T) {D D' : Nat → Bool} (hc : Closed ops D) {j : Nat} {o : Oper} (hj : ops[j]? = some o) (hDj : D j = false) (hDj' : D' j = true) (ho : ∀ i, i ≠ j → D' i = D i) : RD ops R T D' = put (RD ops R T D) o.dst (T j).1 := by
  have hjl := (Array.getElem?_eq_some_iff.1 hj).1
  have := foldD_insert (f := fun i r => put r (dstOf ops i) (T i).1) hDj hDj' ho ops.size (R 0) hjl (fun i h1 h2 hDi b => by
    refine (put_comm b _ _ fun t hd e => ?_)
    have hord := h.regs i t e j o hj (by omega) (.inr (by simpa [dstOf, hj] using hd))
    rw [Nat.max_eq_left (by omega), Nat.min_eq_right (by omega)] at hord
    have := closed_bef hc (i + 1) i (by omega) hDi h2 hord
    rw [hDj] at this
    cases this)
  unfold RD
  rw [this]
  simp [dstOf, hj]
theorem Sched.hd_read (h : Sched env L fid nid0 ops R S T) {D : Nat → Bool} (j : Nat) (hj : j ≤ ops.size) (id : Nat) (hq : ∀ i, i < ops.size → D i ≠ decide (i < j) → ∀ o, (T i).2.at id o = o) : HD ops S T D id = (S j).heap.get id := by
  have hb := foldD_below (f := fun i o => (T i).2.at id o) (fun i => (S i).heap.get id) ops.size (fun i hi => h.heap hi id) j hj
  rw [← hb]
  exact foldD_agree _ _ hq
theorem Sched.hd_put (h : Sched env L fid nid0 ops R S T) {D D' : Nat → Bool} (hc : Closed ops D) {j : Nat} {o : Oper} (hj : ops[j]? = some o) (hr : ∀ e ∈ o.after, Region.binds .any e = true → D e.on = true) (hDj : D j = false) (hDj' : D' j = true) (ho : ∀ i, i ≠ j → D' i = D i) (id : Nat) : HD ops S T D' id = (T j).2.at id (HD ops S T D id) :=
  foldD_insert (f := fun i o => (T i).2.at id o) hDj hDj' ho ops.size _ (Array.getElem?_eq_some_iff.1 hj).1 (fun i h1 h2 hDi b => at_comm (h.free hc hj hDj hr h2 (by rw [hDi, decide_eq_false (by omega)]; simp)) id b)
theorem Sched.cd_put (h : Sched env L fid nid0 ops R S T) {D D' : Nat → Bool} (hc : Closed ops D) {j : Nat} {o : Oper} (hj : ops[j]? = some o) (hr : ∀ e ∈ o.after, Region.binds .any e = true → D e.on = true) (hDj : D j = false) (hDj' : D' j = true) (ho : ∀ i, i ≠ j → D' i = D i) :
    CD ops S T D' = (if isBig (T j).2 then (S (j + 1)).next else CD ops S T D) ∧ (isBig (T j).2 = true → CD ops S T D = (S j).next) := by
  have hjl := (Array.getElem?_eq_some_iff.1 hj).1
  have hnb : isBig (T j).2 = true → ∀ i, i < ops.size → D i ≠ decide (i < j) → isBig (T i).2 = false := fun hb i hi hne => by
    have := h.free hc hj hDj hr hi hne
    cases h1 : (T i).2 with
    | q => rfl
    | big =>
      cases h2 : (T j).2 with
      | q => rw [h2] at hb; cases hb
      | big => rw [h1, h2] at this; cases this
  refine ⟨foldD_insert (f := fun i n => if isBig (T i).2 then (S (i + 1)).next else n) hDj hDj' ho ops.size _ hjl (fun i h1 h2 hDi b => ?_), fun hb => ?_⟩
  · by_cases hb : isBig (T j).2 = true
    · have := hnb hb i h2 (by rw [hDi, decide_eq_false (by omega)]; simp)
      simp [this]
    · simp [hb]
  · have hb2 := foldD_below (f := fun i n => if isBig (T i).2 then (S (i + 1)).next else n) (fun i => (S i).next) ops.size (fun i hi => (h.next hi).1) j (by omega)
    rw [← hb2]
    exact foldD_agree _ _ (fun i hi hne b => by simp [hnb hb i hi hne])

/-- Two parts of memory, one of which a call has worked on. -/
theorem rel_merge {HH V H2 : Nat → Option Obj} {N N' : Nat → Prop} {nx nx' : Nat} {c c' : Cfg} {hid : Nat → Bool} (hr : Rel HH N c) (hp : Post V H2 nx nx' c c') (hV : ∀ i o, V i = some o → HH i = some o ∧ hid i = false) (hN : ∀ i, N' i → c'.ρ i = none) :
    Rel (fun i => if hid i then HH i else H2 i) N' c' ∧ ∀ k, Lb (fun i => if hid i then HH i else H2 i) c' k → Lb HH c k ∨ c.W.heap.size ≤ k := by
  have hVlb : ∀ k, Lb V c k → Lb HH c k := fun k ⟨i, o, ba, h1, h2⟩ => ⟨i, o, ba, (hV i o h1).1, h2⟩
  have hold : ∀ i o b ba, HH i = some o → c'.ρ i = some (b, ba) → c.ρ i = some (b, ba) := fun i o b ba h1 h2 => by
    obtain ⟨b', ba', h3, _⟩ := hr.live i o h1
    have := hp.step.rho _ _ h3
    rw [h2] at this
    rw [h3, this]
  have hnV : ∀ i o b ba, hid i = true → HH i = some o → c.ρ i = some (b, ba) → ¬ Lb V c b ∧ b < c.W.heap.size := fun i o b ba hh h1 h2 => by
    refine ⟨fun ⟨k, o', bb, h3, h4⟩ => ?_, lb_lt hr ⟨i, o, ba, h1, h2⟩⟩
    obtain ⟨h5, h6⟩ := hV k o' h3
    have := hr.apart i k o o' b ba bb h1 h5 h2 h4
    rw [this, h6] at hh
    cases hh
  refine ⟨⟨fun i o hi => ?_, fun i j o o' b ba bb h1 h2 h3 h4 => ?_, fun i o b ba hi h1 hI => ?_, hp.rel.immlt, hN⟩, fun k ⟨i, o, ba, h1, h2⟩ => ?_⟩
  · by_cases hh : hid i = true
    · simp only [if_pos hh] at hi
      obtain ⟨b, ba, h1, h2⟩ := hr.live i o hi
      obtain ⟨h3, h4⟩ := hnV i o b ba hh hi h1
      exact ⟨b, ba, hp.step.rho _ _ h1, h2.mono hp.step.toExt (hp.step.block b h4 h3)⟩
    · simp only [if_neg hh] at hi
      exact hp.rel.live i o hi
  · have hcross : ∀ i j o o' b ba bb, hid i = true → hid j = false → HH i = some o → H2 j = some o' → c'.ρ i = some (b, ba) → c'.ρ j = some (b, bb) → False := fun i j o o' b ba bb hh hh' h1 h2 h3 h4 => by
      obtain ⟨h5, h6⟩ := hnV i o b ba hh h1 (hold i o b ba h1 h3)
      rcases hp.lb b ⟨j, o', bb, h2, h4⟩ with h | h
      · exact h5 h
      · omega
    by_cases hi : hid i = true <;> by_cases hj : hid j = true
    · simp only [if_pos hi] at h1
      simp only [if_pos hj] at h2
      exact hr.apart i j o o' b ba bb h1 h2 (hold i o b ba h1 h3) (hold j o' b bb h2 h4)
    · simp only [if_pos hi] at h1
      simp only [if_neg hj] at h2
      exact (hcross i j o o' b ba bb hi (by simpa using hj) h1 h2 h3 h4).elim
    · simp only [if_neg hi] at h1
      simp only [if_pos hj] at h2
      exact (hcross j i o' o b bb ba hj (by simpa using hi) h2 h1 h4 h3).elim
    · simp only [if_neg hi] at h1
      simp only [if_neg hj] at h2
      exact hp.rel.apart i j o o' b ba bb h1 h2 h3 h4
  · by_cases hh : hid i = true
    · simp only [if_pos hh] at hi
      have h1' := hold i o b ba hi h1
      obtain ⟨h3, h4⟩ := hnV i o b ba hh hi h1'
      rcases hp.step.inew b hI with h | h | h
      · exact hr.notI i o b ba hi h1' h
      · exact h3 h
      · omega
    · simp only [if_neg hh] at hi
      exact hp.rel.notI i o b ba hi h1 hI
  · by_cases hh : hid i = true
    · simp only [if_pos hh] at h1
      exact .inl ⟨i, o, ba, h1, hold i o k ba h1 h2⟩
    · simp only [if_neg hh] at h1
      exact (hp.lb k ⟨i, o, ba, h1, h2⟩).imp (hVlb k) id
end
end Go.Proofs.Ytpepghaknilmhaa.Vm
