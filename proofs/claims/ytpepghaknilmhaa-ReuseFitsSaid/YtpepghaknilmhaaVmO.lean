/- The machine of plain values: a region whose operations may come in any order. Written once for all seats. -/
import Derived.Test.YtpepghaknilmhaaVmN
namespace Go.Proofs.Ytpepghaknilmhaa.Vm
open Go
set_option linter.unusedVariables false
set_option linter.unusedSimpArgs false

theorem at_untouched {e : Eff} {id : Nat} (h : id ∉ touch e) (o : Option Obj) : e.at id o = o := by
  cases e with
  | none => rfl
  | new a x => simp only [touch, List.mem_singleton] at h; simp only [Eff.at, if_neg h]
  | wr a off vs => simp only [touch, List.mem_singleton] at h; simp only [Eff.at, if_neg h]
  | mv a a' x => simp only [touch, List.mem_cons, List.not_mem_nil, or_false, not_or] at h; simp only [Eff.at, if_neg h.1, if_neg h.2]
theorem apartL_spec {a b : List Nat} (h : apartL a b = true) {id : Nat} (hb : id ∈ b) : id ∉ a := fun ha => by
  have := List.all_eq_true.1 h id ha
  simp [hb] at this
theorem apartL_symm {a b : List Nat} (h : apartL a b = true) : apartL b a = true := List.all_eq_true.2 fun i hi => by
  have := apartL_spec h hi
  simp [this]
theorem compat_symm {x y : TE} (h : compat x y = true) : compat y x = true := by
  cases x <;> cases y <;> simp only [compat, Bool.and_eq_true] at h ⊢
  · exact ⟨⟨h.1.2, h.1.1⟩, apartL_symm h.2⟩
  · exact h
  · exact h
  · exact h
theorem at_looked {te : TE} {e : Eff} {l : List Nat} (h : compat te (.q e l) = true) {id : Nat} (hid : id ∈ l) (o : Option Obj) : te.at id o = o := by
  cases te with
  | q e' l' =>
    simp only [compat, Bool.and_eq_true] at h
    exact at_untouched (apartL_spec h.1.1 hid) o
  | big hd after =>
    simp only [compat, Bool.and_eq_true, List.isEmpty_iff] at h
    rw [h.1] at hid
    cases hid
theorem at_seen {te : TE} {hd : Nat → Bool} {after : Heap} (h : compat te (.big hd after) = true) {id : Nat} (hid : hd id = false) (o : Option Obj) : te.at id o = o := by
  cases te with
  | q e l =>
    simp only [compat, Bool.and_eq_true] at h
    cases e with
    | none => rfl
    | new a x =>
      refine at_untouched (e := .new a x) ?_ o
      simp only [touch, List.mem_singleton]
      intro e
      subst e
      have h2 : hd id = true := h.2
      rw [hid] at h2
      cases h2
    | wr => cases h.2
    | mv => cases h.2
  | big => cases h
theorem at_comm {x y : TE} (h : compat x y = true) (id : Nat) (o : Option Obj) : x.at id (y.at id o) = y.at id (x.at id o) := by
  have key : ∀ {e : Eff} {l : List Nat} {hd : Nat → Bool} {after : Heap}, compat (.q e l) (.big hd after) = true → e.at id ((TE.big hd after).at id o) = (TE.big hd after).at id (e.at id o) := fun {e l hd after} h => by
    by_cases hid : hd id = true
    · simp only [TE.at, if_pos hid]
    · have h1 := at_seen h (by simpa using hid)
      show (TE.q e l).at id _ = _
      rw [h1]
      simp only [TE.at, if_neg hid]
  cases x with
  | q e l =>
    cases y with
    | q e' l' =>
      simp only [compat, Bool.and_eq_true] at h
      show e.at id (e'.at id o) = e'.at id (e.at id o)
      by_cases hid : id ∈ touch e'
      · have := apartL_spec h.2 hid
        rw [at_untouched this, at_untouched this]
      · rw [at_untouched hid, at_untouched hid]
    | big hd after => exact key h
  | big hd after =>
    cases y with
    | q e' l' => exact (key (compat_symm h)).symm
    | big => cases h

def isBig : TE → Bool
  | .big .. => true
  | _ => false
def dstOf (ops : Array Oper) (i : Nat) : Option Tmp := (ops[i]?).bind (·.dst)

/-- The run in the order of the text: what stands before each operation. -/
structure Listed (env : Env) (L : Lvl) (fid nid0 : Nat) (ops : Array Oper) (k n : Nat) (R : Nat → List PV) (S : Nat → St) (T : Nat → PV × TE) : Prop where
  at_ : ∀ i, k ≤ i → i < k + n → ∃ o, ops[i]? = some o ∧ R (i + 1) = put (R i) o.dst (T i).1 ∧
    ((wantedP ops (R i) o = some false ∧ S (i + 1) = S i ∧ T i = (.gone, .q .none [])) ∨ (wantedP ops (R i) o = some true ∧ stepOp env L fid nid0 ops true i o (R i) (S i) = some ((T i).1, S (i + 1), (T i).2)))
theorem runOps_listed {env : Env} {L : Lvl} {fid nid0 : Nat} {ops : Array Oper} : ∀ (n k : Nat) (regs : List PV) (st : St) (regs' : List PV) (st' : St) (tr : List (PV × TE)), runOps env L fid nid0 ops true (List.range' k n) regs st = some (regs', st', tr) →
    ∃ R S T, Listed env L fid nid0 ops k n R S T ∧ R k = regs ∧ S k = st ∧ R (k + n) = regs' ∧ S (k + n) = st' ∧ ∀ i, i < n → tr[i]? = some (T (k + i))
  | 0, k, regs, st, regs', st', tr, h => by
    simp only [List.range'_zero, runOps, Option.some.injEq, Prod.mk.injEq] at h
    obtain ⟨rfl, rfl, rfl⟩ := h
    exact ⟨fun _ => regs, fun _ => st, fun _ => (.gone, .q .none []), ⟨fun i h1 h2 => by omega⟩, rfl, rfl, rfl, rfl, fun i h => by omega⟩
  | n + 1, k, regs, st, regs', st', tr, h => by
    rw [List.range'_succ] at h
    unfold runOps at h
    split at h
    case h_1 => cases h
    rename_i o ho
    have fin : ∀ (v : PV) (st1 : St) (te : TE) (r1 : List PV) (s1 : St) (t1 : List (PV × TE)), runOps env L fid nid0 ops true (List.range' (k + 1) n) (put regs o.dst v) st1 = some (r1, s1, t1) →
        ((wantedP ops regs o = some false ∧ st1 = st ∧ (v, te) = (.gone, .q .none [])) ∨ (wantedP ops regs o = some true ∧ stepOp env L fid nid0 ops true k o regs st = some (v, st1, te))) →
        ∃ R S T, Listed env L fid nid0 ops k (n + 1) R S T ∧ R k = regs ∧ S k = st ∧ R (k + (n + 1)) = r1 ∧ S (k + (n + 1)) = s1 ∧ ∀ i, i < n + 1 → ((v, te) :: t1)[i]? = some (T (k + i)) := fun v st1 te r1 s1 t1 h hc => by
      obtain ⟨R, S, T, h1, h2, h3, h4, h5, h6⟩ := runOps_listed n (k + 1) _ _ _ _ _ h
      refine ⟨fun i => if i = k then regs else R i, fun i => if i = k then st else S i, fun i => if i = k then (v, te) else T i, ⟨fun i g1 g2 => ?_⟩, if_pos rfl, if_pos rfl, ?_, ?_, fun i hi => ?_⟩
      · by_cases e : i = k
        · subst e
          refine ⟨o, ho, ?_, ?_⟩
          · simp only [if_pos, if_neg (show ¬ i + 1 = i by omega)]
            exact h2
          · simp only [if_pos, if_neg (show ¬ i + 1 = i by omega), h3]
            exact hc
        · obtain ⟨o', q1, q2, q3⟩ := h1.at_ i (by omega) (by omega)
          refine ⟨o', q1, ?_, ?_⟩
          · simp only [if_neg e, if_neg (show ¬ i + 1 = k by omega)]
            exact q2
          · simp only [if_neg e, if_neg (show ¬ i + 1 = k by omega)]
            exact q3
      · show (if k + (n + 1) = k then regs else R (k + (n + 1))) = r1
        rw [if_neg (by omega), ← h4]; congr 1; omega
      · show (if k + (n + 1) = k then st else S (k + (n + 1))) = s1
        rw [if_neg (by omega), ← h5]; congr 1; omega
      · cases i with
        | zero => simp
        | succ i =>
          rw [List.getElem?_cons_succ, h6 i (by omega)]
          show some (T (k + 1 + i)) = some (if k + (i + 1) = k then (v, te) else T (k + (i + 1)))
          rw [if_neg (by omega)]
          congr 2
          omega
    split at h
    case h_1 => cases h
    · rename_i hw
      obtain ⟨⟨r1, s1, t1⟩, h1, h2⟩ := Option.map_eq_some_iff.1 h
      simp only [Prod.mk.injEq] at h2
      obtain ⟨rfl, rfl, rfl⟩ := h2
      exact fin _ _ _ _ _ _ h1 (.inl ⟨hw, rfl, rfl⟩)
    · rename_i hw
      obtain ⟨⟨v, st1, te⟩, hs, h⟩ := Option.bind_eq_some_iff.1 h
      obtain ⟨⟨r1, s1, t1⟩, h1, h2⟩ := Option.map_eq_some_iff.1 h
      simp only [Prod.mk.injEq] at h2
      obtain ⟨rfl, rfl, rfl⟩ := h2
      exact fin _ _ _ _ _ _ h1 (.inr ⟨hw, hs⟩)

/-- What a step does to each object, to the counter. -/
theorem step_at {env : Env} {L : Lvl} {fid nid0 i : Nat} {ops : Array Oper} {o : Oper} {regs : List PV} {st st' : St} {v : PV} {te : TE} (h : stepOp env L fid nid0 ops true i o regs st = some (v, st', te)) : (∀ id, st'.heap.get id = te.at id (st.heap.get id)) ∧ (isBig te = false → st'.next = st.next) ∧ st.next ≤ st'.next := by
  unfold stepOp at h
  split at h
  · rename_i g args argTypes hop
    obtain ⟨⟨v1, st2, big⟩, hrun, h⟩ := Option.bind_eq_some_iff.1 h
    cases big with
    | false =>
      simp only [Bool.false_eq_true, if_false, Option.some.injEq, Prod.mk.injEq] at h
      obtain ⟨rfl, rfl, rfl⟩ := h
      exact ⟨fun id => rfl, fun _ => rfl, Nat.le_refl _⟩
    | true =>
      simp only [if_true] at h
      split at h
      · rename_i hle
        simp only [Option.some.injEq, Prod.mk.injEq] at h
        obtain ⟨rfl, rfl, rfl⟩ := h
        refine ⟨fun id => ?_, (fun e => by cases e), hle⟩
        simp only [TE.at, Heap.get_append]
        by_cases hh : hidden true nid0 ops i id = true
        · rw [if_pos hh]
          have h1 : Heap.get (st2.heap.keep fun id _ => !hidden true nid0 ops i id) id = none := by
            cases hg : Heap.get (st2.heap.keep fun id _ => !hidden true nid0 ops i id) id with
            | none => rfl
            | some x => have := (Heap.get_keep hg).2; rw [hh] at this; cases this
          rw [h1]
          simp only [Option.none_or]
          cases hg : st.heap.get id with
          | none =>
            cases hk : Heap.get (st.heap.keep fun id _ => hidden true nid0 ops i id) id with
            | none => rfl
            | some x => have := (Heap.get_keep hk).1; rw [hg] at this; cases this
          | some x => exact Heap.keep_get hg hh
        · rw [if_neg hh]
          have h1 : Heap.get (st.heap.keep fun id _ => hidden true nid0 ops i id) id = none := by
            cases hg : Heap.get (st.heap.keep fun id _ => hidden true nid0 ops i id) id with
            | none => rfl
            | some x => exact absurd (Heap.get_keep hg).2 hh
          rw [h1, Option.or_none]
          cases hg : st2.heap.get id with
          | none =>
            cases hk : Heap.get (st2.heap.keep fun id _ => !hidden true nid0 ops i id) id with
            | none => rfl
            | some x => have := (Heap.get_keep hk).1; rw [hg] at this; cases this
          | some x => exact Heap.keep_get hg (by simpa using hh)
      · cases h
  · obtain ⟨⟨v1, e1⟩, h1, h2⟩ := Option.map_eq_some_iff.1 h
    simp only [Prod.mk.injEq] at h2
    obtain ⟨rfl, rfl, rfl⟩ := h2
    exact ⟨fun id => Heap.get_run e1 st.heap id, fun _ => rfl, Nat.le_refl _⟩
theorem step_quiet {env : Env} {L : Lvl} {fid nid0 i : Nat} {ops : Array Oper} {o : Oper} {regs : List PV} {st st' : St} {v : PV} {te : TE} (h : stepOp env L fid nid0 ops true i o regs st = some (v, st', te)) (hl : loud o.op = false) : te = .q .none [] := by
  unfold stepOp at h
  split at h
  · rename_i g args argTypes hop
    rw [hop] at hl
    simp [loud] at hl
  · obtain ⟨⟨v1, e1⟩, h1, h2⟩ := Option.map_eq_some_iff.1 h
    simp only [Prod.mk.injEq] at h2
    obtain ⟨rfl, rfl, rfl⟩ := h2
    obtain ⟨h3, h4⟩ := op1_quiet h1 hl
    rw [h3, h4]
theorem compat_quiet (te : TE) : compat (.q .none []) te = true := by
  cases te <;> simp [compat, touch, apartL]
end Go.Proofs.Ytpepghaknilmhaa.Vm
