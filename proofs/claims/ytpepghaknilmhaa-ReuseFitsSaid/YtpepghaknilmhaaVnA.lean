/- The machine of plain values: walking regions whose order is drawn. Written once for all seats. -/
import Derived.Test.YtpepghaknilmhaaVmZ
namespace Go.Proofs.Ytpepghaknilmhaa.Vm
open Go
set_option linter.unusedVariables false
set_option linter.unusedSimpArgs false

def compatL (l : List (Nat × Nat)) (tes : List TE) : Bool := l.all fun x => match tes[x.1]?, tes[x.2]? with
  | some a, some b => compat a b
  | _, _ => false
def compatE (ops : Array Oper) (tes : List TE) : Bool := compatL (unord ops) tes
theorem compatAll_eq {ops : Array Oper} {tr : List (PV × TE)} : compatAll ops tr = compatE ops (tr.map (·.2)) := by
  unfold compatAll compatE compatL
  congr 1
  funext x
  rw [List.getElem?_map, List.getElem?_map]
  cases tr[x.1]? <;> cases tr[x.2]? <;> rfl
theorem compatE_list {ops : Array Oper} {tes : List TE} {l : List (Nat × Nat)} (h : unord ops = l) (h2 : compatL l tes = true) : compatE ops tes = true := by unfold compatE; rw [h]; exact h2
def calmE : TE → Bool
  | .q .none _ => true
  | _ => false
theorem unord_lt {ops : Array Oper} {x : Nat × Nat} (h : x ∈ unord ops) : x.1 < ops.size ∧ x.2 < ops.size := by
  unfold unord at h
  obtain ⟨i, h1, h2⟩ := List.mem_flatMap.1 h
  obtain ⟨j, h3, rfl⟩ := List.mem_map.1 h2
  have h4 := (List.mem_filter.1 h1).1
  have h5 := (List.mem_filter.1 (List.mem_filter.1 h3).1).1
  exact ⟨List.mem_range.1 h4, List.mem_range.1 h5⟩
theorem compat_calm {ops : Array Oper} {tes : List TE} (h : tes.all calmE = true) (hl : tes.length = ops.size) : compatE ops tes = true := by
  unfold compatE compatL
  refine List.all_eq_true.2 fun x hx => ?_
  obtain ⟨h1, h2⟩ := unord_lt hx
  rw [List.getElem?_eq_getElem (by omega), List.getElem?_eq_getElem (by omega)]
  have c1 := List.all_eq_true.1 h tes[x.1] (List.getElem_mem (by omega))
  have c2 := List.all_eq_true.1 h tes[x.2] (List.getElem_mem (by omega))
  simp only
  cases e1 : tes[x.1]'(by omega) with
  | q e l => cases e with
    | none => cases e2 : tes[x.2]'(by omega) with
      | q e' l' => cases e' with
        | none => simp [compat, touch, apartL]
        | _ => rw [e2] at c2; cases c2
      | big _ _ => rw [e2] at c2; cases c2
    | _ => rw [e1] at c1; cases c1
  | big _ _ => rw [e1] at c1; cases c1

/-- Operations of a drawn region, with what they did so far. -/
structure WT (env : Env) (fid nid0 : Nat) (ops : Array Oper) (l : List Nat) (r : List PV) (s : St) (acc : List TE) (Q : List PV → St → List TE → Prop) : Prop where
  out : WO env fid nid0 ops true l r s fun r s tr => Q r s (acc ++ tr.map (·.2))
def stepT (K : List PV → St → List TE → Prop) (regs : List PV) (st : St) (dst : Option Tmp) (acc : List TE) (lk : List Nat) : Option (PV × Eff) → Prop
  | some (v, e) => K (put regs dst v) ⟨e.run st.heap, st.next⟩ (acc ++ [.q e lk])
  | none => False
theorem stepT_some {K : List PV → St → List TE → Prop} {regs : List PV} {st : St} {dst : Option Tmp} {acc : List TE} {lk : List Nat} {v : PV} {e : Eff} : stepT K regs st dst acc lk (some (v, e)) = K (put regs dst v) ⟨e.run st.heap, st.next⟩ (acc ++ [.q e lk]) := rfl
section
variable {env : Env} {fid nid0 : Nat} {ops : Array Oper} {l : List Nat} {regs : List PV} {st : St} {acc : List TE} {Q : List PV → St → List TE → Prop} {i : Nat} {o : Oper}
theorem wt_region {id : Nat} {ops : Array Oper} {r : List PV} {s : St} {Q : Ex → List PV → St → Prop} {l : List Nat} (hst : static ops = true) (hl : List.range ops.size = l) {n : Nat} (hn : s.next + ops.size = n) (h : WT env fid s.next ops l r ⟨s.heap, n⟩ [] fun r s tr => compatE ops tr = true ∧ Q .normal r s) : WX env fid (.region id ops true) r s Q := by
  refine wx_region_any hst ?_
  rw [hl, hn]
  obtain ⟨k, r1, s1, tr, h1, h2, h3⟩ := h.out
  exact ⟨k, r1, s1, tr, h1, by rw [compatAll_eq]; simpa using h2, h3⟩
theorem wt_nil (h : Q regs st acc) : WT env fid nid0 ops [] regs st acc Q := ⟨wo_nil (by simpa using h)⟩
theorem wt_tail {x : PV × TE} {l : List Nat} {r : List PV} {s : St} (h : WT env fid nid0 ops l r s (acc ++ [x.2]) Q) : WO env fid nid0 ops true l r s fun r s tr => Q r s (acc ++ (x :: tr).map (·.2)) := by
  obtain ⟨k, r1, s1, tr, h1, h2⟩ := h.out
  exact ⟨k, r1, s1, tr, h1, by simpa using h2⟩
theorem wt_op (ho : ops[i]? = some o) (hg : o.guard = none) (hc : notCall o.op = true)
    (h : ∀ K : List PV → St → List TE → Prop, Hold (∀ r s a, WT env fid nid0 ops l r s a Q → K r s a) → stepT K regs st o.dst acc (looked (opd regs) o.op) (op1 env.P (match o.dst with | some d => env.own fid d | none => false) (nid0 + i) st.heap.get o (opd regs))) : WT env fid nid0 ops (i :: l) regs st acc Q := by
  have h1 := h _ ⟨fun _ _ _ h => h⟩
  unfold stepT at h1
  split at h1
  · rename_i v e hs
    refine ⟨wo_op ho (by unfold wantedP; rw [hg]) (fun g args ts e => by rw [e] at hc; cases hc) hs (wt_tail h1)⟩
  · exact h1.elim
theorem wt_guard (ho : ops[i]? = some o) {j : Nat} {want : Bool} (hg : o.guard = some (j, want)) {t : Tmp} (hj : (ops[j]?).bind (·.dst) = some t) (hc : notCall o.op = true)
    (h : ∀ K : List PV → St → List TE → Prop, Hold (∀ r s a, WT env fid nid0 ops l r s a Q → K r s a) → guardS want (stepT K regs st o.dst acc (looked (opd regs) o.op) (op1 env.P (match o.dst with | some d => env.own fid d | none => false) (nid0 + i) st.heap.get o (opd regs))) (K (put regs o.dst .gone) st (acc ++ [.q .none []])) (nth regs t)) : WT env fid nid0 ops (i :: l) regs st acc Q := by
  have h1 := h _ ⟨fun _ _ _ h => h⟩
  unfold guardS at h1
  split at h1
  · rename_i b hb
    by_cases e : b = want
    · subst e
      rw [if_pos rfl] at h1
      unfold stepT at h1
      split at h1
      · rename_i v e hs
        exact ⟨wo_op ho (wanted_of hg hj hb) (fun g args ts e => by rw [e] at hc; cases hc) hs (wt_tail h1)⟩
      · exact h1.elim
    · rw [if_neg e] at h1
      refine ⟨wo_not ho ?_ (wt_tail (x := (.gone, .q .none [])) h1)⟩
      unfold wantedP
      unfold nth at hb
      rw [List.getD_eq_getElem?_getD] at hb
      cases hx : regs[t]? with
      | none => rw [hx] at hb; cases hb
      | some y =>
        rw [hx] at hb
        have hb' : y = .d (.bool b) := hb
        subst hb'
        simp only [hg, hj, hx]
        cases b <;> cases want <;> first | rfl | exact absurd rfl e
  · rename_i vs hb
    exact ⟨wo_not ho (not_wanted hg hj hb) (wt_tail (x := (.gone, .q .none [])) h1)⟩
  · exact h1.elim
variable {g : Operand} {args : Array Operand} {ts : Array TypeId}
theorem Ret.wo {f : FuncId} {caps : List PV} {res : PV} (hr : Ret env f (args.toList.map (opd regs) ++ caps) res) (ho : ops[i]? = some o) (hw : wantedP ops regs o = some true) (hop : o.op = .call { callee := .value g, args := args, argTypes := ts }) (hg : opd regs g = .func f caps) (h : WT env fid nid0 ops l (put regs o.dst res) st (acc ++ [.q .none []]) Q) : WT env fid nid0 ops (i :: l) regs st acc Q :=
  ⟨wo_call_any ho hw hop hg (hr.wl ⟨(fun e => by cases e), by simpa using wt_tail (x := (res, .q .none [])) h⟩)⟩
theorem wt_ret (ho : ops[i]? = some o) (hgd : o.guard = none) (hop : o.op = .call { callee := .value g, args := args, argTypes := ts })
    (h : ∀ K : List PV → St → List TE → Prop, Hold (∀ r s a, WT env fid nid0 ops l r s a Q → K r s a) → retS env (fun res => K (put regs o.dst res) st (acc ++ [.q .none []])) (opd regs g) (args.toList.map (opd regs))) : WT env fid nid0 ops (i :: l) regs st acc Q := by
  have h1 := h _ ⟨fun _ _ _ h => h⟩
  unfold retS at h1
  split at h1
  · rename_i f caps args' hg
    obtain ⟨res, h2, h3⟩ := h1
    exact h2.wo ho (by unfold wantedP; rw [hgd]) hop hg h3
  · exact h1.elim
theorem wt_retg {t : Tmp} {j : Nat} {want : Bool} (ho : ops[i]? = some o) (hgd : o.guard = some (j, want)) (hj : (ops[j]?).bind (·.dst) = some t) (hop : o.op = .call { callee := .value g, args := args, argTypes := ts })
    (h : ∀ K : List PV → St → List TE → Prop, Hold (∀ r s a, WT env fid nid0 ops l r s a Q → K r s a) → guardS want (retS env (fun res => K (put regs o.dst res) st (acc ++ [.q .none []])) (opd regs g) (args.toList.map (opd regs))) (K (put regs o.dst .gone) st (acc ++ [.q .none []])) (nth regs t)) : WT env fid nid0 ops (i :: l) regs st acc Q := by
  have h1 := h _ ⟨fun _ _ _ h => h⟩
  unfold guardS at h1
  split at h1
  · rename_i b hb
    by_cases e : b = want
    · subst e
      rw [if_pos rfl] at h1
      unfold retS at h1
      split at h1
      · rename_i f caps args' hg
        obtain ⟨res, h2, h3⟩ := h1
        exact h2.wo ho (wanted_of hgd hj hb) hop hg h3
      · exact h1.elim
    · rw [if_neg e] at h1
      refine ⟨wo_not ho ?_ (wt_tail (x := (.gone, .q .none [])) h1)⟩
      unfold wantedP
      unfold nth at hb
      rw [List.getD_eq_getElem?_getD] at hb
      cases hx : regs[t]? with
      | none => rw [hx] at hb; cases hb
      | some y =>
        rw [hx] at hb
        have hb' : y = .d (.bool b) := hb
        subst hb'
        simp only [hgd, hj, hx]
        cases b <;> cases want <;> first | rfl | exact absurd rfl e
  · rename_i vs hb
    exact ⟨wo_not ho (not_wanted hgd hj hb) (wt_tail (x := (.gone, .q .none [])) h1)⟩
  · exact h1.elim
end

/-! What an operation looks at. -/
section
variable {ρ : Operand → PV} {x y c : Operand} {t u : TypeId}
theorem lk_move : looked ρ (.move x) = [] := rfl
theorem lk_assign : looked ρ (.assign x) = [] := rfl
theorem lk_pick : looked ρ (.pick c x y) = [] := rfl
theorem lk_load : looked ρ (.load t x) = idOf (ρ x) := rfl
theorem lk_store : looked ρ (.store t x y) = idOf (ρ x) := rfl
theorem lk_alloc : looked ρ (.alloc t) = [] := rfl
theorem lk_box : looked ρ (.box t x) = [] := rfl
theorem lk_bin {op : BinOp} : looked ρ (.binOp op t x y u) = [] := rfl
theorem lk_un {op : UnOp} : looked ρ (.unOp op t x) = [] := rfl
theorem lk_fieldAddr {f : Nat} : looked ρ (.fieldAddr t x f) = [] := rfl
theorem lk_field {f : Nat} : looked ρ (.field t x f) = [] := rfl
theorem lk_index : looked ρ (.indexAddr t x y) = [] := rfl
theorem lk_extract {f : Nat} : looked ρ (.extract x f) = [] := rfl
theorem lk_nilCheck : looked ρ (.nilCheck x) = [] := rfl
theorem lk_build {p : Array (Nat × Operand)} : looked ρ (.build t p) = [] := rfl
theorem lk_bs {n : Nat} {p : Array (Nat × Operand)} : looked ρ (.buildSlice t n p) = [] := rfl
theorem lk_make : looked ρ (.makeSlice t x y) = [] := rfl
theorem lk_makeFunc {f : Fn} {a b : Array Operand} : looked ρ (.makeFunc f a b) = [] := rfl
theorem lk_slice {a b d : Option Operand} : looked ρ (.slice t x a b d) = [] := rfl
theorem lk_convert : looked ρ (.convert t u x) = idOf (ρ x) := rfl
theorem lk_len {a : Array Operand} {ts : Array TypeId} : looked ρ (.call { callee := .builtin .len, args := a, argTypes := ts }) = [] := rfl
theorem lk_min {a : Array Operand} {ts : Array TypeId} : looked ρ (.call { callee := .builtin .min, args := a, argTypes := ts }) = [] := rfl
theorem lk_max {a : Array Operand} {ts : Array TypeId} : looked ρ (.call { callee := .builtin .max, args := a, argTypes := ts }) = [] := rfl
theorem lk_append {a : Array Operand} {ts : Array TypeId} : looked ρ (.call { callee := .builtin .append, args := a, argTypes := ts }) = a.toList.flatMap fun x => idOf (ρ x) := rfl
theorem lk_copy {a : Array Operand} {ts : Array TypeId} : looked ρ (.call { callee := .builtin .copy, args := a, argTypes := ts }) = a.toList.flatMap fun x => idOf (ρ x) := rfl
theorem idOf_d {v : DV} : idOf (.d v) = [] := rfl
theorem idOf_rd {l : List DV} : idOf (.rd l) = [] := rfl
theorem idOf_ptr {i o : Nat} : idOf (.ptr i o) = [i] := rfl
theorem idOf_ref {i o n s : Nat} : idOf (.ref i o n s) = [i] := rfl
theorem idOf_agg {l : List PV} : idOf (.agg l) = [] := rfl
end

theorem all_dc {l : List DV} : l.all (PV.one ∘ PV.d) = true := by simp [PV.one, Function.comp_def]
theorem dti_lt {a b : Int} (h : a < b) : decide (a < b) = true := decide_eq_true h
theorem dfi_lt {a b : Int} (h : ¬ a < b) : decide (a < b) = false := decide_eq_false h
theorem dti_le {a b : Int} (h : a ≤ b) : decide (a ≤ b) = true := decide_eq_true h
theorem dfi_le {a b : Int} (h : ¬ a ≤ b) : decide (a ≤ b) = false := decide_eq_false h
theorem dti_eq {a b : Int} (h : a = b) : decide (a = b) = true := decide_eq_true h
theorem dfi_eq {a b : Int} (h : ¬ a = b) : decide (a = b) = false := decide_eq_false h
theorem dtn_lt {a b : Nat} (h : a < b) : decide (a < b) = true := decide_eq_true h
theorem dfn_lt {a b : Nat} (h : ¬ a < b) : decide (a < b) = false := decide_eq_false h
theorem dtn_le {a b : Nat} (h : a ≤ b) : decide (a ≤ b) = true := decide_eq_true h
theorem dfn_le {a b : Nat} (h : ¬ a ≤ b) : decide (a ≤ b) = false := decide_eq_false h
theorem dtn_eq {a b : Nat} (h : a = b) : decide (a = b) = true := decide_eq_true h
theorem dfn_eq {a b : Nat} (h : ¬ a = b) : decide (a = b) = false := decide_eq_false h
theorem dv_ints {k : IntKind} {l : List Int} {i : Nat} (h : i < l.length) : dv (l.map (DV.int k)) i = some (.int k l[i]) := by unfold dv; rw [List.getElem?_map, List.getElem?_eq_getElem h]; rfl
theorem dv_strs {l : List ByteArray} {i : Nat} (h : i < l.length) : dv (l.map DV.str) i = some (.str l[i]) := by unfold dv; rw [List.getElem?_map, List.getElem?_eq_getElem h]; rfl
theorem dv_bools {l : List Bool} {i : Nat} (h : i < l.length) : dv (l.map DV.bool) i = some (.bool l[i]) := by unfold dv; rw [List.getElem?_map, List.getElem?_eq_getElem h]; rfl
/-- Lengths. -/
theorem dl : (∀ (l : List DV), (l.map PV.d).length = l.length) ∧ (∀ (a b : List PV), (a ++ b).length = a.length + b.length) ∧ (∀ (a b : List DV), (a ++ b).length = a.length + b.length) ∧ (∀ (a : PV) (l : List PV), (a :: l).length = l.length + 1) ∧ (∀ (a : DV) (l : List DV), (a :: l).length = l.length + 1) ∧ ([] : List PV).length = 0 ∧ ([] : List DV).length = 0 ∧
    (∀ (n : Nat) (l : List PV), (l.take n).length = min n l.length) ∧ (∀ (n : Nat) (l : List DV), (l.take n).length = min n l.length) ∧ (∀ (n : Nat) (l : List PV), (l.drop n).length = l.length - n) ∧ (∀ (n : Nat) (l : List DV), (l.drop n).length = l.length - n) ∧ (∀ (k : IntKind) (l : List Int), (l.map (DV.int k)).length = l.length) ∧ (∀ (l : List ByteArray), (l.map DV.str).length = l.length) ∧ (∀ (l : List Bool), (l.map DV.bool).length = l.length) := by
  refine ⟨?_, ?_, ?_, ?_, ?_, ?_, ?_, ?_, ?_, ?_, ?_, ?_, ?_, ?_⟩ <;> intros <;> simp
/-! Closed calls. -/
def aggOK (n : Nat) : Option (PV × St) → Bool
  | some (v, s) => match frzR 8 s.heap v with
    | some (.agg cs, _) => cs.length == n && cs.all fun p => match p with | .d _ => true | _ => false
    | _ => false
  | none => false
theorem agg_data {cs : List PV} (h : (cs.all fun p => match p with | .d _ => true | _ => false) = true) : ∃ ds : List DV, cs = ds.map .d := by
  induction cs with
  | nil => exact ⟨[], rfl⟩
  | cons a cs ih =>
    rw [List.all_cons, Bool.and_eq_true] at h
    obtain ⟨ds, rfl⟩ := ih h.2
    cases a with
    | d v => exact ⟨v :: ds, rfl⟩
    | _ => cases h.1
theorem ret_agg {env : Env} {f : FuncId} {k n : Nat} (ok : okFn env.P f = true) (ext : env.ext f [] = none) (mode : env.mode f = .data false) (h : aggOK n ((lvl env k).call f [] ⟨[], 0⟩) = true) : ∃ ds : List DV, ds.length = n ∧ Ret env f [] (.agg (ds.map .d)) := by
  cases hx : (lvl env k).call f [] ⟨[], 0⟩ with
  | none => rw [hx] at h; cases h
  | some y =>
    obtain ⟨v, s⟩ := y
    rw [hx] at h
    unfold aggOK at h
    simp only at h
    split at h
    · rename_i cs h' hf
      rw [Bool.and_eq_true] at h
      obtain ⟨ds, rfl⟩ := agg_data h.2
      exact ⟨ds, by simpa using h.1, ok, ext, mode, rfl, k, v, s, hx, h', hf⟩
    · cases h
theorem ret_yes {env : Env} {f : FuncId} {k : Nat} (ok : okFn env.P f = true) (ext : env.ext f [] = none) (mode : env.mode f = .data false) (h : yes ((lvl env k).call f [] ⟨[], 0⟩) = true) : Ret env f [] (.d (.bool true)) := by
  have := wc_yes h
  exact ⟨ok, ext, mode, rfl, this.mono fun v s hv => by subst hv; exact ⟨s.heap, frz_data rfl⟩⟩
end Go.Proofs.Ytpepghaknilmhaa.Vm
