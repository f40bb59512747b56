/- The machine of plain values: walking, with registers and memory told by what is read of them. Written once for all seats. -/
import Derived.Test.YtpepghaknilmhaaVmX
namespace Go.Proofs.Ytpepghaknilmhaa.Vm
open Go
set_option linter.unusedVariables false
set_option linter.unusedSimpArgs false

/-! ### Registers -/
/-- Some registers are told; how many there are. -/
def Rg (r : List PV) (n : Nat) (l : List (Nat × PV)) : Prop := r.length = n ∧ ∀ p ∈ l, nth r p.1 = p.2
theorem rg_nil {r : List PV} {n : Nat} (h : r.length = n) : Rg r n [] := ⟨h, by simp⟩
theorem rg_cons {r : List PV} {n t : Nat} {v : PV} {l : List (Nat × PV)} (h : nth r t = v) (g : Rg r n l) : Rg r n ((t, v) :: l) := ⟨g.1, fun p hp => by
  rcases List.mem_cons.1 hp with rfl | hp
  · exact h
  · exact g.2 p hp⟩
theorem rg_len {r : List PV} {n : Nat} {l : List (Nat × PV)} (h : Rg r n l) : r.length = n := h.1
theorem rg_head {r : List PV} {n t : Nat} {v : PV} {l : List (Nat × PV)} (h : Rg r n ((t, v) :: l)) : nth r t = v := h.2 _ List.mem_cons_self
theorem rg_tail {r : List PV} {n t : Nat} {v : PV} {l : List (Nat × PV)} (h : Rg r n ((t, v) :: l)) : Rg r n l := ⟨h.1, fun p hp => h.2 p (List.mem_cons_of_mem _ hp)⟩
theorem rg_start {args : List PV} {n : Nat} {l : List (Nat × PV)} (h : ∀ p ∈ l, nth args p.1 = p.2) (hl : ∀ p ∈ l, p.1 < args.length) {k : Nat} (hk : args.length + k = n) : Rg (args ++ List.replicate k .undef) n l :=
  ⟨by simp [hk], fun p hp => by rw [← h p hp]; unfold nth; rw [List.getD_eq_getElem?_getD, List.getD_eq_getElem?_getD, List.getElem?_append_left (hl p hp)]⟩

/-! ### Memory -/
theorem get_new {a : Nat} {o : Obj} {h : Heap} {id : Nat} : Heap.get ((a, o) :: h) id = if a = id then some o else Heap.get h id := Heap.get_cons a o h id
def spl (off : Nat) (vs : List PV) : Option Obj → Option Obj
  | some (.cells b cs) => some (.cells b (splice cs off vs))
  | o => o
theorem spl_some {off : Nat} {vs : List PV} {b : Bool} {cs : List PV} : spl off vs (some (.cells b cs)) = some (.cells b (splice cs off vs)) := rfl
theorem get_wr {a off : Nat} {vs : List PV} {h : Heap} {id : Nat} : Heap.get (Eff.run (.wr a off vs) h) id = if id = a then spl off vs (Heap.get h id) else Heap.get h id := by
  rw [Heap.get_run]
  show (if id = a then (match Heap.get h id with | some (.cells b cs) => some (Obj.cells b (splice cs off vs)) | o => o) else Heap.get h id) = _
  rfl
theorem get_mv {a a' : Nat} {o : Obj} {h : Heap} {id : Nat} : Heap.get (Eff.run (.mv a a' o) h) id = if id = a' then some o else if id = a then none else Heap.get h id := by rw [Heap.get_run]; rfl
theorem get_del {a id : Nat} {h : Heap} : Heap.get (h.del a) id = if id = a then none else Heap.get h id := Heap.get_del h a id
theorem get_put {a : Nat} {x : Obj} {h : Heap} {id : Nat} : Heap.get (h.put a x) id = if id = a then (Heap.get h a).map (fun _ => x) else Heap.get h id := Heap.get_put h a x id
theorem keep_none {f : Nat → Obj → Bool} {h : Heap} {i : Nat} (hn : h.get i = none) : Heap.get (h.keep f) i = none := by
  cases e : Heap.get (h.keep f) i with
  | none => rfl
  | some o => rw [(Heap.get_keep e).1] at hn; cases hn
theorem keep_some {f : Nat → Obj → Bool} {h : Heap} {i : Nat} {o : Obj} (hg : h.get i = some o) : Heap.get (h.keep f) i = if f i o = true then some o else none := by
  by_cases hf : f i o = true
  · rw [if_pos hf]; exact Heap.keep_get hg hf
  · rw [if_neg hf]
    cases e : Heap.get (h.keep f) i with
    | none => rfl
    | some o' =>
      obtain ⟨h1, h2⟩ := Heap.get_keep e
      rw [hg] at h1
      cases h1
      exact absurd h2 hf
theorem get_sweep {m id : Nat} {s : St} (h : id < m) : (sweep m s).heap.get id = s.heap.get id := by
  show Heap.get (s.heap.keep _) id = _
  cases e : s.heap.get id with
  | none => exact keep_none e
  | some o => rw [keep_some e]; simp [h]
theorem get_sweep_row {m id : Nat} {s : St} {cs : List PV} (h : s.heap.get id = some (.cells false cs)) : (sweep m s).heap.get id = some (.cells false cs) := by
  show Heap.get (s.heap.keep _) id = _
  rw [keep_some h]
  simp [Obj.local]
theorem sweep_next {m : Nat} {s : St} : (sweep m s).next = s.next := rfl
theorem sweep_eq {m : Nat} {s : St} : sweep m s = ⟨(sweep m s).heap, s.next⟩ := rfl
theorem splice_at {cs xs : List PV} {off : Nat} : splice cs off xs = cs.take off ++ xs ++ cs.drop (off + xs.length) := rfl

/-- Nothing has changed but what T names, and what is new. -/
structure Fr (T : Nat → Prop) (s s' : St) : Prop where
  next : s.next ≤ s'.next
  same : ∀ id, id < s.next → ¬ T id → s'.heap.get id = s.heap.get id
theorem Fr.refl {T : Nat → Prop} (s : St) : Fr T s s := ⟨Nat.le_refl _, fun _ _ _ => rfl⟩
theorem Fr.trans {T T' : Nat → Prop} {a b c : St} (h : Fr T a b) (g : Fr T' b c) (hT : ∀ k, T' k → T k ∨ a.next ≤ k) : Fr T a c :=
  ⟨Nat.le_trans h.next g.next, fun id hi hn => (g.same id (Nat.lt_of_lt_of_le hi h.next) (fun e => (hT id e).elim hn (fun e => by omega))).trans (h.same id hi hn)⟩
theorem Fr.weaken {T T' : Nat → Prop} {a b : St} (h : Fr T a b) (hT : ∀ k, T k → T' k) : Fr T' a b := ⟨h.next, fun id hi hn => h.same id hi (fun e => hn (hT id e))⟩
theorem Fr.sweep {T : Nat → Prop} {a b : St} {m : Nat} (h : Fr T a b) (hm : a.next ≤ m) : Fr T a (Vm.sweep m b) := ⟨h.next, fun id hi hn => (get_sweep (Nat.lt_of_lt_of_le hi hm)).trans (h.same id hi hn)⟩
theorem Fr.get {T : Nat → Prop} {s s' : St} (h : Fr T s s') {id : Nat} {o : Option Obj} (hg : s.heap.get id = o) (hi : id < s.next) (hn : ¬ T id) : s'.heap.get id = o := (h.same id hi hn).trans hg

/-! ### Calls on data -/
/-- A function's answer to data, frozen. -/
structure Ret (env : Env) (f : FuncId) (args : List PV) (res : PV) : Prop where
  ok : okFn env.P f = true
  ext : env.ext f args = none
  mode : env.mode f = .data false
  data : args.all isData = true
  out : WC env f args ⟨[], 0⟩ fun v s => ∃ h', frzR 8 s.heap v = some (res, h')
/-- The like, a row coming to the caller. -/
structure RetOwn (env : Env) (f : FuncId) (args : List PV) (res : List DV) (n sz : Nat) : Prop where
  ok : okFn env.P f = true
  ext : env.ext f args = none
  mode : env.mode f = .data true
  data : args.all isData = true
  out : WC env f args ⟨[], 0⟩ fun v s => ∃ id off cs, v = .ref id off n sz ∧ s.heap.get id = some (.cells false cs) ∧ off + n * sz ≤ cs.length ∧ (cs.drop off).take (n * sz) = res.map .d
def ret1 (env : Env) (K : PV → Prop) (f : FuncId) (args : List PV) : Prop := ∃ res, Ret env f args res ∧ K res
def retS (env : Env) (K : PV → Prop) : PV → List PV → Prop
  | .func f caps, args => ret1 env K f (args ++ caps)
  | _, _ => False
theorem retS_func {env : Env} {K : PV → Prop} {f : FuncId} {caps args : List PV} : retS env K (.func f caps) args = ret1 env K f (args ++ caps) := rfl
theorem ret1_mk {env : Env} {K : PV → Prop} {f : FuncId} {args : List PV} {res : PV} (h : Ret env f args res) (hK : K res) : ret1 env K f args := ⟨res, h, hK⟩

theorem Ret.wl {env : Env} {f : FuncId} {args : List PV} {res : PV} (h : Ret env f args res) {st : St} {Q : PV → St → Bool → Prop} (hQ : Q res st false) : WL env f args st Q :=
  wl_data h.ok h.ext h.mode h.data (WC.mono h.out fun v s ⟨h', e⟩ => ⟨res, h', e, hQ⟩)

section
variable {env : Env} {fid nid0 : Nat} {ops : Array Oper} {l : List Nat} {regs : List PV} {st : St} {Q : List PV → St → Prop} {i : Nat} {o : Oper} {g : Operand} {args : Array Operand} {ts : Array TypeId}
theorem ws_ret_k (ho : ops[i]? = some o) (hgd : o.guard = none) (hop : o.op = .call { callee := .value g, args := args, argTypes := ts })
    (h : ∀ K : List PV → St → Prop, (∀ r s, WS env fid nid0 ops l r s Q → K r s) → retS env (fun res => K (put regs o.dst res) st) (opd regs g) (args.toList.map (opd regs))) : WS env fid nid0 ops (i :: l) regs st Q := by
  have h1 := h _ (fun _ _ h => h)
  unfold retS at h1
  split at h1
  · rename_i f caps args' hg
    obtain ⟨res, h2, h3⟩ := h1
    refine ws_call ho (by unfold wantedP; rw [hgd]) hop hg (h2.wl ?_)
    simpa using h3
  · exact h1.elim
theorem ws_not {t : Tmp} {j : Nat} {want : Bool} (ho : ops[i]? = some o) (hgd : o.guard = some (j, want)) (hj : (ops[j]?).bind (·.dst) = some t) (hb : nth regs t = .d (.bool (!want))) (h : WS env fid nid0 ops l (put regs o.dst .gone) st Q) : WS env fid nid0 ops (i :: l) regs st Q := by
  refine wo_not ho ?_ h
  unfold wantedP
  unfold nth at hb
  rw [List.getD_eq_getElem?_getD] at hb
  cases hx : regs[t]? with
  | none => rw [hx] at hb; cases hb
  | some y =>
    rw [hx] at hb
    have hb' : y = .d (.bool (!want)) := hb
    subst hb'
    simp only [hgd, hj, hx]
    cases want <;> rfl
theorem wanted_of {t : Tmp} {j : Nat} {want : Bool} (hgd : o.guard = some (j, want)) (hj : (ops[j]?).bind (·.dst) = some t) (hb : nth regs t = .d (.bool want)) : wantedP ops regs o = some true := by
  unfold wantedP
  unfold nth at hb
  rw [List.getD_eq_getElem?_getD] at hb
  cases hx : regs[t]? with
  | none => rw [hx] at hb; cases hb
  | some y =>
    rw [hx] at hb
    have hb' : y = .d (.bool want) := hb
    subst hb'
    simp only [hgd, hj, hx]
    cases want <;> rfl
/-- A call behind a condition. -/
theorem ws_ret_g {t : Tmp} {j : Nat} {want : Bool} (ho : ops[i]? = some o) (hgd : o.guard = some (j, want)) (hj : (ops[j]?).bind (·.dst) = some t) (hop : o.op = .call { callee := .value g, args := args, argTypes := ts })
    (h : ∀ K : List PV → St → Prop, (∀ r s, WS env fid nid0 ops l r s Q → K r s) → guardS want (retS env (fun res => K (put regs o.dst res) st) (opd regs g) (args.toList.map (opd regs))) (K (put regs o.dst .gone) st) (nth regs t)) : WS env fid nid0 ops (i :: l) regs st Q := by
  have h1 := h _ (fun _ _ h => h)
  unfold guardS at h1
  split at h1
  · rename_i b hb
    by_cases e : b = want
    · subst e
      rw [if_pos rfl] at h1
      unfold retS at h1
      split at h1
      · rename_i f caps args' hg
        obtain ⟨res, h2, h3⟩ := h1
        refine ws_call ho (wanted_of hgd hj hb) hop hg (h2.wl ?_)
        simpa using h3
      · exact h1.elim
    · rw [if_neg e] at h1
      refine ws_not ho hgd hj ?_ h1
      rw [hb]
      cases b <;> cases want <;> first | rfl | exact absurd rfl e
  · rename_i vs hb
    exact wo_not ho (not_wanted hgd hj hb) h1
  · exact h1.elim
end

/-! ### Calls in the caller's memory -/
def heap1 (env : Env) (st : St) (K : PV → St → Prop) (f : FuncId) (args : List PV) : Prop := okFn env.P f = true ∧ env.ext f args = none ∧ env.mode f = .heap ∧ WC env f args st fun v s' => K v (if leadsTo v then s' else sweep st.next s')
def heapS (env : Env) (st : St) (K : PV → St → Prop) : PV → List PV → Prop
  | .func f caps, args => heap1 env st K f (args ++ caps)
  | _, _ => False
theorem heapS_func {env : Env} {st : St} {K : PV → St → Prop} {f : FuncId} {caps args : List PV} : heapS env st K (.func f caps) args = heap1 env st K f (args ++ caps) := rfl
section
variable {env : Env} {fid nid0 : Nat} {ops : Array Oper} {l : List Nat} {regs : List PV} {st : St} {Q : List PV → St → Prop} {i : Nat} {o : Oper} {g : Operand} {args : Array Operand} {ts : Array TypeId}
theorem ws_heap_k (ho : ops[i]? = some o) (hgd : o.guard = none) (hop : o.op = .call { callee := .value g, args := args, argTypes := ts })
    (h : ∀ K : List PV → St → Prop, (∀ r s, WS env fid nid0 ops l r s Q → K r s) → heapS env st (fun v s' => K (put regs o.dst v) s') (opd regs g) (args.toList.map (opd regs))) : WS env fid nid0 ops (i :: l) regs st Q := by
  have h1 := h _ (fun _ _ h => h)
  unfold heapS at h1
  split at h1
  · rename_i f caps args' hg
    obtain ⟨h2, h3, h4, h5⟩ := h1
    refine ws_call ho (by unfold wantedP; rw [hgd]) hop hg (wl_heap h2 h3 h4 (WC.mono h5 fun v s' h6 => ?_))
    simpa using h6
  · exact h1.elim
end

/-! ### A range over a function -/
/-- A round, seen from the iterator. -/
structure WY (env : Env) (l : Nat) (args : List PV) (st : St) (Q : PV → St → Prop) : Prop where
  out : ∃ k v s', yieldRun (lvl env k) l args st = some (v, s') ∧ Q v s'
theorem WY.mono {env : Env} {l : Nat} {args : List PV} {st : St} {Q Q' : PV → St → Prop} (h : WY env l args st Q) (hq : ∀ v s, Q v s → Q' v s) : WY env l args st Q' := by
  obtain ⟨k, v, s', h1, h2⟩ := h
  exact ⟨k, v, s', h1, hq _ _ h2⟩
def yieldS (env : Env) (st : St) (K : PV → St → Prop) : PV → List PV → Prop
  | .yield l, args => WY env l args st K
  | _, _ => False
theorem yieldS_yield {env : Env} {st : St} {K : PV → St → Prop} {l : Nat} {args : List PV} : yieldS env st K (.yield l) args = WY env l args st K := rfl
section
variable {env : Env} {fid nid0 : Nat} {ops : Array Oper} {l : List Nat} {regs : List PV} {st : St} {Q : List PV → St → Prop} {i : Nat} {o : Oper} {g : Operand} {args : Array Operand} {ts : Array TypeId}
theorem ws_yield_k (ho : ops[i]? = some o) (hgd : o.guard = none) (hop : o.op = .call { callee := .value g, args := args, argTypes := ts })
    (h : ∀ K : List PV → St → Prop, (∀ r s, WS env fid nid0 ops l r s Q → K r s) → yieldS env st (fun v s' => K (put regs o.dst v) s') (opd regs g) (args.toList.map (opd regs))) : WS env fid nid0 ops (i :: l) regs st Q := by
  have h1 := h _ (fun _ _ h => h)
  unfold yieldS at h1
  split at h1
  · rename_i ll args' hg
    obtain ⟨k, v, s', h2, h3⟩ := h1
    refine wo_step (k := k) (te := .big (fun _ => false) s'.heap) (v := v) (st' := s') ho (by unfold wantedP; rw [hgd]) ?_ h3
    unfold stepOp
    simp only [hop, hg, Bool.false_eq_true, if_false]
    rw [h2]
    rfl
  · exact h1.elim
end

/-- How a round ends. -/
def yieldEnd (env : Env) (l mark : Nat) (Q : PV → St → Prop) (e : Ex) (s2 : St) : Prop := ∃ fid2 st2 pe2 tmps2 ps2 as2 bo2, s2.heap.get l = some (.loop fid2 st2 pe2 tmps2 ps2 as2 bo2) ∧ match e with
  | .normal => Q (.d (.bool true)) (sweep mark ⟨s2.heap.put l (.loop fid2 .ready none tmps2 ps2 as2 bo2), s2.next⟩)
  | .ret => Q (.d (.bool false)) ⟨s2.heap.put l (.loop fid2 .done (some .ret) tmps2 ps2 as2 bo2), s2.next⟩
  | .exit id => Q (.d (.bool false)) ⟨s2.heap.put l (.loop fid2 .done (some (.exit id)) tmps2 ps2 as2 bo2), s2.next⟩
  | .goto t => Q (.d (.bool false)) ⟨s2.heap.put l (.loop fid2 .done (some (.goto t)) tmps2 ps2 as2 bo2), s2.next⟩
theorem wy_run {env : Env} {l : Nat} {args : List PV} {st : St} {Q : PV → St → Prop} {fid : FuncId} {pe : Option Code} {tmps : List PV} {ps : List Tmp} {as bo : Code} (hg : st.heap.get l = some (.loop fid .ready pe tmps ps as bo)) (hl : args.length = ps.length)
    (h : WX env fid as ((ps.zip args).foldl (fun t x => t.set x.1 x.2) tmps) st fun e r1 s1 => e = .normal ∧ ∃ fid' pe' tmps' ps' as' bo', s1.heap.get l = some (.loop fid' .ready pe' tmps' ps' as' bo') ∧
      WX env fid bo r1 ⟨s1.heap.put l (.loop fid' .busy pe' tmps' ps' as' bo'), s1.next⟩ fun e _ s2 => yieldEnd env l st.next Q e s2) : WY env l args st Q := by
  obtain ⟨k, e, r1, s1, h1, rfl, fid', pe', tmps', ps', as', bo', h2, k2, e2, r2, s2, h3, h4⟩ := h
  obtain ⟨fid2, st2, pe2, tmps2, ps2, as2, bo2, h5, h6⟩ := h4
  have a1 : (lvl env (max k k2 + 1)).code fid as ((ps.zip args).foldl (fun t x => t.set x.1 x.2) tmps) st = some (.normal, r1, s1) :=
    exec_mono (lvl_le env (Nat.le_max_left k k2)) (Nat.le_max_left k k2) _ _ _ _ h1
  have a2 : (lvl env (max k k2 + 1)).code fid bo r1 ⟨s1.heap.put l (.loop fid' .busy pe' tmps' ps' as' bo'), s1.next⟩ = some (e2, r2, s2) :=
    exec_mono (lvl_le env (Nat.le_max_right k k2)) (Nat.le_max_right k k2) _ _ _ _ h3
  cases e2 with
  | normal => exact ⟨max k k2 + 1, _, _, by unfold yieldRun; simp only [hg, hl, if_true, a1, h2, a2, h5], h6⟩
  | ret => exact ⟨max k k2 + 1, _, _, by unfold yieldRun; simp only [hg, hl, if_true, a1, h2, a2, h5], h6⟩
  | exit id => exact ⟨max k k2 + 1, _, _, by unfold yieldRun; simp only [hg, hl, if_true, a1, h2, a2, h5], h6⟩
  | goto id => exact ⟨max k k2 + 1, _, _, by unfold yieldRun; simp only [hg, hl, if_true, a1, h2, a2, h5], h6⟩
/-- What follows a range, by what is pending. -/
def rangeEnd (Q : Ex → List PV → St → Prop) (r : List PV) (s : St) : Option Code → Prop
  | none => Q .normal r s
  | some .ret => Q .ret r s
  | some (.exit id) => Q (.exit id) r s
  | some (.goto l) => Q (.goto l) r s
  | _ => False
theorem wx_range {env : Env} {fid : Nat} {g : Operand} {ps : Array Tmp} {as bo : Code} {r : List PV} {s : St} {Q : Ex → List PV → St → Prop} {f : FuncId} {caps : List PV} (hg : opd r g = .func f caps) (hok : okFn env.P f = true)
    (h : WC env f (.yield s.next :: caps) ⟨(s.next, .loop fid .ready none r ps.toList as bo) :: s.heap, s.next + 1⟩ fun _ s1 => ∃ fid' stt pe t p a b, s1.heap.get s.next = some (.loop fid' stt pe t p a b) ∧ stt ≠ .busy ∧ rangeEnd Q r (sweep s.next ⟨s1.heap.del s.next, s1.next⟩) pe) : WX env fid (.rangeFunc g ps as bo) r s Q := by
  obtain ⟨k, v, s1, h1, fid', stt, pe, t, p, a, b, h2, h3, h4⟩ := h
  unfold rangeEnd at h4
  split at h4
  · exact ⟨k, _, _, _, by simp only [exec, hg, hok, if_true, h1, h2, if_neg h3], h4⟩
  · exact ⟨k, _, _, _, by simp only [exec, hg, hok, if_true, h1, h2, if_neg h3], h4⟩
  · exact ⟨k, _, _, _, by simp only [exec, hg, hok, if_true, h1, h2, if_neg h3], h4⟩
  · exact ⟨k, _, _, _, by simp only [exec, hg, hok, if_true, h1, h2, if_neg h3], h4⟩
  · exact h4.elim
/-! ### A function's start and end -/
def finQ (P : Program) (fn : Func) (Q : PV → St → Prop) (e : Ex) (r : List PV) (s' : St) : Prop := (match e with | .normal | .ret => True | _ => False) ∧ ∃ v, resultsP P fn r s' = some v ∧ Q v s'
theorem wx_func0 {env : Env} {f : FuncId} {fn : Func} {c : Code} {s : St} {n : Nat} {Q : PV → St → Prop} (hf : env.P.funcs[f]? = some fn) (hb : fn.body = some c) (hn : fn.ntmps = n) (hle : 0 ≤ n)
    (h : ∀ r : List PV, r.length = n → WX env f c r s (finQ env.P fn Q)) : WC env f [] s Q :=
  wx_func hf hb (h _ (by simp only [List.length_append, List.length_replicate, List.length_cons, List.length_nil, hn]; omega))
theorem wx_func1 {env : Env} {f : FuncId} {fn : Func} {c : Code} {a0 : PV} {s : St} {n : Nat} {Q : PV → St → Prop} (hf : env.P.funcs[f]? = some fn) (hb : fn.body = some c) (hn : fn.ntmps = n) (hle : 1 ≤ n)
    (h : ∀ r : List PV, r.length = n → nth r 0 = a0 → WX env f c r s (finQ env.P fn Q)) : WC env f [a0] s Q :=
  wx_func hf hb (h _ (by simp only [List.length_append, List.length_replicate, List.length_cons, List.length_nil, hn]; omega) rfl)
theorem wx_func2 {env : Env} {f : FuncId} {fn : Func} {c : Code} {a0 a1 : PV} {s : St} {n : Nat} {Q : PV → St → Prop} (hf : env.P.funcs[f]? = some fn) (hb : fn.body = some c) (hn : fn.ntmps = n) (hle : 2 ≤ n)
    (h : ∀ r : List PV, r.length = n → nth r 0 = a0 → nth r 1 = a1 → WX env f c r s (finQ env.P fn Q)) : WC env f [a0, a1] s Q :=
  wx_func hf hb (h _ (by simp only [List.length_append, List.length_replicate, List.length_cons, List.length_nil, hn]; omega) rfl rfl)
theorem wx_func3 {env : Env} {f : FuncId} {fn : Func} {c : Code} {a0 a1 a2 : PV} {s : St} {n : Nat} {Q : PV → St → Prop} (hf : env.P.funcs[f]? = some fn) (hb : fn.body = some c) (hn : fn.ntmps = n) (hle : 3 ≤ n)
    (h : ∀ r : List PV, r.length = n → nth r 0 = a0 → nth r 1 = a1 → nth r 2 = a2 → WX env f c r s (finQ env.P fn Q)) : WC env f [a0, a1, a2] s Q :=
  wx_func hf hb (h _ (by simp only [List.length_append, List.length_replicate, List.length_cons, List.length_nil, hn]; omega) rfl rfl rfl)
theorem wx_func4 {env : Env} {f : FuncId} {fn : Func} {c : Code} {a0 a1 a2 a3 : PV} {s : St} {n : Nat} {Q : PV → St → Prop} (hf : env.P.funcs[f]? = some fn) (hb : fn.body = some c) (hn : fn.ntmps = n) (hle : 4 ≤ n)
    (h : ∀ r : List PV, r.length = n → nth r 0 = a0 → nth r 1 = a1 → nth r 2 = a2 → nth r 3 = a3 → WX env f c r s (finQ env.P fn Q)) : WC env f [a0, a1, a2, a3] s Q :=
  wx_func hf hb (h _ (by simp only [List.length_append, List.length_replicate, List.length_cons, List.length_nil, hn]; omega) rfl rfl rfl rfl)
theorem wx_func5 {env : Env} {f : FuncId} {fn : Func} {c : Code} {a0 a1 a2 a3 a4 : PV} {s : St} {n : Nat} {Q : PV → St → Prop} (hf : env.P.funcs[f]? = some fn) (hb : fn.body = some c) (hn : fn.ntmps = n) (hle : 5 ≤ n)
    (h : ∀ r : List PV, r.length = n → nth r 0 = a0 → nth r 1 = a1 → nth r 2 = a2 → nth r 3 = a3 → nth r 4 = a4 → WX env f c r s (finQ env.P fn Q)) : WC env f [a0, a1, a2, a3, a4] s Q :=
  wx_func hf hb (h _ (by simp only [List.length_append, List.length_replicate, List.length_cons, List.length_nil, hn]; omega) rfl rfl rfl rfl rfl)
theorem wx_func6 {env : Env} {f : FuncId} {fn : Func} {c : Code} {a0 a1 a2 a3 a4 a5 : PV} {s : St} {n : Nat} {Q : PV → St → Prop} (hf : env.P.funcs[f]? = some fn) (hb : fn.body = some c) (hn : fn.ntmps = n) (hle : 6 ≤ n)
    (h : ∀ r : List PV, r.length = n → nth r 0 = a0 → nth r 1 = a1 → nth r 2 = a2 → nth r 3 = a3 → nth r 4 = a4 → nth r 5 = a5 → WX env f c r s (finQ env.P fn Q)) : WC env f [a0, a1, a2, a3, a4, a5] s Q :=
  wx_func hf hb (h _ (by simp only [List.length_append, List.length_replicate, List.length_cons, List.length_nil, hn]; omega) rfl rfl rfl rfl rfl rfl)
theorem wx_func7 {env : Env} {f : FuncId} {fn : Func} {c : Code} {a0 a1 a2 a3 a4 a5 a6 : PV} {s : St} {n : Nat} {Q : PV → St → Prop} (hf : env.P.funcs[f]? = some fn) (hb : fn.body = some c) (hn : fn.ntmps = n) (hle : 7 ≤ n)
    (h : ∀ r : List PV, r.length = n → nth r 0 = a0 → nth r 1 = a1 → nth r 2 = a2 → nth r 3 = a3 → nth r 4 = a4 → nth r 5 = a5 → nth r 6 = a6 → WX env f c r s (finQ env.P fn Q)) : WC env f [a0, a1, a2, a3, a4, a5, a6] s Q :=
  wx_func hf hb (h _ (by simp only [List.length_append, List.length_replicate, List.length_cons, List.length_nil, hn]; omega) rfl rfl rfl rfl rfl rfl rfl)
theorem wx_func8 {env : Env} {f : FuncId} {fn : Func} {c : Code} {a0 a1 a2 a3 a4 a5 a6 a7 : PV} {s : St} {n : Nat} {Q : PV → St → Prop} (hf : env.P.funcs[f]? = some fn) (hb : fn.body = some c) (hn : fn.ntmps = n) (hle : 8 ≤ n)
    (h : ∀ r : List PV, r.length = n → nth r 0 = a0 → nth r 1 = a1 → nth r 2 = a2 → nth r 3 = a3 → nth r 4 = a4 → nth r 5 = a5 → nth r 6 = a6 → nth r 7 = a7 → WX env f c r s (finQ env.P fn Q)) : WC env f [a0, a1, a2, a3, a4, a5, a6, a7] s Q :=
  wx_func hf hb (h _ (by simp only [List.length_append, List.length_replicate, List.length_cons, List.length_nil, hn]; omega) rfl rfl rfl rfl rfl rfl rfl rfl)
theorem wx_func9 {env : Env} {f : FuncId} {fn : Func} {c : Code} {a0 a1 a2 a3 a4 a5 a6 a7 a8 : PV} {s : St} {n : Nat} {Q : PV → St → Prop} (hf : env.P.funcs[f]? = some fn) (hb : fn.body = some c) (hn : fn.ntmps = n) (hle : 9 ≤ n)
    (h : ∀ r : List PV, r.length = n → nth r 0 = a0 → nth r 1 = a1 → nth r 2 = a2 → nth r 3 = a3 → nth r 4 = a4 → nth r 5 = a5 → nth r 6 = a6 → nth r 7 = a7 → nth r 8 = a8 → WX env f c r s (finQ env.P fn Q)) : WC env f [a0, a1, a2, a3, a4, a5, a6, a7, a8] s Q :=
  wx_func hf hb (h _ (by simp only [List.length_append, List.length_replicate, List.length_cons, List.length_nil, hn]; omega) rfl rfl rfl rfl rfl rfl rfl rfl rfl)
theorem wx_func10 {env : Env} {f : FuncId} {fn : Func} {c : Code} {a0 a1 a2 a3 a4 a5 a6 a7 a8 a9 : PV} {s : St} {n : Nat} {Q : PV → St → Prop} (hf : env.P.funcs[f]? = some fn) (hb : fn.body = some c) (hn : fn.ntmps = n) (hle : 10 ≤ n)
    (h : ∀ r : List PV, r.length = n → nth r 0 = a0 → nth r 1 = a1 → nth r 2 = a2 → nth r 3 = a3 → nth r 4 = a4 → nth r 5 = a5 → nth r 6 = a6 → nth r 7 = a7 → nth r 8 = a8 → nth r 9 = a9 → WX env f c r s (finQ env.P fn Q)) : WC env f [a0, a1, a2, a3, a4, a5, a6, a7, a8, a9] s Q :=
  wx_func hf hb (h _ (by simp only [List.length_append, List.length_replicate, List.length_cons, List.length_nil, hn]; omega) rfl rfl rfl rfl rfl rfl rfl rfl rfl rfl)

theorem nth_get {r : List PV} {t : Nat} (h : t < r.length) : r[t]? = some (nth r t) := by
  unfold nth
  rw [List.getD_eq_getElem?_getD, List.getElem?_eq_getElem h]
  rfl
theorem res_none {P : Program} {fn : Func} {r : List PV} {s : St} (h : fn.results = #[]) : resultsP P fn r s = some (.tuple []) := by
  unfold resultsP
  rw [h]
  rfl
theorem res_tmp {P : Program} {fn : Func} {r : List PV} {s : St} {t : Nat} {v : PV} (h : fn.results = #[.tmp t]) (hl : t < r.length) (hv : nth r t = v) : resultsP P fn r s = some v := by
  unfold resultsP
  rw [h]
  simp [nth_get hl, hv]
theorem res_tmp2 {P : Program} {fn : Func} {r : List PV} {s : St} {t u : Nat} {v w : PV} (h : fn.results = #[.tmp t, .tmp u]) (hl : t < r.length) (hv : nth r t = v) (hl2 : u < r.length) (hv2 : nth r u = w) : resultsP P fn r s = some (.tuple [v, w]) := by
  unfold resultsP
  rw [h]
  simp [nth_get hl, hv, nth_get hl2, hv2]
def celR (P : Program) (t : Nat) (off : Nat) : Option Obj → Option PV
  | some (.cells _ cs) => readK (rdk P t) cs off
  | _ => none
theorem res_cell {P : Program} {fn : Func} {r : List PV} {s : St} {a t id off : Nat} {v : PV} (h : fn.results = #[.cell a t]) (hl : a < r.length) (hv : nth r a = .ptr id off) (hg : celR P t off (s.heap.get id) = some v) : resultsP P fn r s = some v := by
  unfold resultsP
  rw [h]
  cases hx : s.heap.get id with
  | none => rw [hx] at hg; cases hg
  | some o =>
    rw [hx] at hg
    cases o with
    | cells b cs =>
      have h1 : readAt P t cs off = some v := by rw [readAt_eq]; exact hg
      simp [nth_get hl, hv, hx, h1]
    | loop => cases hg
theorem fin_ret {P : Program} {fn : Func} {Q : PV → St → Prop} {r : List PV} {s : St} {v : PV} (h : resultsP P fn r s = some v) (hq : Q v s) : finQ P fn Q .ret r s := ⟨trivial, v, h, hq⟩
theorem fin_normal {P : Program} {fn : Func} {Q : PV → St → Prop} {r : List PV} {s : St} {v : PV} (h : resultsP P fn r s = some v) (hq : Q v s) : finQ P fn Q .normal r s := ⟨trivial, v, h, hq⟩

/-! ### Freezing -/
theorem frz_data {h : Heap} {v : PV} (hd : isData v = true) : frzR 8 h v = some (v, h) := by
  cases v with
  | agg cs =>
    have key : ∀ (l : List PV), l.all isData1 = true → thread (frzC 8) h l = some (l, h) := by
      intro l
      induction l with
      | nil => intro _; rfl
      | cons a l ih =>
        intro hl
        rw [List.all_cons, Bool.and_eq_true] at hl
        have h1 : frzC 8 h a = some (a, h) := by
          unfold frzC
          cases a <;> first | (simp [isData1] at hl; done) | rfl
        unfold thread
        rw [h1, Option.bind_some, ih hl.2]
        rfl
    show (thread (frzC 8) h cs).map _ = _
    rw [key cs hd]
    rfl
  | d x => rfl
  | nilptr => rfl
  | nilfunc => rfl
  | nilmap => rfl
  | _ => cases hd
theorem frz_row {h : Heap} {id off n sz : Nat} {b : Bool} {cs : List PV} {ds : List DV} (hg : h.get id = some (.cells b cs)) (hle : off + n * sz ≤ cs.length) (hd : (cs.drop off).take (n * sz) = ds.map .d) : frzR 8 h (.ref id off n sz) = some (.d (.list false false n ds), h.del id) := by
  have key : ∀ (k : Nat) (h : Heap) (l : List DV), thread (frzC (k + 1)) h (l.map .d) = some (l.map .d, h) := by
    intro k h l
    induction l with
    | nil => rfl
    | cons a l ih =>
      rw [List.map_cons]
      unfold thread
      have h1 : frzC (k + 1) h (.d a) = some (.d a, h) := rfl
      rw [h1, Option.bind_some, ih]
      rfl
  show frzC 8 h (.ref id off n sz) = _
  unfold frzC
  simp only [hg]
  rw [if_pos hle, hd, key 6, Option.bind_some, show dataAll (ds.map .d) = some ds from by
    unfold dataAll
    induction ds with
    | nil => rfl
    | cons a l ih => rw [List.map_cons, List.mapM_cons]; rw [show List.mapM data? (l.map .d) = some l from by
        clear ih hd
        induction l with
        | nil => rfl
        | cons a l ih => rw [List.map_cons, List.mapM_cons, ih]; rfl]; rfl]
  rfl
theorem Ret.mk' {env : Env} {f : FuncId} {args : List PV} {res : PV} (ok : okFn env.P f = true) (ext : env.ext f args = none) (mode : env.mode f = .data false) (data : args.all isData = true) (out : WC env f args ⟨[], 0⟩ fun v _ => v = res) (hd : isData res = true) : Ret env f args res :=
  ⟨ok, ext, mode, data, WC.mono out fun v s h => by subst h; exact ⟨s.heap, frz_data hd⟩⟩
theorem ret_of {env : Env} {f : FuncId} {args : List PV} {R : PV → Prop} (ok : okFn env.P f = true) (ext : env.ext f args = none) (mode : env.mode f = .data false) (data : args.all isData = true) (h : WC env f args ⟨[], 0⟩ fun v _ => isData v = true ∧ R v) : ∃ res, Ret env f args res ∧ R res := by
  obtain ⟨k, v, s, h1, h2, h3⟩ := h
  exact ⟨v, ⟨ok, ext, mode, data, k, v, s, h1, s.heap, frz_data h2⟩, h3⟩
theorem ret_frz {env : Env} {f : FuncId} {args : List PV} {R : PV → Prop} (ok : okFn env.P f = true) (ext : env.ext f args = none) (mode : env.mode f = .data false) (data : args.all isData = true) (h : WC env f args ⟨[], 0⟩ fun v s => ∃ res h', frzR 8 s.heap v = some (res, h') ∧ R res) : ∃ res, Ret env f args res ∧ R res := by
  obtain ⟨k, v, s, h1, res, h', h2, h3⟩ := h
  exact ⟨res, ⟨ok, ext, mode, data, k, v, s, h1, h', h2⟩, h3⟩
end Go.Proofs.Ytpepghaknilmhaa.Vm
