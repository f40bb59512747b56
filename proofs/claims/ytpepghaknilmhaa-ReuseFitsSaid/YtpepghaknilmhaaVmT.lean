/- The machine of plain values: more fuel does no harm. Written once for all seats. -/
import Derived.Test.YtpepghaknilmhaaVmS
namespace Go.Proofs.Ytpepghaknilmhaa.Vm
open Go
set_option linter.unusedVariables false
set_option linter.unusedSimpArgs false

/-- What the one answers, the other answers, too. -/
structure Lvl.le (L L' : Lvl) : Prop where
  call : ∀ f args st x, L.call f args st = some x → L'.call f args st = some x
  code : ∀ fid c r s x, L.code fid c r s = some x → L'.code fid c r s = some x
theorem Lvl.le.refl (L : Lvl) : L.le L := ⟨fun _ _ _ _ h => h, fun _ _ _ _ _ h => h⟩
theorem Lvl.le.trans {A B C : Lvl} (h : A.le B) (g : B.le C) : A.le C := ⟨fun f a s x e => g.call f a s x (h.call f a s x e), fun f c r s x e => g.code f c r s x (h.code f c r s x e)⟩

section
variable {env : Env} {L L' : Lvl} (hL : L.le L')
include hL

theorem callOp_mono {f : FuncId} {args : List PV} {st : St} {x : PV × St × Bool} (h : callOp env L f args st = some x) : callOp env L' f args st = some x := by
  unfold callOp at h ⊢
  split at h
  case isFalse => cases h
  rename_i hok
  rw [if_pos hok]
  split at h
  · exact h
  · split at h
    · obtain ⟨y, h1, h2⟩ := Option.map_eq_some_iff.1 h
      rw [hL.call _ _ _ _ h1]
      exact congrArg some h2
    · obtain ⟨y, h1, h2⟩ := Option.bind_eq_some_iff.1 h
      obtain ⟨z, h3, h4⟩ := Option.bind_eq_some_iff.1 h2
      rw [h1, Option.bind_some, hL.call _ _ _ _ h3, Option.bind_some]
      exact h4
    · split at h
      · rename_i hc
        rw [if_pos hc]
        obtain ⟨y, h1, h2⟩ := Option.bind_eq_some_iff.1 h
        obtain ⟨z, h3, h4⟩ := Option.bind_eq_some_iff.1 h2
        rw [h1, Option.bind_some, hL.call _ _ _ _ h3, Option.bind_some]
        exact h4
      · rename_i hc
        rw [if_neg hc]
        obtain ⟨z, h3, h4⟩ := Option.bind_eq_some_iff.1 h
        rw [hL.call _ _ _ _ h3, Option.bind_some]
        exact h4

theorem yieldRun_mono {l : Nat} {args : List PV} {st : St} {x : PV × St} (h : yieldRun L l args st = some x) : yieldRun L' l args st = some x := by
  unfold yieldRun at h ⊢
  split at h
  case h_2 => cases h
  rename_i fid pe tmps ps as bo hg
  try simp only [hg]
  split at h
  case isFalse => cases h
  rename_i hlen
  rw [if_pos hlen]
  split at h
  case h_2 => cases h
  rename_i r1 s1 h1
  rw [hL.code _ _ _ _ _ h1]
  simp only
  split at h
  case h_2 => cases h
  rename_i hg1
  try simp only [hg1]
  split at h
  case h_2 => cases h
  rename_i h2
  rw [hL.code _ _ _ _ _ h2]
  exact h

theorem stepOp_mono {fid nid0 : Nat} {ops : Array Oper} {draw : Bool} {i : Nat} {o : Oper} {regs : List PV} {st : St} {x : PV × St × TE} (h : stepOp env L fid nid0 ops draw i o regs st = some x) : stepOp env L' fid nid0 ops draw i o regs st = some x := by
  unfold stepOp at h ⊢
  split at h
  · obtain ⟨y, h1, h2⟩ := Option.bind_eq_some_iff.1 h
    refine Option.bind_eq_some_iff.2 ⟨y, ?_, h2⟩
    split at h1
    · exact callOp_mono hL h1
    · obtain ⟨z, h4, h5⟩ := Option.map_eq_some_iff.1 h1
      rw [yieldRun_mono hL h4]
      exact congrArg some h5
    · cases h1
  · exact h

theorem runOps_mono {fid nid0 : Nat} {ops : Array Oper} {draw : Bool} : ∀ {l : List Nat} {regs : List PV} {st : St} {x : List PV × St × List (PV × TE)}, runOps env L fid nid0 ops draw l regs st = some x → runOps env L' fid nid0 ops draw l regs st = some x
  | [], _, _, _, h => h
  | i :: l, regs, st, x, h => by
    unfold runOps at h ⊢
    split at h
    case h_1 => cases h
    rename_i o ho
    try simp only [ho]
    split at h
    case h_1 => cases h
    · rename_i hw
      try simp only [hw]
      obtain ⟨y, h1, h2⟩ := Option.map_eq_some_iff.1 h
      rw [runOps_mono h1]
      exact congrArg some h2
    · rename_i hw
      try simp only [hw]
      obtain ⟨y, h1, h2⟩ := Option.bind_eq_some_iff.1 h
      obtain ⟨z, h3, h4⟩ := Option.map_eq_some_iff.1 h2
      rw [stepOp_mono hL h1, Option.bind_some, runOps_mono h3]
      exact congrArg some h4

theorem region_mono {fid : Nat} {ops : Array Oper} {draw : Bool} {regs : List PV} {st : St} {x : Ex × List PV × St} (h : region env L fid ops draw regs st = some x) : region env L' fid ops draw regs st = some x := by
  unfold region at h ⊢
  split at h
  case h_2 => cases h
  rename_i h1
  rw [runOps_mono hL h1]
  exact h
end

theorem loopN_mono {f g : List PV → St → Option (Ex × List PV × St)} (hfg : ∀ r s x, f r s = some x → g r s = some x) : ∀ {k k' : Nat} {r : List PV} {s : St} {x : Ex × List PV × St}, k ≤ k' → loopN f k r s = some x → loopN g k' r s = some x
  | 0, _, _, _, _, _, h => by cases h
  | k + 1, 0, _, _, _, hk, _ => by omega
  | k + 1, k' + 1, r, s, x, hk, h => by
    unfold loopN at h ⊢
    cases hx : f r s with
    | none => rw [hx] at h; cases h
    | some y =>
      obtain ⟨e, r', s'⟩ := y
      rw [hx] at h
      rw [hfg _ _ _ hx]
      cases e with
      | normal => exact loopN_mono hfg (by omega) h
      | _ => exact h

theorem exec_mono {env : Env} {L L' : Lvl} (hL : L.le L') {k k' fid : Nat} (hk : k ≤ k') : ∀ (c : Code) (r : List PV) (s : St) (x : Ex × List PV × St), exec env L k fid c r s = some x → exec env L' k' fid c r s = some x := by
  intro c
  induction c with
  | skip => exact fun _ _ _ h => h
  | label => exact fun _ _ _ h => h
  | exit => exact fun _ _ _ h => h
  | goto => exact fun _ _ _ h => h
  | ret => exact fun _ _ _ h => h
  | scope => intro r s x h; simp only [exec] at h; cases h
  | refuse => intro r s x h; simp only [exec] at h; cases h
  | region id ops draw =>
    intro r s x h
    simp only [exec] at h ⊢
    exact region_mono hL h
  | loop b ih =>
    intro r s x h
    simp only [exec] at h ⊢
    exact loopN_mono ih hk h
  | cond g a b ih1 ih2 =>
    intro r s x h
    simp only [exec] at h ⊢
    split at h
    · rename_i hg
      try simp only [hg]
      exact ih1 _ _ _ h
    · rename_i hg
      try simp only [hg]
      exact ih2 _ _ _ h
    · cases h
  | block id b ih =>
    intro r s x h
    simp only [exec] at h ⊢
    cases hx : exec env L k fid b r s with
    | none => rw [hx] at h; cases h
    | some y => rw [hx] at h; rw [ih _ _ _ hx]; exact h
  | seq a b ih1 ih2 =>
    intro r s x h
    simp only [exec] at h ⊢
    cases hx : exec env L k fid a r s with
    | none => rw [hx] at h; cases h
    | some y =>
      obtain ⟨e, r', s'⟩ := y
      rw [hx] at h
      rw [ih1 _ _ _ hx]
      cases e with
      | normal => exact ih2 _ _ _ h
      | _ => exact h
  | rangeFunc g ps as bo =>
    intro r s x h
    simp only [exec] at h ⊢
    split at h
    case h_2 => cases h
    rename_i f caps hg
    try simp only [hg]
    split at h
    case isFalse => cases h
    rename_i hok
    rw [if_pos hok]
    split at h
    case h_2 => cases h
    rename_i hcall
    rw [hL.call _ _ _ _ hcall]
    exact h

theorem callF_mono {env : Env} {L L' : Lvl} (hL : L.le L') {k k' : Nat} (hk : k ≤ k') {f : FuncId} {args : List PV} {st : St} {x : PV × St} (h : callF env L k f args st = some x) : callF env L' k' f args st = some x := by
  unfold callF at h ⊢
  split at h
  case h_1 => cases h
  rename_i fn hfn
  try simp only [hfn]
  split at h
  case h_1 => cases h
  rename_i body hbody
  try simp only [hbody]
  split at h
  · rename_i hx; rw [exec_mono hL hk _ _ _ _ hx]; exact h
  · rename_i hx; rw [exec_mono hL hk _ _ _ _ hx]; exact h
  · cases h

theorem lvl_step (env : Env) : ∀ k, (lvl env k).le (lvl env (k + 1))
  | 0 => ⟨fun _ _ _ _ h => (by cases h), fun _ _ _ _ _ h => (by cases h)⟩
  | k + 1 => ⟨fun _ _ _ _ h => callF_mono (lvl_step env k) (Nat.le_succ _) h, fun _ c _ _ _ h => exec_mono (lvl_step env k) (Nat.le_succ _) c _ _ _ h⟩
theorem lvl_le (env : Env) {j k : Nat} (h : j ≤ k) : (lvl env j).le (lvl env k) := by
  induction h with
  | refl => exact Lvl.le.refl _
  | step _ ih => exact ih.trans (lvl_step env _)

/-! ### Judgements without fuel -/
/-- The code ends, and so. -/
structure WX (env : Env) (fid : Nat) (c : Code) (r : List PV) (s : St) (Q : Ex → List PV → St → Prop) : Prop where
  out : ∃ k e r' s', exec env (lvl env k) k fid c r s = some (e, r', s') ∧ Q e r' s'
/-- The call returns, and so. -/
structure WC (env : Env) (f : FuncId) (args : List PV) (s : St) (Q : PV → St → Prop) : Prop where
  out : ∃ k v s', (lvl env k).call f args s = some (v, s') ∧ Q v s'
/-- A call within a region. -/
structure WL (env : Env) (f : FuncId) (args : List PV) (s : St) (Q : PV → St → Bool → Prop) : Prop where
  out : ∃ k v s' big, callOp env (lvl env k) f args s = some (v, s', big) ∧ Q v s' big
/-- Operations. -/
structure WO (env : Env) (fid nid0 : Nat) (ops : Array Oper) (draw : Bool) (l : List Nat) (r : List PV) (s : St) (Q : List PV → St → List (PV × TE) → Prop) : Prop where
  out : ∃ k r' s' tr, runOps env (lvl env k) fid nid0 ops draw l r s = some (r', s', tr) ∧ Q r' s' tr

def thenQ (env : Env) (fid : Nat) (b : Code) (Q : Ex → List PV → St → Prop) : Ex → List PV → St → Prop
  | .normal, r, s => WX env fid b r s Q
  | e, r, s => Q e r s
def blockQ (id : Nat) (Q : Ex → List PV → St → Prop) : Ex → List PV → St → Prop
  | .exit id', r, s => if id' = id then Q .normal r s else Q (.exit id') r s
  | e, r, s => Q e r s
def loopQ (env : Env) (fid : Nat) (c : Code) (m : Nat) (Q : Ex → List PV → St → Prop) : Ex → List PV → St → Prop
  | .normal, r, s => WX env fid (.loop c) r (sweep m s) Q
  | e, r, s => Q e r s

section
variable {env : Env} {fid : Nat} {Q Q' : Ex → List PV → St → Prop} {r : List PV} {s : St}
theorem WX.mono {c : Code} (h : WX env fid c r s Q) (hq : ∀ e r s, Q e r s → Q' e r s) : WX env fid c r s Q' := by
  obtain ⟨k, e, r', s', h1, h2⟩ := h
  exact ⟨k, e, r', s', h1, hq _ _ _ h2⟩
theorem WC.mono {f : FuncId} {args : List PV} {Q Q' : PV → St → Prop} (h : WC env f args s Q) (hq : ∀ v s, Q v s → Q' v s) : WC env f args s Q' := by
  obtain ⟨k, v, s', h1, h2⟩ := h
  exact ⟨k, v, s', h1, hq _ _ h2⟩
theorem wx_skip (h : Q .normal r s) : WX env fid .skip r s Q := ⟨0, _, _, _, rfl, h⟩
theorem wx_label {l : Nat} (h : Q .normal r s) : WX env fid (.label l) r s Q := ⟨0, _, _, _, rfl, h⟩
theorem wx_exit {l : Nat} (h : Q (.exit l) r s) : WX env fid (.exit l) r s Q := ⟨0, _, _, _, rfl, h⟩
theorem wx_goto {l : Nat} (h : Q (.goto l) r s) : WX env fid (.goto l) r s Q := ⟨0, _, _, _, rfl, h⟩
theorem wx_ret (h : Q .ret r s) : WX env fid .ret r s Q := ⟨0, _, _, _, rfl, h⟩
theorem wx_seq {a b : Code} (h : WX env fid a r s (thenQ env fid b Q)) : WX env fid (.seq a b) r s Q := by
  obtain ⟨k, e, r1, s1, h1, h2⟩ := h
  cases e with
  | normal =>
    obtain ⟨k2, e2, r2, s2, h3, h4⟩ := h2
    refine ⟨max k k2, e2, r2, s2, ?_, h4⟩
    simp only [exec]
    rw [exec_mono (lvl_le env (Nat.le_max_left k k2)) (Nat.le_max_left k k2) _ _ _ _ h1]
    exact exec_mono (lvl_le env (Nat.le_max_right k k2)) (Nat.le_max_right k k2) _ _ _ _ h3
  | exit id => exact ⟨k, _, r1, s1, by simp only [exec]; rw [h1], h2⟩
  | goto id => exact ⟨k, _, r1, s1, by simp only [exec]; rw [h1], h2⟩
  | ret => exact ⟨k, _, r1, s1, by simp only [exec]; rw [h1], h2⟩
theorem wx_cond {g : Operand} {a b : Code} {t : Bool} (hg : opd r g = .d (.bool t)) (h : if t then WX env fid a r s Q else WX env fid b r s Q) : WX env fid (.cond g a b) r s Q := by
  cases t with
  | true =>
    obtain ⟨k, e, r1, s1, h1, h2⟩ := h
    exact ⟨k, e, r1, s1, by simp only [exec]; rw [hg]; exact h1, h2⟩
  | false =>
    obtain ⟨k, e, r1, s1, h1, h2⟩ := h
    exact ⟨k, e, r1, s1, by simp only [exec]; rw [hg]; exact h1, h2⟩
theorem wx_block {id : Nat} {c : Code} (h : WX env fid c r s (blockQ id Q)) : WX env fid (.block id c) r s Q := by
  obtain ⟨k, e, r1, s1, h1, h2⟩ := h
  cases e with
  | exit id' =>
    have h2' : if id' = id then Q .normal r1 s1 else Q (.exit id') r1 s1 := h2
    by_cases e : id' = id
    · rw [if_pos e] at h2'
      exact ⟨k, .normal, r1, s1, by simp only [exec]; rw [h1]; simp only [if_pos e], h2'⟩
    · rw [if_neg e] at h2'
      exact ⟨k, .exit id', r1, s1, by simp only [exec]; rw [h1]; simp only [if_neg e], h2'⟩
  | normal => exact ⟨k, _, r1, s1, by simp only [exec]; rw [h1], h2⟩
  | goto l => exact ⟨k, _, r1, s1, by simp only [exec]; rw [h1], h2⟩
  | ret => exact ⟨k, _, r1, s1, by simp only [exec]; rw [h1], h2⟩
theorem wx_loop {c : Code} (h : WX env fid c r s (loopQ env fid c s.next Q)) : WX env fid (.loop c) r s Q := by
  obtain ⟨k, e, r1, s1, h1, h2⟩ := h
  cases e with
  | normal =>
    obtain ⟨k2, e2, r2, s2, h3, h4⟩ := h2
    refine ⟨max k k2 + 1, e2, r2, s2, ?_, h4⟩
    simp only [exec] at h3 ⊢
    unfold loopN
    have hk1 : k ≤ max k k2 + 1 := by omega
    have hk2 : k2 ≤ max k k2 + 1 := by omega
    rw [exec_mono (lvl_le env hk1) hk1 _ _ _ _ h1]
    exact loopN_mono (fun r s x => exec_mono (lvl_le env hk2) hk2 _ r s x) (by omega) h3
  | exit id => exact ⟨k + 1, _, r1, s1, by simp only [exec]; unfold loopN; rw [exec_mono (lvl_step env k) (Nat.le_succ k) _ _ _ _ h1], h2⟩
  | goto id => exact ⟨k + 1, _, r1, s1, by simp only [exec]; unfold loopN; rw [exec_mono (lvl_step env k) (Nat.le_succ k) _ _ _ _ h1], h2⟩
  | ret => exact ⟨k + 1, _, r1, s1, by simp only [exec]; unfold loopN; rw [exec_mono (lvl_step env k) (Nat.le_succ k) _ _ _ _ h1], h2⟩
/-- A region whose order is fixed. -/
theorem wx_region {id : Nat} {ops : Array Oper} (h : WO env fid s.next ops false (List.range ops.size) r ⟨s.heap, s.next + ops.size⟩ fun r s _ => Q .normal r s) : WX env fid (.region id ops false) r s Q := by
  obtain ⟨k, r1, s1, tr, h1, h2⟩ := h
  exact ⟨k, _, r1, s1, by simp only [exec, region]; rw [h1]; rfl, h2⟩
/-- A region that draws its order. -/
theorem wx_region_any {id : Nat} {ops : Array Oper} (hst : static ops = true) (h : WO env fid s.next ops true (List.range ops.size) r ⟨s.heap, s.next + ops.size⟩ fun r s tr => compatAll ops tr = true ∧ Q .normal r s) : WX env fid (.region id ops true) r s Q := by
  obtain ⟨k, r1, s1, tr, h1, h2, h3⟩ := h
  exact ⟨k, _, r1, s1, by simp only [exec, region]; rw [h1]; simp [hst, h2], h3⟩
theorem wx_func {f : FuncId} {fn : Func} {c : Code} {args : List PV} {Q : PV → St → Prop} (hf : env.P.funcs[f]? = some fn) (hb : fn.body = some c)
    (h : WX env f c (args ++ List.replicate (fn.ntmps - args.length) .undef) s fun e r s' => (match e with | .normal | .ret => True | _ => False) ∧ ∃ v, resultsP env.P fn r s' = some v ∧ Q v s') : WC env f args s Q := by
  obtain ⟨k, e, r1, s1, h1, h2, v, h3, h4⟩ := h
  refine ⟨k + 1, v, s1, ?_, h4⟩
  show callF env (lvl env k) k f args s = _
  unfold callF
  simp only [hf, hb]
  cases e with
  | normal => rw [h1]; simp only [h3, Option.map_some]
  | ret => rw [h1]; simp only [h3, Option.map_some]
  | exit => exact h2.elim
  | goto => exact h2.elim
end

section
variable {env : Env} {fid nid0 : Nat} {ops : Array Oper} {draw : Bool} {l : List Nat} {regs : List PV} {st : St} {Q : List PV → St → List (PV × TE) → Prop}
theorem wo_nil (h : Q regs st []) : WO env fid nid0 ops draw [] regs st Q := ⟨0, _, _, _, rfl, h⟩
theorem wo_not {i : Nat} {o : Oper} (ho : ops[i]? = some o) (hw : wantedP ops regs o = some false) (h : WO env fid nid0 ops draw l (put regs o.dst .gone) st fun r s tr => Q r s ((.gone, .q .none []) :: tr)) : WO env fid nid0 ops draw (i :: l) regs st Q := by
  obtain ⟨k, r1, s1, tr, h1, h2⟩ := h
  exact ⟨k, r1, s1, _, by unfold runOps; simp only [ho, hw]; rw [h1]; rfl, h2⟩
theorem wo_step {i : Nat} {o : Oper} (ho : ops[i]? = some o) (hw : wantedP ops regs o = some true) {k : Nat} {v : PV} {st' : St} {te : TE} (hs : stepOp env (lvl env k) fid nid0 ops draw i o regs st = some (v, st', te))
    (h : WO env fid nid0 ops draw l (put regs o.dst v) st' fun r s tr => Q r s ((v, te) :: tr)) : WO env fid nid0 ops draw (i :: l) regs st Q := by
  obtain ⟨k2, r1, s1, tr, h1, h2⟩ := h
  refine ⟨max k k2, r1, s1, _, ?_, h2⟩
  unfold runOps
  simp only [ho, hw]
  rw [stepOp_mono (lvl_le env (Nat.le_max_left k k2)) hs, Option.bind_some, runOps_mono (lvl_le env (Nat.le_max_right k k2)) h1]
  rfl
/-- An operation that is no call of a function. -/
theorem wo_op {i : Nat} {o : Oper} (ho : ops[i]? = some o) (hw : wantedP ops regs o = some true) (hc : ∀ g args ts, o.op ≠ .call { callee := .value g, args := args, argTypes := ts }) {v : PV} {e : Eff} (hs : op1 env.P (match o.dst with | some d => env.own fid d | none => false) (nid0 + i) st.heap.get o (opd regs) = some (v, e))
    (h : WO env fid nid0 ops draw l (put regs o.dst v) ⟨e.run st.heap, st.next⟩ fun r s tr => Q r s ((v, .q e (looked (opd regs) o.op)) :: tr)) : WO env fid nid0 ops draw (i :: l) regs st Q := by
  refine wo_step (k := 0) ho hw ?_ h
  unfold stepOp
  split
  · rename_i g args ts hop
    exact absurd hop (hc g args ts)
  · exact congrArg (Option.map (fun x : PV × Eff => ((x.1, ⟨x.2.run st.heap, st.next⟩, TE.q x.2 (looked (opd regs) o.op)) : PV × St × TE))) hs
/-- A call in a region whose order is fixed. -/
theorem wo_call {i : Nat} {o : Oper} (ho : ops[i]? = some o) (hw : wantedP ops regs o = some true) {g : Operand} {args : Array Operand} {ts : Array TypeId} (hop : o.op = .call { callee := .value g, args := args, argTypes := ts }) {f : FuncId} {caps : List PV} (hg : opd regs g = .func f caps)
    (h : WL env f (args.toList.map (opd regs) ++ caps) st fun v s' big => WO env fid nid0 ops false l (put regs o.dst v) (if big then s' else st) fun r s tr => Q r s ((v, if big then .big (fun _ => false) s'.heap else .q .none []) :: tr)) : WO env fid nid0 ops false (i :: l) regs st Q := by
  obtain ⟨k, v, s', big, h1, h2⟩ := h
  cases big with
  | true =>
    refine wo_step (k := k) (te := .big (fun _ => false) s'.heap) (v := v) (st' := s') ho hw ?_ h2
    unfold stepOp
    simp only [hop, hg, Bool.false_eq_true, if_false, h1]
    rfl
  | false =>
    refine wo_step (k := k) (te := .q .none []) (v := v) (st' := st) ho hw ?_ h2
    unfold stepOp
    simp only [hop, hg, Bool.false_eq_true, if_false, h1]
    rfl
/-- A call in a region that draws its order. -/
theorem wo_call_any {i : Nat} {o : Oper} (ho : ops[i]? = some o) (hw : wantedP ops regs o = some true) {g : Operand} {args : Array Operand} {ts : Array TypeId} (hop : o.op = .call { callee := .value g, args := args, argTypes := ts }) {f : FuncId} {caps : List PV} (hg : opd regs g = .func f caps)
    (h : WL env f (args.toList.map (opd regs) ++ caps) ⟨st.heap.keep fun id _ => !hidden true nid0 ops i id, st.next⟩ fun v s' big => (big = true → st.next ≤ s'.next) ∧ WO env fid nid0 ops true l (put regs o.dst v) (if big then ⟨(s'.heap.keep fun id _ => !hidden true nid0 ops i id) ++ st.heap.keep fun id _ => hidden true nid0 ops i id, s'.next⟩ else st)
      fun r s tr => Q r s ((v, if big then .big (hidden true nid0 ops i) s'.heap else .q .none []) :: tr)) : WO env fid nid0 ops true (i :: l) regs st Q := by
  obtain ⟨k, v, s', big, h1, h3, h2⟩ := h
  cases big with
  | true =>
    refine wo_step (k := k) ho hw ?_ h2
    unfold stepOp
    simp only [hop, hg, if_true, h1, Option.bind_some, if_pos (h3 rfl)]
  | false =>
    refine wo_step (k := k) (te := .q .none []) (v := v) (st' := st) ho hw ?_ h2
    unfold stepOp
    simp only [hop, hg, if_true, h1, Option.bind_some]
    rfl
end

/-! ### Calls -/
section
variable {env : Env} {f : FuncId} {args : List PV} {st : St} {Q : PV → St → Bool → Prop}
theorem wl_ext (hok : okFn env.P f = true) {r : PV} (hx : env.ext f args = some r) (h : Q r st false) : WL env f args st Q := by
  refine ⟨0, r, st, false, ?_, h⟩
  unfold callOp
  rw [if_pos hok, hx]
theorem wl_heap (hok : okFn env.P f = true) (hx : env.ext f args = none) (hm : env.mode f = .heap) (h : WC env f args st fun v s' => Q v (if leadsTo v then s' else sweep st.next s') true) : WL env f args st Q := by
  obtain ⟨k, v, s', h1, h2⟩ := h
  refine ⟨k, v, _, true, ?_, h2⟩
  unfold callOp
  rw [if_pos hok, hx]
  simp only [hm]
  rw [h1]
  rfl
/-- A call on data. -/
theorem wl_data (hok : okFn env.P f = true) (hx : env.ext f args = none) (hm : env.mode f = .data false) (hd : args.all isData = true) (h : WC env f args ⟨[], 0⟩ fun v s' => ∃ z h', frzR 8 s'.heap v = some (z, h') ∧ Q z st false) : WL env f args st Q := by
  obtain ⟨k, v, s', h1, z, h', h2, h3⟩ := h
  refine ⟨k, z, st, false, ?_, h3⟩
  unfold callOp
  rw [if_pos hok, hx]
  simp only [hm]
  rw [hd]
  simp only [Bool.not_true, Bool.or_false, Bool.false_eq_true, if_false]
  rw [h1, Option.bind_some, h2]
  rfl
/-- A call whose arguments are frozen ahead. -/
theorem wl_frozen (hok : okFn env.P f = true) (hx : env.ext f args = none) {own : Bool} (hm : env.mode f = .data own) (hd : (own || !args.all isData) = true) {args' : List PV} {hp : Heap} (hfz : thread (frzV 8) st.heap args = some (args', hp))
    (h : WC env f args' ⟨[], 0⟩ fun v s' => ∃ z h' st2, adopt 8 own (s'.heap, ⟨hp, st.next⟩) v = some (z, h', st2) ∧ Q z st2 true) : WL env f args st Q := by
  obtain ⟨k, v, s', h1, z, h', st2, h2, h3⟩ := h
  refine ⟨k, z, st2, true, ?_, h3⟩
  unfold callOp
  rw [if_pos hok, hx]
  simp only [hm]
  rw [hd]
  simp only [if_true]
  rw [hfz, Option.bind_some, h1, Option.bind_some, h2]
  rfl
theorem wl_snap (hok : okFn env.P f = true) (hx : env.ext f args = none) (hm : env.mode f = .snap) {args' : List PV} {hp : Heap} (hfz : thread (frzV 8) st.heap args = some (args', hp))
    (h : WC env f args' ⟨[], 0⟩ fun v s' => scal v = true ∧ Q v st true) : WL env f args st Q := by
  obtain ⟨k, v, s', h1, h2, h3⟩ := h
  refine ⟨k, v, st, true, ?_, h3⟩
  unfold callOp
  rw [if_pos hok, hx]
  simp only [hm]
  rw [hfz, Option.bind_some, h1, Option.bind_some, if_pos h2]
end
end Go.Proofs.Ytpepghaknilmhaa.Vm
