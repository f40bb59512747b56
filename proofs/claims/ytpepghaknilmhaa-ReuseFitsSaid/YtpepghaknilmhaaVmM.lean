/- The machine of plain values: operations in the walk; regions in one order. Written once for all seats. -/
import Derived.Test.YtpepghaknilmhaaVmL
namespace Go.Proofs.Ytpepghaknilmhaa.Vm
open Go
set_option linter.unusedVariables false
set_option linter.unusedSimpArgs false

section
variable {P : Program} {o : Oper} {a : Act} {c : Cfg} {F : Fence} {next : Act → World → Prop} {Q : Exit → Act → World → Prop}

theorem fok_fn {W : World} (h : FOK F W) : (∀ f, F.fn f) ∧ F.depth = none ∧ ∀ b, F.inRound b = Fence.wide.inRound b := by
  rcases h with rfl | ⟨l, rfl, _⟩
  · exact ⟨fun _ => trivial, rfl, fun _ => rfl⟩
  · exact ⟨fun _ => trivial, rfl, fun _ => rfl⟩

theorem op1_no {P : Program} {own : Bool} {nid : Nat} {get : Nat → Option Obj} {ρp : Operand → PV} {v : PV} {e : Eff} (h : op1 P own nid get o ρp = some (v, e)) : ∀ cl, o.op ≠ .defer cl := by
  intro cl hop
  unfold op1 at h
  rw [hop] at h
  cases h

/-- An operation that is no call of a function. -/
theorem op_step {get : Nat → Option Obj} {N : Nat → Prop} {nid : Nat} {own : Bool} {ρp : Operand → PV} {v : PV} {e : Eff} (hF : FOK F c.W) (h : op1 P own nid get o ρp = some (v, e)) (hr : Rel get N c) (hN : N nid) (hρ : ∀ x, VRel c (ρp x) (a.eval x))
    (hk : ∀ c' rv, VRel c' v rv → Rel (fun i => e.at i (get i)) (fun i => N i ∧ i ≠ nid) c' → Step (Lb get c) c c' → (∀ k, Lb (fun i => e.at i (get i)) c' k → Lb get c k ∨ c.W.heap.size ≤ k) → (∀ i, i ≠ nid → c'.ρ i = c.ρ i) → next (a.put o.dst rv) c'.W) : o.wpIn F 0 P a c.W next Q := by
  obtain ⟨hfn, hd, hin⟩ := fok_fn hF
  refine ⟨fun f _ => hfn f, ?_⟩
  rw [Oper.semAt_eq _ _ _ (op1_no h)]
  obtain ⟨c', nx, hrun, hres, h1, h2, h3, h4⟩ := op1_sound h hr hN hρ
  rw [hrun]
  rcases hres with ⟨rv, rfl, hv⟩ | ⟨rfl, rfl⟩
  · exact hk c' rv hv h1 h2 h3 h4
  · exact hk c' undef (.undef _) h1 h2 h3 h4

def runCall (env : Env) (L : Lvl) (g : PV) (args : List PV) (st : St) : Option (PV × St × Bool) :=
  match g with
  | .func f caps => callOp env L f (args ++ caps) st
  | .yield l => (yieldRun L l args st).map fun x => (x.1, x.2, true)
  | _ => none

theorem okFn_spec {P : Program} {f : FuncId} (h : okFn P f = true) (args : Array Value) (w : World) : (callFunc f args).run P w = .ok (.enter f args) w := by
  unfold okFn at h
  split at h
  · rename_i fn hf
    simp only [Bool.and_eq_true, bne_iff_ne, ne_eq] at h
    obtain ⟨h1, h2⟩ := h
    have h3 : (fn.name == "runtime.NumGoroutine") = false := by simp [h1]
    obtain ⟨b, hb⟩ := Option.isSome_iff_exists.1 h2
    simp [callFunc, program, Sem.run, hf, h1, hb]
  · cases h

/-- A call. -/
theorem call_step {env : Env} {L : Lvl} (hL : CallOK env.P L) (hX : ExtOK env) (hC : CodeOK env.P L) (hF : FOK F c.W) {g : Operand} {args : Array Operand} {argTypes : Array TypeId} (hop : o.op = .call { callee := .value g, args := args, argTypes := argTypes }) {ρp : Operand → PV} (hρ : ∀ x, VRel c (ρp x) (a.eval x)) {st st' : St} {v : PV} {big : Bool}
    (hr : Rel st.heap.get (st.next ≤ ·) c) (hrun : runCall env L (ρp g) (args.toList.map ρp) st = some (v, st', big))
    (hk : ∀ c' rv, VRel c' v rv → Post st.heap.get st'.heap.get st.next st'.next c c' → next (a.put o.dst rv) c'.W) : (big = false → st' = st) ∧ o.wpIn F 0 env.P a c.W next Q := by
  obtain ⟨hfn, hd, hin⟩ := fok_fn hF
  have hargs : VL c (args.toList.map ρp) (args.map a.eval) := by
    refine VL.mk' (by simp) fun j u hj => ?_
    rw [List.getElem?_map, Array.getElem?_toList] at hj
    obtain ⟨x, h1, rfl⟩ := Option.map_eq_some_iff.1 hj
    exact ⟨a.eval x, by rw [Array.getElem?_map, h1]; rfl, hρ x⟩
  have hg := hρ g
  unfold runCall at hrun
  split at hrun
  · rename_i f caps hgf
    rw [hgf] at hg
    cases hgv : a.eval g with
    | func fn first vs =>
      rw [hgv] at hg
      cases hg with
      | func hs hv =>
        have hall : VL c (args.toList.map ρp ++ caps) (args.map a.eval ++ vs) := by
          refine VL.mk' (by simp [hs]) fun j u hj => ?_
          rw [List.getElem?_append] at hj
          rw [Array.getElem?_append]
          have hsz : (args.map a.eval).size = (args.toList.map ρp).length := by simp
          rw [hsz]
          by_cases e : j < (args.toList.map ρp).length
          · rw [if_pos e] at hj ⊢
            exact hargs.get hj
          · rw [if_neg e] at hj ⊢
            exact VL.get ⟨hs, hv⟩ hj
        obtain ⟨hok, hb, hcl⟩ := callOp_sound hL hX hrun hall hr
        refine ⟨hb, fun f' _ => hfn f', ?_⟩
        rw [Oper.semAt_eq _ _ _ (fun cl e => by rw [hop] at e; cases e)]
        have hex : (execOp a.eval o).run env.P c.W = .ok (.enter f (args.map a.eval ++ vs)) c.W := by
          simp [execOp, hop, resolve, hgv, Deferred.ofValue, invoke, okFn_spec hok]
        rw [hex, Oper.uponIn_enter]
        refine ⟨(fun h => by rw [hd] at h; cases h), ?_⟩
        have hcl' : CallsIn F 0 env.P f (args.map a.eval ++ vs) c.W (Back st.heap.get st.next c v st'.heap.get st'.next) := by
          rcases hF with rfl | ⟨l, rfl, _⟩
          · exact hcl
          · exact CallsIn.inRound l hcl
        refine CallsIn.mono hcl' ?_
        rintro e w' ⟨c', rv, rfl, rfl, h1, h2⟩
        exact hk c' rv h1 h2
    | _ => rw [hgv] at hg; cases hg
  · rename_i l hgl
    obtain ⟨⟨r1, st1⟩, hy, he⟩ := Option.map_eq_some_iff.1 hrun
    simp only [Prod.mk.injEq] at he
    obtain ⟨rfl, rfl, rfl⟩ := he
    rw [hgl] at hg
    cases hgv : a.eval g with
    | func fn first vs =>
      rw [hgv] at hg
      cases hg with
      | @yield _ b hb =>
        obtain ⟨r0, hL0, hsz, hround⟩ := yield_sound hC hy hargs hr hb F hfn (hin b)
        refine ⟨(fun e => by cases e), fun f' _ => hfn f', ?_⟩
        rw [Oper.semAt_eq _ _ _ (fun cl e => by rw [hop] at e; cases e)]
        have hex : (execOp a.eval o).run env.P c.W = .ok (.round b r0.fn ((r0.params.zip (args.map a.eval)).foldl (fun tmps (t, a) => tmps.setIfInBounds t a) r0.tmps) r0.assign r0.body) c.W := by
          have := run_yield (P := env.P) hL0 hsz
          simp [execOp, hop, resolve, hgv, Deferred.ofValue, invoke, this]
        rw [hex, Oper.uponIn_round]
        refine ⟨(fun h => by rw [hd] at h; cases h), RoundIn.mono hround ?_⟩
        rintro e w' ⟨c', rv, rfl, rfl, h1, h2⟩
        exact hk c' rv h1 h2
    | _ => rw [hgv] at hg; cases hg
  · cases hrun
end

/-- Where a region stands. -/
structure RInv (H0 : Nat → Option Obj) (nid0 : Nat) (c0 : Cfg) (H : Nat → Option Obj) (N : Nat → Prop) (c : Cfg) : Prop where
  rel : Rel H N c
  step : Step (Lb H0 c0) c0 c
  lb : ∀ k, Lb H c k → Lb H0 c0 k ∨ c0.W.heap.size ≤ k
  old : ∀ i, i < nid0 → c.ρ i = c0.ρ i

theorem rinv_op {H0 H : Nat → Option Obj} {nid0 nid : Nat} {c0 c c' : Cfg} {N : Nat → Prop} {e : Eff} (h : RInv H0 nid0 c0 H N c) (hn : nid0 ≤ nid) (h1 : Rel (fun i => e.at i (H i)) (fun i => N i ∧ i ≠ nid) c') (h2 : Step (Lb H c) c c') (h3 : ∀ k, Lb (fun i => e.at i (H i)) c' k → Lb H c k ∨ c.W.heap.size ≤ k)
    (h4 : ∀ i, i ≠ nid → c'.ρ i = c.ρ i) : RInv H0 nid0 c0 (fun i => e.at i (H i)) (fun i => N i ∧ i ≠ nid) c' :=
  ⟨h1, h.step.trans h.lb h2, fun k hk => (h3 k hk).elim (h.lb k) (fun l => .inr (Nat.le_trans h.step.size l)), fun i hi => (h4 i (by omega)).trans (h.old i hi)⟩
theorem Rel.names {H : Nat → Option Obj} {N N' : Nat → Prop} {c : Cfg} (h : Rel H N c) (hn : ∀ i, N' i → c.ρ i = none) : Rel H N' c := ⟨h.live, h.apart, h.notI, h.immlt, hn⟩

/-- Names that are not given yet: behind the counter, and those of operations that are still to come. -/
def Nm (nx nid0 : Nat) (l : List Nat) (i : Nat) : Prop := nx ≤ i ∨ ∃ j, j ∈ l ∧ i = nid0 + j

theorem runOps_sound {env : Env} {L : Lvl} (hL : CallOK env.P L) (hX : ExtOK env) (hC : CodeOK env.P L) {fid nid0 : Nat} {ops : Array Oper} {H0 : Nat → Option Obj} {c0 : Cfg} {Q : Exit → Act → World → Prop} {F : Fence} (hF0 : FOK F c0.W) {d : List Deferred} {regsN : List PV} {stN : St}
    (hQ : ∀ c a, VL c regsN a.tmps → a.defers = d → RInv H0 nid0 c0 stN.heap.get (stN.next ≤ ·) c → nid0 ≤ stN.next → Q .normal a c.W) : ∀ (l : List Nat) (regs : List PV) (st : St) (tr : List (PV × TE)) (c : Cfg) (a : Act), l.Nodup → runOps env L fid nid0 ops false l regs st = some (regsN, stN, tr) →
    VL c regs a.tmps → a.defers = d → RInv H0 nid0 c0 st.heap.get (Nm st.next nid0 l) c → (∀ j, j ∈ l → nid0 + j < st.next) → nid0 ≤ st.next → wpOpsIn F 0 env.P ops Q l a c.W
  | [], regs, st, tr, c, a, _, h, hv, hd, hI, hlt, hle => by
    simp only [runOps, Option.some.injEq, Prod.mk.injEq] at h
    obtain ⟨rfl, rfl, rfl⟩ := h
    exact hQ c a hv hd ⟨hI.rel.sub (fun _ _ h => h) (fun i hi => .inl hi), hI.step, hI.lb, hI.old⟩ hle
  | i :: l, regs, st, tr, c, a, hnd, h, hv, hd, hI, hlt, hle => by
    obtain ⟨hni, hnd'⟩ := List.nodup_cons.1 hnd
    unfold runOps at h
    split at h
    case h_1 => cases h
    rename_i o ho
    have hF : FOK F c.W := hF0.ext hI.step.toExt
    obtain ⟨hfn, hdp, hin⟩ := fok_fn hF
    unfold wpOpsIn
    rw [ho]
    simp only
    split at h
    case h_1 => cases h
    · rename_i hw
      rw [wanted_spec hv hw]
      obtain ⟨⟨r1, s1, t1⟩, h1, h2⟩ := Option.map_eq_some_iff.1 h
      simp only [Prod.mk.injEq] at h2
      obtain ⟨rfl, rfl, rfl⟩ := h2
      simp only [Bool.false_eq_true, if_false]
      refine ⟨fun f _ => hfn f, runOps_sound hL hX hC hF0 hQ l _ st t1 c _ hnd' h1 (hv.put (gone_rel _) _) ?_ ⟨hI.rel.sub (fun _ _ h => h) (fun j hj => ?_), hI.step, hI.lb, hI.old⟩ (fun j hj => hlt j (List.mem_cons_of_mem _ hj)) hle⟩
      · cases hdst : o.dst <;> exact hd
      · rcases hj with hj | ⟨k, hk, rfl⟩
        · exact .inl hj
        · exact .inr ⟨k, List.mem_cons_of_mem _ hk, rfl⟩
    · rename_i hw
      rw [wanted_spec hv hw]
      simp only [if_true]
      obtain ⟨⟨v, st1, te⟩, hs, h⟩ := Option.bind_eq_some_iff.1 h
      obtain ⟨⟨r1, s1, t1⟩, h1, h2⟩ := Option.map_eq_some_iff.1 h
      simp only [Prod.mk.injEq] at h2
      obtain ⟨rfl, rfl, rfl⟩ := h2
      have hput : ∀ rv, (a.put o.dst rv).defers = d := fun rv => by cases hdst : o.dst <;> exact hd
      have hNi : Nm st.next nid0 (i :: l) (nid0 + i) := .inr ⟨i, List.mem_cons_self, rfl⟩
      unfold stepOp at hs
      split at hs
      · rename_i g args argTypes hop
        simp only [Bool.false_eq_true, if_false] at hs
        obtain ⟨⟨v1, st2, big⟩, hrun, hs⟩ := Option.bind_eq_some_iff.1 hs
        have hrun' : runCall env L (opd regs g) (args.toList.map (opd regs)) st = some (v1, st2, big) := hrun
        have hrel : Rel st.heap.get (st.next ≤ ·) c := hI.rel.sub (fun _ _ h => h) (fun j hj => .inl hj)
        have hst : v = v1 ∧ st1 = if big then st2 else st := by
          cases big <;> simp only [Bool.false_eq_true, if_false, if_true, Option.some.injEq, Prod.mk.injEq] at hs ⊢ <;> exact ⟨hs.1.symm, hs.2.1.symm⟩
        obtain ⟨rfl, hst1⟩ := hst
        refine (call_step hL hX hC hF hop hv.eval hrel hrun' (fun c' rv hr' hp => ?_)).2
        have hbig := (call_step (F := F) (o := o) (a := a) (next := fun _ _ => True) (Q := Q) hL hX hC hF hop hv.eval hrel hrun' (fun _ _ _ _ => trivial)).1
        have hst2 : st1 = st2 := by
          cases big with
          | true => simpa using hst1
          | false => rw [hbig rfl]; simpa using hst1
        subst hst2
        refine runOps_sound hL hX hC hF0 hQ l _ st1 t1 c' _ hnd' h1 ((hv.mono hp.step.toExt).put hr' _) (hput _) ⟨hp.rel.names fun j hj => ?_, hI.step.trans hI.lb hp.step, fun k hk => (hp.lb k hk).elim (hI.lb k) (fun l => .inr (Nat.le_trans hI.step.size l)), fun j hj => (hp.old j (by omega)).trans (hI.old j hj)⟩ (fun j hj => Nat.lt_of_lt_of_le (hlt j (List.mem_cons_of_mem _ hj)) hp.le) (Nat.le_trans hle hp.le)
        rcases hj with hj | ⟨k, hk, rfl⟩
        · exact hp.rel.fresh j hj
        · rw [hp.old _ (hlt k (List.mem_cons_of_mem _ hk))]
          exact hI.rel.fresh _ (.inr ⟨k, List.mem_cons_of_mem _ hk, rfl⟩)
      · obtain ⟨⟨v1, e1⟩, hop1, hs⟩ := Option.map_eq_some_iff.1 hs
        simp only [Prod.mk.injEq] at hs
        obtain ⟨rfl, rfl, rfl⟩ := hs
        refine op_step hF hop1 hI.rel hNi hv.eval fun c' rv hr' h1' h2' h3' h4' => ?_
        have hI' := rinv_op hI (by omega) h1' h2' h3' h4'
        have hfun : (fun i => e1.at i (st.heap.get i)) = (e1.run st.heap).get := funext fun i => (Heap.get_run e1 st.heap i).symm
        rw [hfun] at hI'
        refine runOps_sound hL hX hC hF0 hQ l _ ⟨e1.run st.heap, st.next⟩ t1 c' _ hnd' h1 ((hv.mono h2'.toExt).put hr' _) (hput _) ⟨hI'.rel.sub (fun _ _ h => h) (fun j hj => ?_), hI'.step, hI'.lb, hI'.old⟩ (fun j hj => hlt j (List.mem_cons_of_mem _ hj)) hle
        rcases hj with hj | ⟨k, hk, rfl⟩
        · refine ⟨.inl hj, fun e => ?_⟩
          have h5 := hlt i List.mem_cons_self
          have h6 : st.next ≤ j := hj
          omega
        · refine ⟨.inr ⟨k, List.mem_cons_of_mem _ hk, rfl⟩, fun e => hni ?_⟩
          have : k = i := by omega
          exact this ▸ hk
end Go.Proofs.Ytpepghaknilmhaa.Vm
