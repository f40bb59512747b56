/- The machine of plain values: regions. Written once for all seats. -/
import Derived.Test.YtpepghaknilmhaaVmP
namespace Go.Proofs.Ytpepghaknilmhaa.Vm
open Go
set_option linter.unusedVariables false
set_option linter.unusedSimpArgs false

section
variable {env : Env} {L : Lvl} {fid nid0 : Nat} {ops : Array Oper} {R : Nat → List PV} {S : Nat → St} {T : Nat → PV × TE}

theorem opd_eq {regs regs' : List PV} {o : Oper} {ops : Array Oper} (h : ∀ t ∈ o.looksAt ops, regs[t]? = regs'[t]?) {x : Operand} (hx : x ∈ o.op.operands) : opd regs x = opd regs' x := by
  cases x with
  | tmp t =>
    have : t ∈ o.looksAt ops := by
      unfold Oper.looksAt
      exact List.mem_append_left _ (List.mem_filterMap.2 ⟨.tmp t, Array.mem_toList_iff.2 hx, rfl⟩)
    simp only [opd, List.getD_eq_getElem?_getD, h t this]
  | _ => rfl
theorem wanted_eq {regs regs' : List PV} {o : Oper} {ops : Array Oper} (h : ∀ t ∈ o.looksAt ops, regs[t]? = regs'[t]?) : wantedP ops regs o = wantedP ops regs' o := by
  unfold wantedP
  cases hg : o.guard with
  | none => rfl
  | some p =>
    obtain ⟨j, want⟩ := p
    simp only
    cases hd : (ops[j]?).bind (·.dst) with
    | none => rfl
    | some t =>
      have : t ∈ o.looksAt ops := by
        unfold Oper.looksAt
        refine List.mem_append_right _ ?_
        simp [hg, hd]
      simp only [h t this]

theorem drawn_step (hL : CallOK env.P L) (hX : ExtOK env) (hC : CodeOK env.P L) (h : Sched env L fid nid0 ops R S T) {H0 : Nat → Option Obj} {c0 c : Cfg} {F : Fence} {a : Act} {d : List Deferred} {Q : Exit → Act → World → Prop} {K : Act → World → Prop} (hF : FOK F c.W) {D D' : Nat → Bool} (hc : Closed ops D) {j : Nat} {o : Oper} (hj : ops[j]? = some o)
    (hr : ∀ e ∈ o.after, Region.binds .any e = true → D e.on = true) (hDj : D j = false) (hDj' : D' j = true) (ho : ∀ i, i ≠ j → D' i = D i) (hv : VL c (RD ops R T D) a.tmps) (hI : RInv H0 nid0 c0 (HD ops S T D) (ND nid0 ops S T D) c) (hd : a.defers = d)
    (hK : ∀ c' a', VL c' (RD ops R T D') a'.tmps → a'.defers = d → RInv H0 nid0 c0 (HD ops S T D') (ND nid0 ops S T D') c' → K a' c'.W) : wpOpIn F 0 env.P ops Q j K a c.W := by
  obtain ⟨hfn, hdp, hin⟩ := fok_fn hF
  have hjl := (Array.getElem?_eq_some_iff.1 hj).1
  have hread : ∀ t ∈ o.looksAt ops, (R j)[t]? = (RD ops R T D)[t]? := fun t ht => (h.rd hc hj hDj hr ht).symm
  have hput := h.rd_put hc hj hDj hDj' ho
  have hcd := h.cd_put hc hj hr hDj hDj' ho
  have hge := h.cd_ge D
  have hdef : ∀ rv, (a.put o.dst rv).defers = d := fun rv => by cases o.dst <;> exact hd
  have hfree := fun i hi hne => h.free hc hj hDj hr (i := i) hi hne
  obtain ⟨o', ho', hR, hcase⟩ := h.run.at_ j (Nat.zero_le _) (by omega)
  rw [hj] at ho'
  cases ho'
  unfold wpOpIn
  rw [hj]
  simp only
  rcases hcase with ⟨hw, hS, hT⟩ | ⟨hw, hstep⟩
  · rw [wanted_eq hread] at hw
    rw [wanted_spec hv hw]
    simp only [Bool.false_eq_true, if_false]
    refine ⟨fun f _ => hfn f, hK c _ ?_ (hdef _) ?_⟩
    · rw [hput]
      exact hv.put (by rw [hT]; exact gone_rel _) _
    · have hHD : HD ops S T D' = HD ops S T D := funext fun id => by rw [h.hd_put hc hj hr hDj hDj' ho id, hT]; rfl
      have hCD : CD ops S T D' = CD ops S T D := by rw [hcd.1, hT]; rfl
      rw [hHD]
      refine ⟨hI.rel.sub (fun _ _ h => h) (fun i hi => ?_), hI.step, hI.lb, hI.old⟩
      rcases hi with hi | ⟨k, h1, h2, h3⟩
      · exact .inl (by rw [← hCD]; exact hi)
      · have hkj : k ≠ j := fun e => by rw [e, hDj'] at h2; cases h2
        exact .inr ⟨k, h1, by rw [← ho k hkj]; exact h2, h3⟩
  · rw [wanted_eq hread] at hw
    rw [wanted_spec hv hw]
    simp only [if_true]
    have hND : ∀ k, k < ops.size → D' k = false → k ≠ j ∧ D k = false := fun k h1 h2 => by
      have hkj : k ≠ j := fun e => by rw [e, hDj'] at h2; cases h2
      exact ⟨hkj, by rw [← ho k hkj]; exact h2⟩
    unfold stepOp at hstep
    split at hstep
    · rename_i g args argTypes hop
      simp only [if_true] at hstep
      obtain ⟨⟨v1, st2, big⟩, hrun, hstep⟩ := Option.bind_eq_some_iff.1 hstep
      have hg : opd (R j) g = opd (RD ops R T D) g := opd_eq hread (by rw [hop]; simp [Op.operands, Call.operands])
      have hargs : args.toList.map (opd (R j)) = args.toList.map (opd (RD ops R T D)) := List.map_congr_left fun x hx => opd_eq hread (by rw [hop]; simp [Op.operands, Call.operands, Array.mem_toList_iff.1 hx])
      have hrun' : runCall env L (opd (RD ops R T D) g) (args.toList.map (opd (RD ops R T D))) ⟨(S j).heap.keep fun id _ => !hidden true nid0 ops j id, (S j).next⟩ = some (v1, st2, big) := by
        rw [← hg, ← hargs]; exact hrun
      cases big with
      | false =>
        simp only [Bool.false_eq_true, if_false, Option.some.injEq, Prod.mk.injEq] at hstep
        obtain ⟨rfl, hS, hT⟩ := hstep
        have hfreecall : runCall env L (opd (RD ops R T D) g) (args.toList.map (opd (RD ops R T D))) ⟨[], CD ops S T D⟩ = some ((T j).1, ⟨[], CD ops S T D⟩, false) := by
          unfold runCall at hrun' ⊢
          split at hrun'
          · exact callOp_free hrun' _
          · obtain ⟨x, h1, h2⟩ := Option.map_eq_some_iff.1 hrun'
            simp at h2
          · cases hrun'
        refine (call_step hL hX hC hF hop hv.eval (st := ⟨[], CD ops S T D⟩) (hI.rel.sub (fun i x hx => by cases hx) (fun i hi => .inl hi)) hfreecall (fun c' rv hr' hp => ?_)).2
        have hno : ∀ k, ¬ Lb (Heap.get []) c k := fun k ⟨i, x, ba, hx, _⟩ => by cases hx
        have hst : Step (fun _ => False) c c' := ⟨hp.step.toExt, hp.step.os, hp.step.tape, hp.step.output, hp.step.size, fun k hk _ => hp.step.block k hk (hno k), fun k hk => (hp.step.inew k hk).imp id (Or.imp (hno k) id)⟩
        have hHD : HD ops S T D' = HD ops S T D := funext fun id => by rw [h.hd_put hc hj hr hDj hDj' ho id, ← hT]; rfl
        have hCD : CD ops S T D' = CD ops S T D := by rw [hcd.1, ← hT]; rfl
        have hρold : ∀ i, i < CD ops S T D → c'.ρ i = c.ρ i := hp.old
        refine hK c' _ ?_ (hdef _) ?_
        · rw [hput]
          exact (hv.mono hp.step.toExt).put hr' _
        · rw [hHD]
          refine ⟨hI.rel.carry hst (fun _ _ h => h) hp.rel.immlt (fun i hi => ?_) (fun k hk hki => ?_) |>.sub (fun _ _ h => h) (fun i hi => ?_), hI.step.trans (T' := fun _ => False) (fun _ h => h.elim) hst, fun k ⟨i, x, ba, h1, h2⟩ => ?_, fun i hi => (hρold i (by omega)).trans (hI.old i hi)⟩
          · rcases hi with hi | ⟨k, h1, h2, rfl⟩
            · exact hp.rel.fresh i hi
            · rw [hρold _ (by omega)]
              exact hI.rel.fresh _ (.inr ⟨k, h1, h2, rfl⟩)
          · rcases hst.inew k hki with h' | h' | h'
            · obtain ⟨i, x, ba, h1, h2⟩ := hk; exact hI.rel.notI i x k ba h1 h2 h'
            · exact h'
            · have := lb_lt hI.rel hk; omega
          · rcases hi with hi | ⟨k, h1, h2, h3⟩
            · exact .inl (by rw [← hCD]; exact hi)
            · exact .inr ⟨k, h1, (hND k h1 h2).2, h3⟩
          · obtain ⟨b, bb, h3, _⟩ := hI.rel.live i x h1
            have h4 := hst.rho _ _ h3
            rw [h2] at h4
            cases h4
            exact hI.lb k ⟨i, x, ba, h1, h3⟩
      | true =>
        simp only [if_true] at hstep
        split at hstep
        case isFalse => cases hstep
        rename_i hle
        simp only [Option.some.injEq, Prod.mk.injEq] at hstep
        obtain ⟨rfl, hS, hT⟩ := hstep
        have hbig : isBig (T j).2 = true := by rw [← hT]; rfl
        have hnx : (S (j + 1)).next = st2.next := by rw [← hS]
        have hCDj : CD ops S T D = (S j).next := hcd.2 hbig
        have hCD' : CD ops S T D' = st2.next := by rw [hcd.1, hbig, if_pos rfl, hnx]
        have hsee : ∀ id, hidden true nid0 ops j id = false → HD ops S T D id = (S j).heap.get id := fun id hid => h.hd_read j (by omega) id (fun i hi hne b => at_seen (hd := hidden true nid0 ops j) (after := st2.heap) (by rw [hT]; exact hfree i hi hne) hid b)
        have hvis : ∀ i x, Heap.get ((S j).heap.keep fun id _ => !hidden true nid0 ops j id) i = some x → HD ops S T D i = some x ∧ hidden true nid0 ops j i = false := fun i x hx => by
          obtain ⟨h1, h2⟩ := Heap.get_keep hx
          have h3 : hidden true nid0 ops j i = false := by simpa using h2
          exact ⟨by rw [hsee i h3]; exact h1, h3⟩
        have hrel : Rel (Heap.get ((S j).heap.keep fun id _ => !hidden true nid0 ops j id)) ((S j).next ≤ ·) c := hI.rel.sub (fun i x hx => (hvis i x hx).1) (fun i hi => .inl (by rw [hCDj]; exact hi))
        refine (call_step hL hX hC hF hop hv.eval (st := ⟨(S j).heap.keep fun id _ => !hidden true nid0 ops j id, (S j).next⟩) hrel hrun' (fun c' rv hr' hp => ?_)).2
        have hN' : ∀ i, ND nid0 ops S T D' i → c'.ρ i = none := fun i hi => by
          rcases hi with hi | ⟨k, h1, h2, rfl⟩
          · rw [hCD'] at hi; exact hp.rel.fresh i hi
          · have hlt : nid0 + k < (S j).next := by rw [← hCDj]; omega
            rw [hp.old _ hlt]
            exact hI.rel.fresh _ (.inr ⟨k, h1, (hND k h1 h2).2, rfl⟩)
        obtain ⟨m1, m2⟩ := rel_merge (HH := HD ops S T D) (V := Heap.get ((S j).heap.keep fun id _ => !hidden true nid0 ops j id)) (H2 := st2.heap.get) (hid := hidden true nid0 ops j) hI.rel hp hvis hN'
        have hHD : HD ops S T D' = fun i => if hidden true nid0 ops j i then HD ops S T D i else st2.heap.get i := funext fun id => by rw [h.hd_put hc hj hr hDj hDj' ho id, ← hT]; rfl
        refine hK c' _ ?_ (hdef _) ?_
        · rw [hput]
          exact (hv.mono hp.step.toExt).put hr' _
        · rw [hHD]
          have hVlb : ∀ k, Lb (Heap.get ((S j).heap.keep fun id _ => !hidden true nid0 ops j id)) c k → Lb (HD ops S T D) c k := fun k ⟨i, x, ba, h1, h2⟩ => ⟨i, x, ba, (hvis i x h1).1, h2⟩
          refine ⟨m1, hI.step.trans hI.lb (hp.step.weaken hVlb), fun k hk => (m2 k hk).elim (hI.lb k) (fun l => .inr (Nat.le_trans hI.step.size l)), fun i hi => ?_⟩
          have hlt : i < (S j).next := by rw [← hCDj]; omega
          exact (hp.old i hlt).trans (hI.old i hi)
    · obtain ⟨⟨v1, e1⟩, hop1, hs⟩ := Option.map_eq_some_iff.1 hstep
      simp only [Prod.mk.injEq] at hs
      obtain ⟨rfl, hS, hT⟩ := hs
      have hlook : ∀ id ∈ looked (opd (R j)) o.op, (S j).heap.get id = HD ops S T D id := fun id hid => (h.hd_read j (by omega) id (fun i hi hne b => at_looked (e := e1) (l := looked (opd (R j)) o.op) (by rw [hT]; exact hfree i hi hne) hid b)).symm
      rw [op1_congr (ρ' := opd (RD ops R T D)) (get' := HD ops S T D) (fun x hx => opd_eq hread hx) hlook] at hop1
      have hHD : HD ops S T D' = fun i => e1.at i (HD ops S T D i) := funext fun id => by rw [h.hd_put hc hj hr hDj hDj' ho id, ← hT]; rfl
      have hCD : CD ops S T D' = CD ops S T D := by rw [hcd.1, ← hT]; rfl
      refine op_step hF hop1 hI.rel (.inr ⟨j, hjl, hDj, rfl⟩) hv.eval fun c' rv hr' h1' h2' h3' h4' => ?_
      have hI' := rinv_op hI (by omega) h1' h2' h3' h4'
      refine hK c' _ ?_ (hdef _) ?_
      · rw [hput]
        exact (hv.mono h2'.toExt).put hr' _
      · rw [hHD]
        refine ⟨hI'.rel.sub (fun _ _ h => h) (fun i hi => ?_), hI'.step, hI'.lb, hI'.old⟩
        rcases hi with hi | ⟨k, h1, h2, rfl⟩
        · rw [hCD] at hi
          exact ⟨.inl hi, fun e => by omega⟩
        · obtain ⟨hkj, hk⟩ := hND k h1 h2
          exact ⟨.inr ⟨k, h1, hk, rfl⟩, fun e => hkj (by omega)⟩

/-- All orders. -/
theorem drawn_any (hL : CallOK env.P L) (hX : ExtOK env) (hC : CodeOK env.P L) (h : Sched env L fid nid0 ops R S T) {H0 : Nat → Option Obj} {c0 : Cfg} {F : Fence} (hF0 : FOK F c0.W) {d : List Deferred} {Q : Exit → Act → World → Prop}
    (hQ : ∀ c a, VL c (R ops.size) a.tmps → a.defers = d → RInv H0 nid0 c0 (S ops.size).heap.get ((S ops.size).next ≤ ·) c → Q .normal a c.W) : ∀ (fuel : Nat) (listed : Array Bool) (c : Cfg) (a : Act), listed.size = ops.size → ((List.range ops.size).filter fun i => !listed.getD i true).length ≤ fuel → Closed ops (fun i => listed.getD i false) →
    VL c (RD ops R T fun i => listed.getD i false) a.tmps → a.defers = d → RInv H0 nid0 c0 (HD ops S T fun i => listed.getD i false) (ND nid0 ops S T fun i => listed.getD i false) c → wpAnyIn F 0 env.P .any ops Q fuel listed a c.W := by
  have hend : ∀ (listed : Array Bool) (c : Cfg) (a : Act), listed.size = ops.size → Closed ops (fun i => listed.getD i false) → VL c (RD ops R T fun i => listed.getD i false) a.tmps → a.defers = d → RInv H0 nid0 c0 (HD ops S T fun i => listed.getD i false) (ND nid0 ops S T fun i => listed.getD i false) c → Region.ready .any ops listed = [] → Q .normal a c.W := by
    intro listed c a hsz hc hv hd hI hnone
    have hall : ∀ i, i < ops.size → listed.getD i false = true := by
      intro i
      induction i using Nat.strongRecOn with
      | _ i ih =>
        intro hi
        cases hl : listed.getD i false with
        | true => rfl
        | false =>
          have : i ∈ Region.ready .any ops listed := by
            unfold Region.ready
            refine List.mem_filter.2 ⟨List.mem_range.2 hi, ?_⟩
            have h1 : listed.getD i true = false := by
              rw [Array.getD_eq_getD_getElem?, Array.getElem?_eq_getElem (by omega)] at hl ⊢
              exact hl
            rw [h1, Array.getElem?_eq_getElem hi]
            simp only [Bool.not_false, Bool.true_and, Option.map_some, Option.getD_some]
            refine Array.all_eq_true'.2 fun e he => ?_
            by_cases hb : Region.binds .any e = true
            · have hlt := h.low i _ (Array.getElem?_eq_getElem hi) e he hb
              rw [ih e.on hlt (by omega)]
              simp
            · simp [hb]
          rw [hnone] at this
          cases this
    have hag : ∀ i, i < ops.size → (fun i => listed.getD i false) i = decide (i < ops.size) := fun i hi => by rw [decide_eq_true hi]; exact hall i hi
    have hR : RD ops R T (fun i => listed.getD i false) = R ops.size := by
      rw [← foldD_below (f := fun i r => put r (dstOf ops i) (T i).1) R ops.size (fun i hi => h.dst hi) ops.size (Nat.le_refl _)]
      exact foldD_agree _ _ (fun i hi hne => absurd (hag i hi) hne)
    have hH : HD ops S T (fun i => listed.getD i false) = (S ops.size).heap.get := funext fun id => h.hd_read ops.size (Nat.le_refl _) id (fun i hi hne => absurd (hag i hi) hne)
    have hCD : CD ops S T (fun i => listed.getD i false) = (S ops.size).next := by
      rw [← foldD_below (f := fun i n => if isBig (T i).2 then (S (i + 1)).next else n) (fun i => (S i).next) ops.size (fun i hi => (h.next hi).1) ops.size (Nat.le_refl _)]
      exact foldD_agree _ _ (fun i hi hne => absurd (hag i hi) hne)
    rw [hR] at hv
    rw [hH] at hI
    exact hQ c a hv hd ⟨hI.rel.sub (fun _ _ h => h) (fun i hi => .inl (by rw [hCD]; exact hi)), hI.step, hI.lb, hI.old⟩
  intro fuel
  induction fuel with
  | zero =>
    intro listed c a hsz hlen hc hv hd hI
    have hnone : Region.ready .any ops listed = [] := by
      refine List.eq_nil_iff_forall_not_mem.2 fun i hi => ?_
      unfold Region.ready at hi
      obtain ⟨h1, h2⟩ := List.mem_filter.1 hi
      rw [Bool.and_eq_true] at h2
      have : i ∈ (List.range ops.size).filter fun i => !listed.getD i true := List.mem_filter.2 ⟨h1, h2.1⟩
      have h3 := List.length_pos_of_mem this
      omega
    exact ⟨hnone, hend listed c a hsz hc hv hd hI hnone⟩
  | succ fuel ih =>
    intro listed c a hsz hlen hc hv hd hI
    refine ⟨fun hnone => hend listed c a hsz hc hv hd hI hnone, fun j hj => ?_⟩
    unfold Region.ready at hj
    obtain ⟨h1, h2⟩ := List.mem_filter.1 hj
    rw [Bool.and_eq_true] at h2
    obtain ⟨h2, h3⟩ := h2
    have hjl : j < ops.size := List.mem_range.1 h1
    have hjn : j < listed.size := by omega
    have hlj : listed[j] = false := by
      rw [Array.getD_eq_getD_getElem?, Array.getElem?_eq_getElem hjn] at h2
      simpa using h2
    rw [Array.getElem?_eq_getElem hjl] at h3
    simp only [Option.map_some, Option.getD_some] at h3
    have hr : ∀ e ∈ ops[j].after, Region.binds .any e = true → (fun i => listed.getD i false) e.on = true := fun e he hb => by
      have := Array.all_eq_true'.1 h3 e he
      simpa [hb] using this
    have hDj : (fun i => listed.getD i false) j = false := by simp [Array.getD_eq_getD_getElem?, Array.getElem?_eq_getElem hjn, hlj]
    have hDj' : (fun i => (listed.setIfInBounds j true).getD i false) j = true := by simp [Array.getD_eq_getD_getElem?, hjn]
    have ho : ∀ i, i ≠ j → (fun i => (listed.setIfInBounds j true).getD i false) i = (fun i => listed.getD i false) i := fun i hi => by
      simp only [Array.getD_eq_getD_getElem?, Array.getElem?_setIfInBounds_ne (Ne.symm hi)]
    refine drawn_step hL hX hC h (hF0.ext hI.step.toExt) hc (Array.getElem?_eq_getElem hjl) hr hDj hDj' ho hv hI hd fun c' a' hv' hd' hI' => ih _ c' a' (by simp [hsz]) ?_ ?_ hv' hd' hI'
    · have hsub : ∀ (l : List Nat), (l.filter fun i => !(listed.setIfInBounds j true).getD i true).length ≤ (l.filter fun i => !listed.getD i true).length ∧ (j ∈ l → (l.filter fun i => !(listed.setIfInBounds j true).getD i true).length + 1 ≤ (l.filter fun i => !listed.getD i true).length) := by
        intro l
        induction l with
        | nil => exact ⟨Nat.le_refl _, fun h => by cases h⟩
        | cons x l ihl =>
          by_cases e : x = j
          · subst e
            have e1 : (!(listed.setIfInBounds x true).getD x true) = false := by simp [Array.getD_eq_getD_getElem?, hjn]
            have e2 : (!listed.getD x true) = true := h2
            simp only [List.filter_cons, e1, e2, Bool.false_eq_true, if_false, if_true, List.length_cons]
            exact ⟨by omega, fun _ => by omega⟩
          · have e1 : (listed.setIfInBounds j true).getD x true = listed.getD x true := by simp only [Array.getD_eq_getD_getElem?, Array.getElem?_setIfInBounds_ne (Ne.symm e)]
            simp only [List.filter_cons, e1]
            cases listed.getD x true with
            | true =>
              simp only [Bool.not_true, Bool.false_eq_true, if_false]
              exact ⟨ihl.1, fun h => ihl.2 ((List.mem_cons.1 h).resolve_left (fun e' => e e'.symm))⟩
            | false =>
              simp only [Bool.not_false, if_true, List.length_cons]
              refine ⟨by have := ihl.1; omega, fun h => ?_⟩
              rcases List.mem_cons.1 h with h | h
              · exact absurd h.symm e
              · have := ihl.2 h; omega
      have := (hsub (List.range ops.size)).2 h1
      omega
    · intro k o hk hDk e he hb
      by_cases hkj : k = j
      · subst hkj
        rw [Array.getElem?_eq_getElem hjl] at hk
        cases hk
        have := hr e he hb
        by_cases e2 : e.on = k
        · rw [e2]; exact hDj'
        · rw [ho _ e2]; exact this
      · have hDk' : (fun i => listed.getD i false) k = true := by rw [← ho k hkj]; exact hDk
        have := hc k o hk hDk' e he hb
        by_cases e2 : e.on = j
        · rw [e2]; exact hDj'
        · rw [ho _ e2]; exact this
end
end Go.Proofs.Ytpepghaknilmhaa.Vm
