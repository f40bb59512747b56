/- The machine of plain values: code. Written once for all seats. -/
import Derived.Test.YtpepghaknilmhaaVmQ
namespace Go.Proofs.Ytpepghaknilmhaa.Vm
open Go
set_option linter.unusedVariables false
set_option linter.unusedSimpArgs false

theorem sched_of {env : Env} {L : Lvl} {fid nid0 : Nat} {ops : Array Oper} {regs regs' : List PV} {h : Heap} {st' : St} {tr : List (PV × TE)} (hrun : runOps env L fid nid0 ops true (List.range ops.size) regs ⟨h, nid0 + ops.size⟩ = some (regs', st', tr)) (hs : static ops = true) (hc : compatAll ops tr = true) :
    ∃ R S T, Sched env L fid nid0 ops R S T ∧ R 0 = regs ∧ S 0 = ⟨h, nid0 + ops.size⟩ ∧ R ops.size = regs' ∧ S ops.size = st' := by
  rw [List.range_eq_range'] at hrun
  obtain ⟨R, S, T, h1, h2, h3, h4, h5, h6⟩ := runOps_listed _ _ _ _ _ _ _ hrun
  simp only [Nat.zero_add] at h4 h5 h6
  refine ⟨R, S, T, ⟨by simpa using h1, by rw [h3], fun i j hij hj hb => ?_, fun i d hd j o hj hij hl => ?_, fun j o hj e he hb => ?_⟩, h2, h3, h4, h5⟩
  · have hq : ∀ i, i < ops.size → (∃ o, ops[i]? = some o ∧ loud o.op = false) → (T i).2 = .q .none [] := fun i hi ⟨o, ho, hl⟩ => by
      obtain ⟨o', g1, g2, ⟨g3, g4, g5⟩ | ⟨g3, g4⟩⟩ := h1.at_ i (Nat.zero_le _) (by omega)
      · rw [g5]
      · rw [ho] at g1
        cases g1
        exact step_quiet g4 hl
    have hi : i < ops.size := by omega
    cases hli : loud ops[i].op with
    | false => rw [hq i hi ⟨_, Array.getElem?_eq_getElem hi, hli⟩]; exact compat_quiet _
    | true =>
      cases hlj : loud ops[j].op with
      | false => rw [hq j hj ⟨_, Array.getElem?_eq_getElem hj, hlj⟩]; exact compat_symm (compat_quiet _)
      | true =>
        have hm : (i, j) ∈ unord ops := by
          unfold unord
          refine List.mem_flatMap.2 ⟨i, List.mem_filter.2 ⟨List.mem_range.2 hi, ?_⟩, List.mem_map.2 ⟨j, List.mem_filter.2 ⟨List.mem_filter.2 ⟨List.mem_range.2 hj, ?_⟩, ?_⟩, rfl⟩⟩
          · rw [Array.getElem?_eq_getElem hi]; exact hli
          · rw [Array.getElem?_eq_getElem hj, decide_eq_true hij]; exact hlj
          · unfold bef at hb
            rw [hb]; rfl
        have := List.all_eq_true.1 hc (i, j) hm
        simp only [h6 i hi, h6 j hj] at this
        exact this
  · have hi : i < ops.size := by
      unfold dstOf at hd
      rcases Nat.lt_or_ge i ops.size with h | h
      · exact h
      · rw [Array.getElem?_eq_none h] at hd; cases hd
    have hjl := (Array.getElem?_eq_some_iff.1 hj).1
    unfold static at hs
    rw [Bool.and_eq_true] at hs
    have hro := hs.1
    unfold regsOk at hro
    have h7 := List.all_eq_true.1 hro i (List.mem_range.2 hi)
    unfold dstOf at hd
    rw [hd] at h7
    have h8 := List.all_eq_true.1 h7 j (List.mem_range.2 hjl)
    rw [hj] at h8
    simp only [Bool.or_eq_true, beq_iff_eq, Bool.not_eq_true', Bool.or_eq_false_iff] at h8
    unfold bef
    rcases h8 with h8 | h8 | h8
    · exact absurd h8 hij
    · exfalso
      rcases hl with hl | hl
      · have := h8.1; simp [hl] at this
      · have := h8.2; simp [hl] at this
    · exact h8
  · unfold static at hs
    rw [Bool.and_eq_true] at hs
    have h7 := Array.all_eq_true'.1 hs.2 (o, j) (by
      rw [Array.mem_zipIdx_iff_getElem?]
      simpa using hj)
    have h8 := Array.all_eq_true'.1 h7 e he
    simpa [hb] using h8

theorem post_drew {H : Nat → Option Obj} {nx : Nat} {c : Cfg} (hr : Rel H (nx ≤ ·) c) (n : Nat) : Post H H nx nx c ⟨c.ρ, c.I, { c.W with drawn := n }⟩ :=
  post_grown hr rfl rfl rfl (Nat.le_refl _) (fun _ _ => rfl) (fun _ h => h) (fun _ h => .inl h) hr.immlt

theorem region_sound {env : Env} {L : Lvl} (hmix : env.P.follows .mixedOrders = true) (hL : CallOK env.P L) (hX : ExtOK env) (hC : CodeOK env.P L) {fid id : Nat} {ops : Array Oper} {draw : Bool} {regs regs' : List PV} {st st' : St} {e : Ex} (h : region env L fid ops draw regs st = some (e, regs', st')) {c : Cfg} {a : Act}
    (hv : VL c regs a.tmps) (hr : Rel st.heap.get (st.next ≤ ·) c) {F : Fence} (hF : FOK F c.W) : (Code.region id ops draw).wpIn F 0 env.P (CodeEnd st st' c regs' e a.defers) a c.W := by
  unfold region at h
  split at h
  case h_2 => cases h
  rename_i r s tr hrun
  cases draw with
  | false =>
    simp only [Bool.false_eq_true, if_false, Option.some.injEq, Prod.mk.injEq] at h
    obtain ⟨rfl, rfl, rfl⟩ := h
    refine wpIn_region (runOps_sound (H0 := st.heap.get) (c0 := c) (nid0 := st.next) hL hX hC hF (d := a.defers) (regsN := r) (stN := s) (fun c' a' h1 h2 h3 h4 => ⟨trivial, c', rfl, h1, ⟨h3.rel, h3.step, h3.lb, h3.old, h4⟩, by rw [h2]; exact Marks.nil _ _ _ _⟩) _ regs _ tr c a List.nodup_range hrun hv rfl ⟨hr.names fun i hi => ?_, Step.refl _ _, fun _ h => .inl h, fun _ _ => rfl⟩ (fun j hj => by have := List.mem_range.1 hj; show st.next + j < st.next + ops.size; omega) (Nat.le_add_right _ _))
    rcases hi with hi | ⟨j, _, rfl⟩
    · exact hr.fresh i (Nat.le_trans (Nat.le_add_right _ _) hi)
    · exact hr.fresh _ (Nat.le_add_right _ _)
  | true =>
    simp only [if_true] at h
    split at h
    case isFalse => cases h
    rename_i hsc
    rw [Bool.and_eq_true] at hsc
    simp only [Option.some.injEq, Prod.mk.injEq] at h
    obtain ⟨rfl, rfl, rfl⟩ := h
    obtain ⟨R, S, T, h1, h2, h3, h4, h5⟩ := sched_of hrun hsc.1 hsc.2
    refine wpIn_region_any hmix ?_
    have hp := post_drew hr (c.W.drawn + 1)
    obtain ⟨c1, hc1⟩ : ∃ c1 : Cfg, c1 = ⟨c.ρ, c.I, { c.W with drawn := c.W.drawn + 1 }⟩ := ⟨_, rfl⟩
    have hW : { c.W with drawn := c.W.drawn + 1 } = c1.W := by rw [hc1]
    rw [hW]
    rw [← hc1] at hp
    have hDf : ∀ i, (Array.replicate ops.size false).getD i false = false := fun i => by
      rw [Array.getD_eq_getD_getElem?]
      by_cases hi : i < ops.size
      · simp [hi]
      · simp [hi]
    have hfold : ∀ {β : Type} (f : Nat → β → β) (n : Nat) (x : β), foldD f (fun i => (Array.replicate ops.size false).getD i false) n x = x := by
      intro β f n
      induction n with
      | zero => intro x; rfl
      | succ n ih => intro x; unfold foldD; rw [hDf n]; exact ih x
    have hge := h1.ge ops.size (Nat.le_refl _)
    refine drawn_any (H0 := st.heap.get) (c0 := c1) hL hX hC h1 (hF.ext hp.step.toExt) (d := a.defers) (fun c' a' g1 g2 g3 => ?_) ops.size _ c1 a (by simp) (by refine Nat.le_trans (List.length_filter_le _ _) ?_; simp) (fun j o _ hj => by have hj' : (Array.replicate ops.size false).getD j false = true := hj; rw [hDf j] at hj'; cases hj') ?_ rfl ⟨?_, Step.refl _ _, ?_, fun _ _ => rfl⟩
    · rw [h5] at g3
      rw [h4] at g1
      rw [h5] at hge
      exact ⟨trivial, c', rfl, g1, hp.trans ⟨g3.rel, g3.step, g3.lb, g3.old, by omega⟩, by rw [g2]; exact Marks.nil _ _ _ _⟩
    · unfold RD
      rw [hfold, h2]
      exact hv.mono hp.step.toExt
    · have hH : HD ops S T (fun i => (Array.replicate ops.size false).getD i false) = st.heap.get := funext fun id => by unfold HD; rw [hfold, h3]
      rw [hH]
      refine hp.rel.names fun i hi => ?_
      rcases hi with hi | ⟨k, _, _, rfl⟩
      · unfold CD at hi
        rw [hfold, h3] at hi
        exact hp.rel.fresh i (Nat.le_trans (Nat.le_add_right _ _) hi)
      · exact hp.rel.fresh _ (Nat.le_add_right _ _)
    · have hH : HD ops S T (fun i => (Array.replicate ops.size false).getD i false) = st.heap.get := funext fun id => by unfold HD; rw [hfold, h3]
      rw [hH]
      exact fun _ h => .inl h

/-- A loop, by the number of rounds that are left. -/
theorem wpIn_loop_fuel {c : Code} {F : Fence} {n : Nat} {P : Program} {Q : Exit → Act → World → Prop} (T : Nat → Act → World → Prop) (round : ∀ j a w, T j a w → c.wpIn F n P (Exit.then (fun a' w' => ∃ i, i < j ∧ T i a' w') Q) a w) {j : Nat} {a : Act} {w : World} (h : T j a w) : (Code.loop c).wpIn F n P Q a w := by
  intro b k cs hro hb hr
  have key : ∀ j a w, T j a w → ∃ e a' w', Q e a' w' ∧ ArrivesIn (Machine.fenced P F) P (lone (b.atR a (.code c :: .inLoop c :: k)) cs w) b k cs e a' w' := by
    intro j
    induction j using Nat.strongRecOn with
    | _ j ih =>
      intro a w hT
      obtain ⟨e, a₁, w₁, hq, harr⟩ := round j a w hT b (.inLoop c :: k) cs hro hb hr
      cases e with
      | normal =>
        obtain ⟨i, hlt, hT₁⟩ := hq
        obtain ⟨e₂, a₂, w₂, hq₂, harr₂⟩ := ih i hlt a₁ w₁ hT₁
        exact ⟨e₂, a₂, w₂, hq₂, .of_steps (StepsIn.trans harr (.one (fenced_calm hb hr rfl) stepR_inLoop)) harr₂⟩
      | exit id => exact ⟨_, a₁, w₁, hq, .pass (x := .inLoop c) rfl (fun _ _ => .inl (by simp)) harr⟩
      | goto l => exact ⟨_, a₁, w₁, hq, .pass (x := .inLoop c) rfl (fun _ _ => .inl (by simp)) harr⟩
      | ret => exact ⟨_, a₁, w₁, hq, .pass (x := .inLoop c) rfl (fun _ _ => .inl (by simp)) harr⟩
      | panic ch => exact ⟨_, a₁, w₁, hq, .pass (x := .inLoop c) rfl (fun _ _ => .inl (by simp)) harr⟩
      | outgrown => exact ⟨_, a₁, w₁, hq, .pass (x := .inLoop c) rfl (fun _ _ => .inl (by simp)) harr⟩
  obtain ⟨e, a', w', hq, harr⟩ := key j a w h
  exact ⟨e, a', w', hq, .of_steps (.one (fenced_calm hb hr rfl) stepR_loop) harr⟩

theorem CodeEnd.trans {st st1 st2 : St} {c c1 : Cfg} {regs2 : List PV} {e2 : Ex} {d : List Deferred} {a1 : Act} {e' : Exit} {a' : Act} {w' : World} (hp : Post st.heap.get st1.heap.get st.next st1.next c c1) (hm : Marks st1.heap.get c1 c.W.heap.size d a1.defers) (h : CodeEnd st1 st2 c1 regs2 e2 a1.defers e' a' w') : CodeEnd st st2 c regs2 e2 d e' a' w' := by
  obtain ⟨h1, c2, h2, h3, h4, h5⟩ := h
  exact ⟨h1, c2, h2, h3, hp.trans h4, Marks.trans hp.step.size hm h4 h5⟩
theorem CodeEnd.sweep {st st1 : St} {c : Cfg} {regs1 : List PV} {e1 : Ex} {d : List Deferred} {e' : Exit} {a' : Act} {w' : World} {m : Nat} (h : CodeEnd st st1 c regs1 e1 d e' a' w') : CodeEnd st (sweep m st1) c regs1 e1 d e' a' w' := by
  obtain ⟨h1, c2, h2, h3, h4, h5⟩ := h
  exact ⟨h1, c2, h2, h3, h4.drop fun i o hi => (Heap.get_keep hi).1, h5.drop fun i o hi => (Heap.get_keep hi).1⟩

theorem loopN_sound {env : Env} {L : Lvl} {fuel fid : Nat} {code : Code} {F : Fence} {P : Program}
    (hc : ∀ regs st e regs' st', exec env L fuel fid code regs st = some (e, regs', st') → ∀ (c : Cfg) (a : Act), VL c regs a.tmps → Rel st.heap.get (st.next ≤ ·) c → FOK F c.W → code.wpIn F 0 P (CodeEnd st st' c regs' e a.defers) a c.W)
    {k : Nat} {regs : List PV} {st : St} {e : Ex} {regs' : List PV} {st' : St} (h : loopN (exec env L fuel fid code) k regs st = some (e, regs', st')) {c : Cfg} {a : Act} (hv : VL c regs a.tmps) (hr : Rel st.heap.get (st.next ≤ ·) c) (hF : FOK F c.W) :
    (Code.loop code).wpIn F 0 P (CodeEnd st st' c regs' e a.defers) a c.W := by
  refine wpIn_loop_fuel (fun j a1 w1 => ∃ r1 s1 c1, c1.W = w1 ∧ loopN (exec env L fuel fid code) j r1 s1 = some (e, regs', st') ∧ VL c1 r1 a1.tmps ∧ Post st.heap.get s1.heap.get st.next s1.next c c1 ∧ Marks s1.heap.get c1 c.W.heap.size a.defers a1.defers) ?_ (j := k) ⟨regs, st, c, rfl, h, hv, Post.refl hr, Marks.nil _ _ _ _⟩
  rintro j a1 w1 ⟨r1, s1, c1, rfl, h1, h2, h3, h4⟩
  cases j with
  | zero => simp [loopN] at h1
  | succ j =>
    unfold loopN at h1
    have hF1 : FOK F c1.W := hF.ext h3.step.toExt
    cases hx : exec env L fuel fid code r1 s1 with
    | none => rw [hx] at h1; cases h1
    | some x =>
      obtain ⟨e2, r2, s2⟩ := x
      rw [hx] at h1
      refine wpIn_mono (hc r1 s1 e2 r2 s2 hx c1 a1 h2 h3.rel hF1) ?_
      intro e' a' w' hend
      cases e2 with
      | normal =>
        simp only at h1
        obtain ⟨g1, c2, g2, g3, g4, g5⟩ := (hend.sweep (m := s1.next)).trans h3 h4
        cases e' <;> try exact g1.elim
        exact ⟨j, by omega, r2, sweep s1.next s2, c2, g2, h1, g3, g4, g5⟩
      | exit id =>
        simp only [Option.some.injEq, Prod.mk.injEq] at h1
        obtain ⟨rfl, rfl, rfl⟩ := h1
        have := hend.trans h3 h4
        cases e' <;> first | exact this | exact this.1.elim
      | goto l =>
        simp only [Option.some.injEq, Prod.mk.injEq] at h1
        obtain ⟨rfl, rfl, rfl⟩ := h1
        have := hend.trans h3 h4
        cases e' <;> first | exact this | exact this.1.elim
      | ret =>
        simp only [Option.some.injEq, Prod.mk.injEq] at h1
        obtain ⟨rfl, rfl, rfl⟩ := h1
        have := hend.trans h3 h4
        cases e' <;> first | exact this | exact this.1.elim
end Go.Proofs.Ytpepghaknilmhaa.Vm
