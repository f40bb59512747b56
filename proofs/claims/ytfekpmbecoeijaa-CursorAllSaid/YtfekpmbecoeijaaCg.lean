import Derived.Test.YtfekpmbecoeijaaCe
/- cursor.own: how many bytes are a node's own. -/
namespace Go.Proofs.Ytfekpmbecoeijaa.Hand
open Go.RowKit Go.Proofs.YtfekpmbecoeijaaW.PrintWords Go.Proofs.YtfekpmbecoeijaaW.PrintLast Go.Proofs.YtfekpmbecoeijaaW.PrintMore Go.Proofs.Ytfekpmbecoeijaa.Q Go.Proofs.Ytfekpmbecoeijaa.RF
set_option linter.unusedVariables false
set_option linter.unusedSimpArgs false
set_option maxRecDepth 100000

/-- What cursor.own answers. -/
def cOwn (n : S26) : Option Int := if n.f0 < 0 then some 0 else if n.f4.length < 4398046511104 ∧ textLen n < 9223372036854775807 then some (textLen n : Int) else none
def bare (n : S26) : S26 := ⟨n.f0, n.f1, n.f2, n.f3, n.f4, n.f5, []⟩
theorem len_bare {n : S26} (h : n.f4.length < 4398046511104 ∧ textLen n < 9223372036854775807) : lenOf 1 (bare n) = some (textLen n : Int) := by
  have e : preF 1 (bare n) = some [bare n] := by simp [preF, preL, bare]
  unfold lenOf
  rw [e, Option.bind_some]
  have e2 : lenL [bare n] = textLen n := by simp [lenL, textLen, ownL, bare]
  rw [e2, if_pos ⟨fun m hm => by rw [List.mem_singleton.1 hm]; exact h.1, h.2⟩]

set_option maxHeartbeats 8000000 in
theorem cown_calls (n : S26) (A4 : Option Addr) (c4 : Nat) (A6 : Option Addr) (c6 : Nat) (r : Int) (w : World)
    (hr4 : Kd.C k76 w A4 n.f4.length n.f4) (hc4 : n.f4.length ≤ c4) (h : cOwn n = some r) :
    Calls Try.prog 46 #[nodeV n A4 c4 A6 c6] w fun e w' => e = .returned (.int .i64 r) ∧ Below w.heap.size w w' := by
  have hu26 := Try.underlying26
  obtain ⟨ob, hob⟩ : ∃ ob, ob = Obj.cells #[.int .i64 n.f0, .int .i64 n.f1, .int .i64 n.f2, .int .i64 n.f3, .slice A4 n.f4.length c4, .string n.f5, .slice A6 n.f6.length c6] 26 := ⟨_, rfl⟩
  have hB1 : Below w.heap.size w (w.alloc ob) := below_alloc (Below.refl _ _) _
  have hb1 : (w.alloc ob).heap[w.heap.size]? = some (.cells #[.int .i64 n.f0, .int .i64 n.f1, .int .i64 n.f2, .int .i64 n.f3, .slice A4 n.f4.length c4, .string n.f5, .slice A6 n.f6.length c6] 26 (0, 0)) := hob ▸ blk_new _ _
  unfold cOwn at h
  by_cases hs : n.f0 < 0
  · rw [if_pos hs] at h
    obtain rfl := Option.some.inj h
    replace hB1 := Aside0.mk hB1
    clear hb1
    subst hob
    go_enter Try.func46, Try.ntmps46
    go_wp2
    go_ret
    exact ⟨rfl, hB1.out⟩
  · rw [if_neg hs] at h
    by_cases hl : n.f4.length < 4398046511104 ∧ textLen n < 9223372036854775807
    case neg => rw [if_neg hl] at h; cases h
    rw [if_pos hl] at h
    obtain rfl := Option.some.inj h
    have hbl := len_bare hl
    have hl46 := hl.1
    obtain ⟨w1, hw1⟩ : ∃ w1, (w.alloc (Obj.cells #[.int .i64 n.f0, .int .i64 n.f1, .int .i64 n.f2, .int .i64 n.f3, .slice A4 n.f4.length c4, .string n.f5, .slice none 0 0] 26)) = w1 := ⟨_, rfl⟩
    have hB2 : Below w.heap.size w w1 := hw1 ▸ below_alloc (Below.refl _ _) _
    have hk1 : w1.heap[w.heap.size]? = some (.cells #[.int .i64 n.f0, .int .i64 n.f1, .int .i64 n.f2, .int .i64 n.f3, .slice A4 n.f4.length c4, .string n.f5, .slice none 0 0] 26 (0, 0)) := hw1 ▸ blk_new _ _
    have z0 : w1.cell? ⟨w.heap.size, 0, none⟩ = some (.int .i64 n.f0) := (blk_cell hk1 0).trans rfl
    have z1 : w1.cell? ⟨w.heap.size, 1, none⟩ = some (.int .i64 n.f1) := (blk_cell hk1 1).trans rfl
    have z2 : w1.cell? ⟨w.heap.size, 2, none⟩ = some (.int .i64 n.f2) := (blk_cell hk1 2).trans rfl
    have z3 : w1.cell? ⟨w.heap.size, 3, none⟩ = some (.int .i64 n.f3) := (blk_cell hk1 3).trans rfl
    have z4 : w1.cell? ⟨w.heap.size, 4, none⟩ = some (.slice A4 n.f4.length c4) := (blk_cell hk1 4).trans rfl
    have z5 : w1.cell? ⟨w.heap.size, 5, none⟩ = some (.string n.f5) := (blk_cell hk1 5).trans rfl
    have z6 : w1.cell? ⟨w.heap.size, 6, none⟩ = some (.slice none 0 0) := (blk_cell hk1 6).trans rfl
    have hlen : Calls Try.prog 29 #[.agg #[.int .i64 n.f0, .int .i64 n.f1, .int .i64 n.f2, .int .i64 n.f3, .slice A4 n.f4.length c4, .string n.f5, .slice none 0 0]] w1 _ := len_calls 1 (bare n) A4 c4 none 0 (textLen n : Int) w1 (Kd.C_below hr4 hB2) hc4 (Kd.C_nil _ _) (Nat.le_refl _) hbl
    replace hB2 := Aside0.mk hB2
    replace hlen := Aside0.mk hlen
    replace hbl := Aside0.mk hbl
    replace hl := Aside0.mk hl
    replace hk1 := Aside0.mk hk1
    replace hr4 := Aside0.mk hr4
    replace hB1 := Aside0.mk hB1
    clear hb1
    subst hob
    go_enter Try.func46, Try.ntmps46
    go_wp2_with (go_at_call 29; refine hlen.out.mono ?_; rintro e w2 ⟨rfl, hb2⟩; replace hb2 := Aside0.mk hb2)
    go_ret
    exact ⟨rfl, below_step hB2.out hb2.out⟩
end Go.Proofs.Ytfekpmbecoeijaa.Hand

/- A cursor in memory, and cursor.New. -/
namespace Go.Proofs.Ytfekpmbecoeijaa.Hand
open Go.RowKit Go.Proofs.YtfekpmbecoeijaaW.PrintWords Go.Proofs.YtfekpmbecoeijaaW.PrintLast Go.Proofs.YtfekpmbecoeijaaW.PrintMore Go.Proofs.Ytfekpmbecoeijaa.Q Go.Proofs.Ytfekpmbecoeijaa.RF
set_option linter.unusedVariables false
set_option linter.unusedSimpArgs false
set_option maxRecDepth 100000

section
variable {α : Type} {d : Kd α} {e B m : Nat} {W W' : World} {ok ok' : Nat → Prop} {v : Value} {xs : List α}
/-- A row that is one's own, or that was cut short with no room behind it. -/
def Row (d : Kd α) (e B : Nat) (ok : Nat → Prop) (v : Value) (xs : List α) (W : World) : Prop :=
  ∃ A c c0, v = .slice A xs.length c ∧ (c = c0 ∨ c = xs.length) ∧ d.R e W B ok (.slice A xs.length c0) xs
theorem Row.of (h : d.R e W B ok v xs) : Row d e B ok v xs W := by
  obtain ⟨A, c, rfl⟩ := Kd.R_slice h
  exact ⟨A, c, c, rfl, .inl rfl, h⟩
theorem Row.reads (h : Row d e B ok v xs W) : ∃ A c, v = .slice A xs.length c ∧ xs.length ≤ c ∧ d.C W A xs.length xs := by
  obtain ⟨A, c, c0, rfl, hc, hR⟩ := h
  obtain ⟨_, h1, h2⟩ := Kd.R_reads' hR
  exact ⟨A, c, rfl, by rcases hc with rfl | rfl <;> omega, h2⟩
theorem Row.step (h : Row d e B ok v xs W) (hm : ∀ k, ok k → k < W.heap.size → W'.heap[k]? = W.heap[k]?) : Row d e B ok v xs W' := by
  obtain ⟨A, c, c0, rfl, hc, hR⟩ := h
  exact ⟨A, c, c0, rfl, hc, Kd.R_step hR hm⟩
theorem Row.mono (h : Row d e B ok v xs W) (hk : ∀ k, ok k → ok' k) : Row d e B ok' v xs W := by
  obtain ⟨A, c, c0, rfl, hc, hR⟩ := h
  exact ⟨A, c, c0, rfl, hc, Kd.R_mono hR hk⟩
theorem Row.cut (h : Row d e B ok v xs W) (hm : m ≤ xs.length) : ∃ A c, v = .slice A xs.length c ∧ Row d e B ok (.slice A m m) (xs.take m) W := by
  obtain ⟨A, c, c0, rfl, hc, hR⟩ := h
  have hl : (xs.take m).length = m := by simp; omega
  refine ⟨A, c, rfl, A, m, c0, by rw [hl], .inr hl.symm, ?_⟩
  rw [hl]
  exact Kd.R_take hR hm
theorem Row.own (h : Row d e B ok v xs W) : ∀ k, v.ownBlock = some k → ok k ∧ B ≤ k ∧ k < W.heap.size := by
  intro k hk
  obtain ⟨A, c, c0, rfl, hc, hR⟩ := h
  have hk' : (Value.slice A xs.length c0).ownBlock = some k := by cases A <;> exact hk
  have hb := (Kd.R_bound hR).1 k hk'
  exact ⟨hb.1, hb.2.1, hb.2.2.1⟩
end

/-- A cursor: the nodes, the indices, the offsets. -/
structure Cu where
  ns : List S26
  ps : List Int
  hs : List Int
/-- A cursor in memory: its block, its three rows. -/
structure CurW (B g : Nat) (v1 v2 v3 : Value) (c : Cu) (W : World) : Prop where
  hb : W.heap[g]? = some (.cells #[v1, v2, v3] 61 (0, 0))
  lg : B ≤ g
  r1 : Row k26 26 B (fun k => k ≠ g ∧ some k ≠ v2.ownBlock ∧ some k ≠ v3.ownBlock) v1 c.ns W
  r2 : Row (Kd.int .i64) 3 B (fun k => k ≠ g ∧ some k ≠ v1.ownBlock ∧ some k ≠ v3.ownBlock) v2 c.ps W
  r3 : Row (Kd.int .i64) 3 B (fun k => k ≠ g ∧ some k ≠ v1.ownBlock ∧ some k ≠ v2.ownBlock) v3 c.hs W
/-- The blocks that a cursor's moves may write. -/
def Mine (g : Nat) (v1 v2 v3 : Value) (k : Nat) : Prop := k = g ∨ some k = v1.ownBlock ∨ some k = v2.ownBlock ∨ some k = v3.ownBlock
theorem CurW.below {B g : Nat} {v1 v2 v3 : Value} {c : Cu} {W W' : World} (h : CurW B g v1 v2 v3 c W) (hb : Below W.heap.size W W') : CurW B g v1 v2 v3 c W' :=
  ⟨blk_below h.hb hb, h.lg, h.r1.step (fun k _ hk => hb.block k hk), h.r2.step (fun k _ hk => hb.block k hk), h.r3.step (fun k _ hk => hb.block k hk)⟩
theorem Reps.single {α : Type} {R : α → List Value → Prop} {x : α} {cs : List Value} {sz : Nat} (hl : cs.length = sz) (h : R x cs) : Reps R sz [x] cs := by
  refine ⟨by simp [hl], fun j p hj => ?_⟩
  cases j with
  | succ j => simp at hj
  | zero =>
    have hj' : x = p := by simpa using hj
    subst hj'
    simpa [List.take_of_length_le (Nat.le_of_eq hl)] using h
theorem R_one {α : Type} {d : Kd α} {e B : Nat} {W : World} {ok okp : Nat → Prop} {x : α} {cs : List Value} (hl : cs.length = d.sz) (hM : d.M W B okp x cs) (hB : B ≤ W.heap.size) (hok : ∀ k, okp k → k < W.heap.size → ok k) (hf : ok W.heap.size) :
    d.R e (W.alloc (.cells cs.toArray e)) B ok (.slice (some ⟨W.heap.size, 0, none⟩) 1 1) [x] := by
  refine ⟨fun k hk => ?_, cs, ?_, Reps.single hl ?_⟩
  · have : W.heap.size = k := by simpa [Value.ownBlock] using hk
    exact this ▸ hf
  · have h := World.ownsRow_lit (base := B) (e := e) (size := d.sz) W cs.toArray 1 hB (by decide) (by simp [hl])
    simpa using h
  · refine d.M_mono (fun k hk => ?_) (Kd.M_below (d.M_bound hM) (below_alloc (Below.refl _ _) _))
    refine ⟨hok k hk.1 hk.2.2.1, fun he => ?_⟩
    have h3 : k = W.heap.size := by simpa [Value.ownBlock] using he
    have := hk.2.2.1
    omega

set_option maxHeartbeats 8000000 in
theorem new_calls (fu : Nat) (n : S26) (A4 : Option Addr) (c4 : Nat) (A6 : Option Addr) (c6 : Nat) (w : World) (hcl : cloneB fu n = true)
    (hr4 : Kd.C k76 w A4 n.f4.length n.f4) (hc4 : n.f4.length ≤ c4) (hr6 : Kd.C k26 w A6 n.f6.length n.f6) (hc6 : n.f6.length ≤ c6) :
    Calls Try.prog 9 #[nodeV n A4 c4 A6 c6] w fun e w' => ∃ g v1 v2 v3, e = .returned (.pointer (some ⟨g, 0, none⟩)) ∧ CurW w.heap.size g v1 v2 v3 ⟨[n], [], [0]⟩ w' ∧ Below w.heap.size w w' := by
  have hu26 := Try.underlying26
  have hu61 := Try.underlying61
  have hu59 := Try.underlying59
  obtain ⟨ob, hob⟩ : ∃ ob, ob = Obj.cells #[.int .i64 n.f0, .int .i64 n.f1, .int .i64 n.f2, .int .i64 n.f3, .slice A4 n.f4.length c4, .string n.f5, .slice A6 n.f6.length c6] 26 := ⟨_, rfl⟩
  have hB1 : Below w.heap.size w (w.alloc ob) := below_alloc (Below.refl _ _) _
  have hcc := clone_calls fu n A4 c4 A6 c6 (w.alloc ob) hcl (Kd.C_below hr4 hB1) hc4 (Kd.C_below hr6 hB1) hc6
  replace hB1 := Aside0.mk hB1
  replace hcc := Aside0.mk hcc
  subst hob
  go_enter Try.func9, Try.ntmps9
  go_wp2_with (go_at_call 32; refine hcc.out.mono ?_; rintro e w2 ⟨v4, v6, rfl, h4, h6, hb2⟩; replace hb2 := Aside0.mk hb2; replace h4 := Aside0.mk h4; replace h6 := Aside0.mk h6)
  go_ret
  have hbase : w.heap.size ≤ (w.alloc (Obj.cells #[.int .i64 n.f0, .int .i64 n.f1, .int .i64 n.f2, .int .i64 n.f3, .slice A4 n.f4.length c4, .string n.f5, .slice A6 n.f6.length c6] 26)).heap.size := hB1.out.size
  have hB2 := below_step hB1.out hb2.out
  have hM : k26.M w2 w.heap.size (fun _ => True) n [.int .i64 n.f0, .int .i64 n.f1, .int .i64 n.f2, .int .i64 n.f3, v4, .string n.f5, v6] :=
    k26_mkM w2 w.heap.size (fun _ => True) n (Kd.R_lower h4.out hbase) (Kd.R_mono (Kd.R_lower h6.out hbase) (fun _ _ => trivial))
  obtain ⟨c1, hc1⟩ : ∃ c1, c1 = Obj.cells #[.int .i64 n.f0, .int .i64 n.f1, .int .i64 n.f2, .int .i64 n.f3, v4, .string n.f5, v6] 26 := ⟨_, rfl⟩
  have hR1 := R_one (d := k26) (e := 26) (ok := fun k => k ≠ w2.heap.size + 1 + 1 ∧ some k ≠ (Value.slice none 0 0).ownBlock ∧ some k ≠ (Value.slice (some ⟨w2.heap.size + 1, 0, none⟩) 1 1).ownBlock) (by rfl) hM hB2.size (fun k _ hk => ⟨by omega, by simp [Value.ownBlock], by simp [Value.ownBlock]; omega⟩) ⟨by omega, by simp [Value.ownBlock], by simp [Value.ownBlock]⟩
  have e1 : Obj.cells ([.int .i64 n.f0, .int .i64 n.f1, .int .i64 n.f2, .int .i64 n.f3, v4, .string n.f5, v6] : List Value).toArray 26 = c1 := hc1.symm
  rw [e1] at hR1
  rw [← hc1]
  have hz3 : (w2.alloc c1).heap.size = w2.heap.size + 1 := World.size_alloc _ _
  have hR3 := R_one (d := Kd.int .i64) (e := 3) (W := w2.alloc c1) (B := w.heap.size) (x := (0 : Int)) (cs := [.int .i64 0]) (okp := fun _ => False) (ok := fun k => k ≠ w2.heap.size + 1 + 1 ∧ some k ≠ (Value.slice (some ⟨w2.heap.size, 0, none⟩) 1 1).ownBlock ∧ some k ≠ (Value.slice none 0 0).ownBlock) (by rfl) rfl (by rw [hz3]; have := hB2.size; omega) (fun k h _ => h.elim) ⟨by omega, by simp [Value.ownBlock], by simp [Value.ownBlock]⟩
  rw [hz3] at hR3
  have hBa := below_alloc (Below.refl (w2.alloc c1).heap.size (w2.alloc c1)) (Obj.cells #[.int .i64 0] 3)
  have hBb := below_alloc (Below.refl ((w2.alloc c1).alloc (Obj.cells #[.int .i64 0] 3)).heap.size ((w2.alloc c1).alloc (Obj.cells #[.int .i64 0] 3))) (Obj.cells #[.slice (some ⟨w2.heap.size, 0, none⟩) 1 1, .slice none 0 0, .slice (some ⟨w2.heap.size + 1, 0, none⟩) 1 1] 61)
  refine ⟨w2.heap.size + 1 + 1, .slice (some ⟨w2.heap.size, 0, none⟩) 1 1, .slice none 0 0, .slice (some ⟨w2.heap.size + 1, 0, none⟩) 1 1, rfl, ⟨?_, ?_, Row.of (Kd.R_below (Kd.R_below hR1 hBa) hBb), Row.of (Kd.R_nil _ _ _ _ _), Row.of (Kd.R_below hR3 hBb)⟩, ?_⟩
  · exact new_at _ _ (by simp)
  · have := hB2.size
    omega
  · exact below_alloc (below_alloc (below_alloc hB2 _) _) _
end Go.Proofs.Ytfekpmbecoeijaa.Hand
