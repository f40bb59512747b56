/- cursor.clone: a node, copied whole. -/
import Derived.Test.YtfekpmbecoeijaaCd
namespace Go.Proofs.Ytfekpmbecoeijaa.Hand
open Go.RowKit Go.Proofs.YtfekpmbecoeijaaW.PrintWords Go.Proofs.YtfekpmbecoeijaaW.PrintLast Go.Proofs.YtfekpmbecoeijaaW.PrintMore Go.Proofs.Ytfekpmbecoeijaa.Q Go.Proofs.Ytfekpmbecoeijaa.RF
set_option linter.unusedVariables false
set_option linter.unusedSimpArgs false
set_option maxRecDepth 100000

/-- A node that can be copied with this fuel. -/
def cloneB : Nat → S26 → Bool
  | 0, _ => false
  | d + 1, n => decide (n.f4.length < 4398046511104) && decide (n.f6.length < 1466015503701) && n.f6.all (cloneB d)
theorem cloneB_mono : ∀ (d : Nat) (n : S26), cloneB d n = true → cloneB (d + 1) n = true
  | 0, _, h => by simp [cloneB] at h
  | d + 1, n, h => by
    unfold cloneB at h ⊢
    simp only [Bool.and_eq_true, decide_eq_true_eq, List.all_eq_true] at h ⊢
    exact ⟨h.1, fun x hx => cloneB_mono d x (h.2 x hx)⟩
theorem hinfo76 : (Try.prog.info? 76).map (fun i => (i.zero, i.size, i.bytes)) = some (some (.agg #[.int .i64 0, .int .i64 0, .string ⟨#[]⟩]), 3, 32) := by kernel_rfl
theorem hinfo26 : (Try.prog.info? 26).map (fun i => (i.zero, i.size, i.bytes)) = some (some (.agg #[.int .i64 0, .int .i64 0, .int .i64 0, .int .i64 0, .slice none 0 0, .string ⟨#[]⟩, .slice none 0 0]), 7, 96) := by kernel_rfl

/-- A row of scalars beside a variable of another type that is written. -/
theorem far_tight {α : Type} {d : Kd α} {e base g t : Nat} {w : World} {v : Value} {xs : List α} {cs : Array Value} (h : d.R e w base (fun _ => True) v xs) (hE : d.E = []) (hb : w.heap[g]? = some (.cells cs t (0, 0))) (hne : e ≠ t) (j : Nat) (u : Value) :
    d.R e (w.setCell ⟨g, j, none⟩ u) base (fun _ => True) v xs :=
  Kd.R_mono (Kd.R_far (Kd.R_tight hE h) (fun k hk e_ => Kd.R_ne h hb hne (by rw [← hk]; exact congrArg some e_.symm)) u) (fun _ _ => trivial)

/-- What a copy is: rows of its own. -/
def ClonePost (n : S26) (w : World) (e : Ending) (w' : World) : Prop :=
  ∃ v4 v6 : Value, e = .returned (.agg #[.int .i64 n.f0, .int .i64 n.f1, .int .i64 n.f2, .int .i64 n.f3, v4, .string n.f5, v6]) ∧ Kd.R k76 76 w' w.heap.size (fun _ => True) v4 n.f4 ∧ Kd.R k26 26 w' w.heap.size (fun k => some k ≠ v4.ownBlock) v6 n.f6 ∧ Below w.heap.size w w'
/-- What holds behind i children. -/
def CloneI (n : S26) (g1 g2 : Nat) (v4 : Value) (w : World) (i : Nat) (v6 : Value) (wr : World) : Prop :=
  i ≤ n.f6.length ∧ Kd.R k76 76 wr w.heap.size (fun _ => True) v4 n.f4 ∧ Kd.R k26 26 wr w.heap.size (fun k => some k ≠ v4.ownBlock ∧ k ≠ g1 ∧ k ≠ g2) v6 (n.f6.take i) ∧
    wr.heap[g1]? = some (.cells #[.int .i64 n.f0, .int .i64 n.f1, .int .i64 n.f2, .int .i64 n.f3, v4, .string n.f5, v6] 26 (0, 0)) ∧
    wr.heap[g2]? = some (.cells #[.int .i64 0, .int .i64 0, .int .i64 0, .int .i64 0, .slice none 0 0, .string ⟨#[]⟩, .slice none 0 0] 26 (0, 0)) ∧ Below w.heap.size w wr

set_option maxHeartbeats 8000000 in
theorem clone_calls : ∀ (d : Nat) (n : S26) (A4 : Option Addr) (c4 : Nat) (A6 : Option Addr) (c6 : Nat) (w : World), cloneB d n = true → k76.C w A4 n.f4.length n.f4 → n.f4.length ≤ c4 → k26.C w A6 n.f6.length n.f6 → n.f6.length ≤ c6 →
    Calls Try.prog 32 #[.agg #[.int .i64 n.f0, .int .i64 n.f1, .int .i64 n.f2, .int .i64 n.f3, .slice A4 n.f4.length c4, .string n.f5, .slice A6 n.f6.length c6]] w (ClonePost n w) := by
  intro d
  induction d with
  | zero => intro n A4 c4 A6 c6 w h; simp [cloneB] at h
  | succ d ih =>
    intro n A4 c4 A6 c6 w h hr4 hc4 hr6 hc6
    unfold cloneB at h
    simp only [Bool.and_eq_true, decide_eq_true_eq, List.all_eq_true] at h
    obtain ⟨⟨hb4, hb6⟩, hall⟩ := h
    have hu26 := Try.underlying26
    have HR4 := Aside0.mk hr4
    have HC4 := Aside0.mk hc4
    have HR6 := Aside0.mk hr6
    have HC6 := Aside0.mk hc6
    have HALL := Aside0.mk hall
    have IH := Aside0.mk ih
    clear hr4 hc4 hr6 hc6 hall ih
    go_enter Try.func32, Try.ntmps32
    go_wp2_with ((with_reducible refine gate_builtin (b := .append) (xs := #[.const (.slice none 0 0), .tmp 7]) rfl ?_); at_builtin; refine Kd.R_append_rows k76 (w0 := w) w.heap.size rfl (.const (.slice none 0 0)) (.tmp 7) 23 76 (.agg #[(.int .i64 0), (.int .i64 0), (.string ⟨#[]⟩)]) 32 rfl Try.underlying23 hinfo76 rfl (by decide) (by omega) (.slice none 0 0) ([] : List (S76)) n.f4 _ _ _ (fun _ => True) (fun _ => False) rfl rfl ?aO ?aR (fun _ _ h => h) (fun _ h => h.elim) ?aF ?aB ?aS ?aL ?_; (case aR => exact Kd.C_below HR4.out (below_alloc (below_alloc (Below.refl _ _) _) _)); (case aB => exact below_alloc (below_alloc (Below.refl _ _) _) _); (case aF => exact (fun _ _ => trivial)); (case aO => exact Kd.R_nil _ _ _ _ _); (case aS => exact (below_alloc (below_alloc (Below.refl w.heap.size w) _) _).size); (case aL => simp only [List.length_nil]; omega); intro v4 w1 ho hb hg hat; rw [List.nil_append] at ho; obtain ⟨Ao, co, eo⟩ := Kd.R_slice ho; subst eo; have k1 := blk_grown (blk_alloc (blk_new w _) _) hg (by simp [Value.ownBlock]); have k2 := blk_grown (new_at (w.alloc (.cells #[.int .i64 n.f0, .int .i64 n.f1, .int .i64 n.f2, .int .i64 n.f3, .slice A4 n.f4.length c4, .string n.f5, .slice A6 n.f6.length c6] 26)) (.cells #[.int .i64 0, .int .i64 0, .int .i64 0, .int .i64 0, .slice none 0 0, .string ⟨#[]⟩, .slice none 0 0] 26) (j := w.heap.size + 1) (by simp)) hg (by simp [Value.ownBlock]); have e4 : w1.cell? ⟨w.heap.size, 4, none⟩ = some (.slice A4 n.f4.length c4) := (blk_cell k1 4).trans rfl; have e6 : w1.cell? ⟨w.heap.size, 6, none⟩ = some (.slice A6 n.f6.length c6) := (blk_cell k1 6).trans rfl; have z4 := blk_frozen k1 4; have z6 := blk_frozen k1 6; have HO := Aside0.mk ho; have HB := Aside0.mk hb; have K1 := Aside0.mk k1; have K2 := Aside0.mk k2; clear ho hb hg hat k1 k2)
    generalize hg1 : w.heap.size = g1 at *
    generalize hg2 : g1 + 1 = g2 at *
    have hg12 : g1 < g2 := by omega
    clear e4 e6 z4 z6
    go_loopg [15] n.f6.length (fun m u15 wr => ∃ (i : Nat) (v6 : Value), u15 = .int .i64 i ∧ m + i = n.f6.length ∧ Aside0 (CloneI n g1 g2 (.slice Ao n.f4.length co) w i v6 wr))
    case atStart =>
      have ho : Kd.R k76 76 w1 w.heap.size (fun _ => True) (.slice Ao n.f4.length co) n.f4 := by rw [hg1]; exact HO.out
      have hB : Below w.heap.size w w1 := by rw [hg1]; exact HB.out
      have k1 := blk_put (blk_put K1.out 4 (.slice Ao n.f4.length co) rfl) 6 (.slice none 0 0) rfl
      refine ⟨0, .slice none 0 0, rfl, by omega, ⟨by omega, ?_, ?_, ?_, ?_, ?_⟩⟩
      · exact far_tight (far_tight ho rfl K1.out (by decide) _ _) rfl (blk_set K1.out 4 _) (by decide) _ _
      · rw [List.take_zero]; exact Kd.R_nil _ _ _ _ _
      · exact k1
      · exact blk_far (blk_far K2.out (show g2 ≠ g1 by omega) _) (show g2 ≠ g1 by omega) _
      · exact below_set (below_set hB (by omega)) (by omega)
    case round =>
      obtain ⟨i, v6, rfl, hmi, hCI⟩ := hrel
      by_cases hlt : i < n.f6.length
      · have hb : decide ((i : Int) < n.f6.length) = true := decide_eq_true (by omega)
        obtain ⟨ad, B4, e4, B6, e6, hA6, q0, q1, q2, q3, q4, q5, q6, l4, C4, l6, C6⟩ := at_T26 HR6.out (i : Int) (by omega) (by omega)
        rw [Int.toNat_natCast] at q0 q1 q2 q3 q4 q5 q6
        subst hA6
        have hmem : rd_T26 n.f6 (i : Int) ∈ n.f6 := by simp [rd_T26, hlt]
        have hsnoc : n.f6.take (i + 1) = n.f6.take i ++ [rd_T26 n.f6 (i : Int)] := by rw [List.take_succ_eq_append_getElem hlt]; simp [rd_T26, hlt]
        have hcl := HALL.out _ hmem
        generalize rd_T26 n.f6 (i : Int) = k at *
        have hBr := hCI.out.2.2.2.2.2
        replace q0 := (hBr.cell (World.block_lt_of_cell? _ _ q0)).trans q0
        replace q1 := (hBr.cell (World.block_lt_of_cell? _ _ q1)).trans q1
        replace q2 := (hBr.cell (World.block_lt_of_cell? _ _ q2)).trans q2
        replace q3 := (hBr.cell (World.block_lt_of_cell? _ _ q3)).trans q3
        replace q4 := (hBr.cell (World.block_lt_of_cell? _ _ q4)).trans q4
        replace q5 := (hBr.cell (World.block_lt_of_cell? _ _ q5)).trans q5
        replace q6 := (hBr.cell (World.block_lt_of_cell? _ _ q6)).trans q6
        have i0 : 0 ≤ (i : Int) := by omega
        have i1 : (i : Int) < n.f6.length := by omega
        replace hBr := Aside0.mk hBr
        replace hsnoc := Aside0.mk hsnoc
        replace C4 := Aside0.mk C4
        replace C6 := Aside0.mk C6
        replace l4 := Aside0.mk l4
        replace l6 := Aside0.mk l6
        replace hcl := Aside0.mk hcl
        clear hmem
        go_wp2_with (fail)
        obtain ⟨W1, hW1⟩ : ∃ W1, wr.alloc (.cells #[.int .i64 k.f0, .int .i64 k.f1, .int .i64 k.f2, .int .i64 k.f3, .slice B4 k.f4.length e4, .string k.f5, .slice B6 k.f6.length e6] 26) = W1 := ⟨_, rfl⟩
        have hC := hCI.out
        have hBW : Below wr.heap.size wr W1 := hW1 ▸ below_alloc (Below.refl _ _) _
        have hbk : W1.heap[wr.heap.size]? = some (.cells #[.int .i64 k.f0, .int .i64 k.f1, .int .i64 k.f2, .int .i64 k.f3, .slice B4 k.f4.length e4, .string k.f5, .slice B6 k.f6.length e6] 26 (0, 0)) := hW1 ▸ blk_new _ _
        rw [hW1]
        generalize hbz : wr.heap.size = bk at hbk ⊢
        have hc0 : W1.cell? ⟨bk, 0, none⟩ = some (.int .i64 k.f0) := (blk_cell hbk 0).trans rfl
        have hc1 : W1.cell? ⟨bk, 1, none⟩ = some (.int .i64 k.f1) := (blk_cell hbk 1).trans rfl
        have hc2 : W1.cell? ⟨bk, 2, none⟩ = some (.int .i64 k.f2) := (blk_cell hbk 2).trans rfl
        have hc3 : W1.cell? ⟨bk, 3, none⟩ = some (.int .i64 k.f3) := (blk_cell hbk 3).trans rfl
        have hc4 : W1.cell? ⟨bk, 4, none⟩ = some (.slice B4 k.f4.length e4) := (blk_cell hbk 4).trans rfl
        have hc5 : W1.cell? ⟨bk, 5, none⟩ = some (.string k.f5) := (blk_cell hbk 5).trans rfl
        have hc6 : W1.cell? ⟨bk, 6, none⟩ = some (.slice B6 k.f6.length e6) := (blk_cell hbk 6).trans rfl
        have hv4 := Kd.R_below hC.2.1 hBW
        have hv6 := Kd.R_below hC.2.2.1 hBW
        have hk1 := blk_below hC.2.2.2.1 hBW
        have hk2 := blk_below hC.2.2.2.2.1 hBW
        have hB1 := below_step hC.2.2.2.2.2 hBW
        have hg6 : W1.cell? ⟨g1, 6, none⟩ = some v6 := (blk_cell hk1 6).trans rfl
        have hC4 : k76.C W1 B4 k.f4.length k.f4 := Kd.C_below C4.out hB1
        have hC6 : k26.C W1 B6 k.f6.length k.f6 := Kd.C_below C6.out hB1
        clear hW1 q0 q1 q2 q3 q4 q5 q6 hb
        obtain ⟨A, c, eA⟩ := Kd.R_slice hv6
        have hlen : (n.f6.take i).length = i := by simp; omega
        rw [hlen] at eA
        subst eA
        replace hlen := Aside0.mk hlen
        replace hv4 := Aside0.mk hv4
        replace hv6 := Aside0.mk hv6
        replace hk1 := Aside0.mk hk1
        replace hk2 := Aside0.mk hk2
        replace hB1 := Aside0.mk hB1
        replace hbk := Aside0.mk hbk
        replace hBW := Aside0.mk hBW
        replace hC4 := Aside0.mk hC4
        replace hC6 := Aside0.mk hC6
        replace hC := Aside0.mk hC
        replace hbz := Aside0.mk hbz
        have hSof : ∀ w' : World, Below W1.heap.size W1 w' → (w'.cell? ⟨g1, 6, none⟩ = some (.slice A i c) ∧ w'.cell? ⟨bk, 0, none⟩ = some (.int .i64 k.f0) ∧ w'.cell? ⟨bk, 1, none⟩ = some (.int .i64 k.f1) ∧ w'.cell? ⟨bk, 2, none⟩ = some (.int .i64 k.f2) ∧ w'.cell? ⟨bk, 3, none⟩ = some (.int .i64 k.f3) ∧ w'.cell? ⟨bk, 4, none⟩ = some (.slice B4 k.f4.length e4) ∧ w'.cell? ⟨bk, 5, none⟩ = some (.string k.f5) ∧ w'.cell? ⟨bk, 6, none⟩ = some (.slice B6 k.f6.length e6)) := fun w' hb => ⟨pw_cell_below hb hg6, pw_cell_below hb hc0, pw_cell_below hb hc1, pw_cell_below hb hc2, pw_cell_below hb hc3, pw_cell_below hb hc4, pw_cell_below hb hc5, pw_cell_below hb hc6⟩
        have hn6 : some g1 ≠ (Value.slice A i c).ownBlock := Kd.R_away hv6.out (fun j hj => hj.2.1)
        have hnk : some bk ≠ (Value.slice A i c).ownBlock := Kd.fresh' (Kd.R_lt hC.out.2.2.1) bk (Nat.le_of_eq hbz.out)
        have hSgr : ∀ w' w'' : World, w'.grownBy w'' (Value.slice A i c).ownBlock → (w'.cell? ⟨g1, 6, none⟩ = some (.slice A i c) ∧ w'.cell? ⟨bk, 0, none⟩ = some (.int .i64 k.f0) ∧ w'.cell? ⟨bk, 1, none⟩ = some (.int .i64 k.f1) ∧ w'.cell? ⟨bk, 2, none⟩ = some (.int .i64 k.f2) ∧ w'.cell? ⟨bk, 3, none⟩ = some (.int .i64 k.f3) ∧ w'.cell? ⟨bk, 4, none⟩ = some (.slice B4 k.f4.length e4) ∧ w'.cell? ⟨bk, 5, none⟩ = some (.string k.f5) ∧ w'.cell? ⟨bk, 6, none⟩ = some (.slice B6 k.f6.length e6)) → (w''.cell? ⟨g1, 6, none⟩ = some (.slice A i c) ∧ w''.cell? ⟨bk, 0, none⟩ = some (.int .i64 k.f0) ∧ w''.cell? ⟨bk, 1, none⟩ = some (.int .i64 k.f1) ∧ w''.cell? ⟨bk, 2, none⟩ = some (.int .i64 k.f2) ∧ w''.cell? ⟨bk, 3, none⟩ = some (.int .i64 k.f3) ∧ w''.cell? ⟨bk, 4, none⟩ = some (.slice B4 k.f4.length e4) ∧ w''.cell? ⟨bk, 5, none⟩ = some (.string k.f5) ∧ w''.cell? ⟨bk, 6, none⟩ = some (.slice B6 k.f6.length e6)) := fun w' w'' hg hs => ⟨cell_grown hg hs.1 hn6, cell_grown hg hs.2.1 hnk, cell_grown hg hs.2.2.1 hnk, cell_grown hg hs.2.2.2.1 hnk, cell_grown hg hs.2.2.2.2.1 hnk, cell_grown hg hs.2.2.2.2.2.1 hnk, cell_grown hg hs.2.2.2.2.2.2.1 hnk, cell_grown hg hs.2.2.2.2.2.2.2 hnk⟩
        have hfr : ∀ j, W1.heap.size ≤ j → (some j ≠ (Value.slice Ao n.f4.length co).ownBlock ∧ j ≠ g1 ∧ j ≠ g2) ∧ some j ≠ (Value.slice A i c).ownBlock := fun j hj => ⟨⟨Kd.fresh' (Kd.R_lt hv4.out) j hj, fun e => by have := blk_lt hk1.out; omega, fun e => by have := blk_lt hk2.out; omega⟩, Kd.fresh' (Kd.R_lt hv6.out) j hj⟩
        replace hSof := Aside0.mk hSof
        replace hSgr := Aside0.mk hSgr
        replace hn6 := Aside0.mk hn6
        replace hnk := Aside0.mk hnk
        replace hfr := Aside0.mk hfr
        have hdr : Below W1.heap.size W1 W1.drew := below_drew (Below.refl _ _)
        refine start_ (n := 8) (S := fun w' => w'.cell? ⟨g1, 6, none⟩ = some (.slice A i c) ∧ w'.cell? ⟨bk, 0, none⟩ = some (.int .i64 k.f0) ∧ w'.cell? ⟨bk, 1, none⟩ = some (.int .i64 k.f1) ∧ w'.cell? ⟨bk, 2, none⟩ = some (.int .i64 k.f2) ∧ w'.cell? ⟨bk, 3, none⟩ = some (.int .i64 k.f3) ∧ w'.cell? ⟨bk, 4, none⟩ = some (.slice B4 k.f4.length e4) ∧ w'.cell? ⟨bk, 5, none⟩ = some (.string k.f5) ∧ w'.cell? ⟨bk, 6, none⟩ = some (.slice B6 k.f6.length e6)) (ds := [7]) #[false, false, false, false, false, false, false, false] (by kernel_rfl) rfl rfl ?_ ?_
        · exact hSof.out _ hdr
        intro hHeld
        generalize hw1d : W1.drew = W1d at hdr hHeld ⊢
        clear hw1d
        refine pure_ (i := 0) (N := some 19) (v := ?_) (a' := ?_) #[true, false, false, false, false, false, false, false] rfl rfl (by kernel_rfl) (fun _ _ _ h => h) (Or.inl ⟨by rfl, ?_⟩) ?_ ?_
        rotate_left
        · intro w'
          go_simp
          with_reducible rfl
        rotate_left
        · simp only [Act.put, List.setIfInBounds_toArray, List.set_cons_zero, List.set_cons_succ, i64_w, i32_w]
          rfl
        refine take_ (i := 1) (N := some 20) (v := ?_) (a' := ?_) #[true, true, false, false, false, false, false, false] rfl rfl (by kernel_rfl) (fun _ _ _ h => h) (Or.inl ⟨by rfl, ?_⟩) hHeld ?_ ?_
        rotate_left
        · rintro w' ⟨s0, s1, s2, s3, s4, s5, s6, s7⟩
          go_simp
          with_reducible rfl
        rotate_left
        · simp only [Act.put, List.setIfInBounds_toArray, List.set_cons_zero, List.set_cons_succ, i64_w, i32_w]
          rfl
        refine take_ (i := 2) (N := some 21) (v := ?_) (a' := ?_) #[true, true, true, false, false, false, false, false] rfl rfl (by kernel_rfl) (fun _ _ _ h => h) (Or.inl ⟨by rfl, ?_⟩) hHeld ?_ ?_
        rotate_left
        · rintro w' ⟨s0, s1, s2, s3, s4, s5, s6, s7⟩
          go_simp
          with_reducible rfl
        rotate_left
        · simp only [Act.put, List.setIfInBounds_toArray, List.set_cons_zero, List.set_cons_succ, i64_w, i32_w]
          rfl
        refine one_ (i := 3) (N := some 22) #[true, true, true, true, false, false, false, false] rfl rfl (by kernel_rfl) (by decide) (fun K hK => ?_)
        refine goes_ Try.func32 (by kernel_rfl) rfl #[.agg #[.int .i64 k.f0, .int .i64 k.f1, .int .i64 k.f2, .int .i64 k.f3, .slice B4 k.f4.length e4, .string k.f5, .slice B6 k.f6.length e6]] (by rfl) rfl rfl (by (try simp only [List.map_toArray, List.map_cons, List.map_nil]); first | done | rfl) ?_
        refine (IH.out k B4 e4 B6 e6 _ hcl.out (Kd.C_below hC4.out hdr) l4.out (Kd.C_below hC6.out hdr) l6.out).mono ?_
        rintro e w5 ⟨v4k, v6k, rfl, hr4, hr6, hb5⟩
        have hb5_ := below_step hdr hb5
        have hq4 := Kd.R_lower (base' := w.heap.size) (Kd.R_mono (ok' := fun j => W1.heap.size ≤ j) (Kd.R_bound hr4) (fun j hj => Nat.le_trans hdr.size hj.2.1)) (Nat.le_trans hB1.out.size hdr.size)
        have hq6 := Kd.R_lower (base' := w.heap.size) (Kd.R_mono (ok' := fun j => W1.heap.size ≤ j) (Kd.R_bound hr6) (fun j hj => Nat.le_trans hdr.size hj.2.1)) (Nat.le_trans hB1.out.size hdr.size)
        replace hq4 := Aside0.mk hq4
        replace hq6 := Aside0.mk hq6
        clear hr4 hr6 hb5
        refine ⟨_, rfl, ?_⟩
        refine hK.out _ _ (hSof.out _ hb5_) (fun hHeld => ?_)
        clear hK K
        refine norm_ (a' := ?_) ?_ ?_
        rotate_left
        · show Act.put _ (some 22) _ = _
          simp only [Act.put, List.setIfInBounds_toArray, List.set_cons_zero, List.set_cons_succ, i64_w, i32_w]
          rfl
        refine one_ (i := 4) (N := some 23) #[true, true, true, true, true, false, false, false] rfl rfl (by kernel_rfl) (by decide) (fun K hK => ?_)
        refine value_ (w1 := ?_) (v := ?_) (by rfl) rfl ?_ ?_
        rotate_left 2
        · go_simp
          constructor
          · rfl
          · rfl
        refine hK.out _ _ (hSof.out _ (below_alloc hb5_ _)) (fun hHeld => ?_)
        clear hK K
        refine norm_ (a' := ?_) ?_ ?_
        rotate_left
        · show Act.put _ (some 23) _ = _
          simp only [Act.put, List.setIfInBounds_toArray, List.set_cons_zero, List.set_cons_succ, i64_w, i32_w]
          rfl
        refine one_ (i := 5) (N := some 24) #[true, true, true, true, true, true, false, false] rfl rfl (by kernel_rfl) (by decide) (fun K hK => ?_)
        refine Kd.R_append_step k26 (w0 := w) w.heap.size (by rfl) (.tmp 20) (.tmp 23) 24 26 (.agg #[.int .i64 0, .int .i64 0, .int .i64 0, .int .i64 0, .slice none 0 0, .string ⟨#[]⟩, .slice none 0 0]) 96 rfl Try.underlying24 hinfo26 rfl (by decide) (by omega) (.slice A i c) (n.f6.take i) k [.int .i64 k.f0, .int .i64 k.f1, .int .i64 k.f2, .int .i64 k.f3, v4k, .string k.f5, v6k] (fun j => some j ≠ (Value.slice Ao n.f4.length co).ownBlock ∧ j ≠ g1 ∧ j ≠ g2) (fun j => W1.heap.size ≤ j) rfl rfl (k26_mkM _ _ _ k hq4.out hq6.out) hfr.out (fun j hj => (hfr.out j (Nat.le_trans hb5_.size hj)).1) (Kd.R_below hv6.out hb5_) (below_step hB1.out hb5_) (Nat.le_trans hB1.out.size hb5_.size) (by rw [hlen.out]; omega) ?_
        intro v1 w6 ho6 hb6 hg6_ hat6
        have k1_ := blk_grown (blk_below hk1.out hb5_) hg6_ hn6.out
        have s6_ : w6.cell? ⟨g1, 6, none⟩ = some (.slice A i c) := (blk_cell k1_ 6).trans rfl
        have z6_ := blk_frozen k1_ 6
        have K1_ := Aside0.mk k1_
        have HO6 := Aside0.mk ho6
        have HB6 := Aside0.mk hb6
        have HG6 := Aside0.mk hg6_
        have HB5 := Aside0.mk hb5_
        obtain ⟨Av, cv, ev⟩ := Kd.R_slice ho6
        rw [show (n.f6.take i ++ [k]).length = i + 1 by rw [List.length_append, hlen.out]; rfl] at ev
        subst ev
        refine hK.out _ _ (hSgr.out _ _ hg6_ (hSof.out _ hb5_)) (fun hHeld => ?_)
        clear k1_ ho6 hb6 hat6 hg6_ hb5_
        clear hK K
        refine norm_ (a' := ?_) ?_ ?_
        rotate_left
        · show Act.put _ (some 24) _ = _
          simp only [Act.put, List.setIfInBounds_toArray, List.set_cons_zero, List.set_cons_succ, i64_w, i32_w]
          rfl
        refine pure_ (i := 6) (N := some 25) (v := ?_) (a' := ?_) #[true, true, true, true, true, true, true, false] rfl rfl (by kernel_rfl) (fun _ _ _ h => h) (Or.inl ⟨by rfl, ?_⟩) ?_ ?_
        rotate_left
        · intro w'
          go_simp
          with_reducible rfl
        rotate_left
        · simp only [Act.put, List.setIfInBounds_toArray, List.set_cons_zero, List.set_cons_succ, i64_w, i32_w]
          rfl
        refine last_ (i := 7) (N := none) #[true, true, true, true, true, true, true, true] rfl rfl (by kernel_rfl) (by decide) (fun K hK => ?_)
        refine skip_ (w1 := ?_) (by rfl) rfl ?_ ?_
        rotate_left
        · go_simp
          rfl
        refine hK.out _ _ ?_
        clear hK K
        refine done_ (by kernel_rfl) ?_
        go_wp2
        have hi1 : (i : Int) + 1 = ((i + 1 : Nat) : Int) := by omega
        rw [hi1]
        go_roundg (n.f6.length - (i + 1))
        case measure => omega
        case rel =>
          have hn6' : ∀ j, (Value.slice Av (i + 1) cv).ownBlock = some j → j ≠ g1 := fun j hj => (HO6.out.1 j hj).2.1
          refine ⟨i + 1, .slice Av (i + 1) cv, rfl, by omega, ⟨by omega, ?_, ?_, ?_, ?_, ?_⟩⟩
          · have h1 := Kd.R_grown2 (Kd.R_below hv4.out HB5.out) rfl HG6.out (fun j e => (hv6.out.1 j e).1)
            exact far_tight h1 rfl K1_.out (by decide) _ _
          · rw [hsnoc.out]
            exact Kd.R_far HO6.out (fun j hj => hj.2.1) _
          · exact blk_put K1_.out 6 _ rfl
          · exact blk_far (blk_grown (blk_below hk2.out HB5.out) HG6.out (Kd.R_away hv6.out (fun j hj => hj.2.2))) (show g2 ≠ g1 by omega) _
          · exact below_set HB6.out (by omega)
      · have hb : decide ((i : Int) < n.f6.length) = false := decide_eq_false (by omega)
        have hC := hCI.out
        obtain rfl : i = n.f6.length := by have := hC.1; omega
        have hk1 := hC.2.2.2.1
        have hk2 := hC.2.2.2.2.1
        have hC' := Aside0.mk hC
        have hv6 := hC.2.2.1
        rw [List.take_length] at hv6
        obtain ⟨A, c, eA⟩ := Kd.R_slice hv6
        subst eA
        have a0 : wr.cell? ⟨g1, 0, none⟩ = some (.int .i64 n.f0) := (blk_cell hk1 0).trans rfl
        have a1 : wr.cell? ⟨g1, 1, none⟩ = some (.int .i64 n.f1) := (blk_cell hk1 1).trans rfl
        have a2 : wr.cell? ⟨g1, 2, none⟩ = some (.int .i64 n.f2) := (blk_cell hk1 2).trans rfl
        have a3 : wr.cell? ⟨g1, 3, none⟩ = some (.int .i64 n.f3) := (blk_cell hk1 3).trans rfl
        have a4 : wr.cell? ⟨g1, 4, none⟩ = some (.slice Ao n.f4.length co) := (blk_cell hk1 4).trans rfl
        have a5 : wr.cell? ⟨g1, 5, none⟩ = some (.string n.f5) := (blk_cell hk1 5).trans rfl
        have a6 : wr.cell? ⟨g1, 6, none⟩ = some (.slice A n.f6.length c) := (blk_cell hk1 6).trans rfl
        have b0 : wr.cell? ⟨g2, 0, none⟩ = some (.int .i64 0) := (blk_cell hk2 0).trans rfl
        have b1 : wr.cell? ⟨g2, 1, none⟩ = some (.int .i64 0) := (blk_cell hk2 1).trans rfl
        have b2 : wr.cell? ⟨g2, 2, none⟩ = some (.int .i64 0) := (blk_cell hk2 2).trans rfl
        have b3 : wr.cell? ⟨g2, 3, none⟩ = some (.int .i64 0) := (blk_cell hk2 3).trans rfl
        have b4 : wr.cell? ⟨g2, 4, none⟩ = some (.slice none 0 0) := (blk_cell hk2 4).trans rfl
        have b5 : wr.cell? ⟨g2, 5, none⟩ = some (.string ⟨#[]⟩) := (blk_cell hk2 5).trans rfl
        have b6 : wr.cell? ⟨g2, 6, none⟩ = some (.slice none 0 0) := (blk_cell hk2 6).trans rfl
        have f0 := blk_frozen hk2 0
        have f1 := blk_frozen hk2 1
        have f2 := blk_frozen hk2 2
        have f3 := blk_frozen hk2 3
        have f4 := blk_frozen hk2 4
        have f5 := blk_frozen hk2 5
        have f6 := blk_frozen hk2 6
        replace hk1 := Aside0.mk hk1
        replace hk2 := Aside0.mk hk2
        replace hv6 := Aside0.mk hv6
        clear hC hCI
        go_wp2
        have hk2' := blk_put (blk_put (blk_put (blk_put (blk_put (blk_put (blk_put hk2.out 0 (.int .i64 n.f0) rfl) 1 (.int .i64 n.f1) rfl) 2 (.int .i64 n.f2) rfl) 3 (.int .i64 n.f3) rfl) 4 (.slice Ao n.f4.length co) rfl) 5 (.string n.f5) rfl) 6 (.slice A n.f6.length c) rfl
        refine bodyPost_ret (results_single rfl (.cell g2 26 _ (0, 0) _ rfl hk2' Try.underlying26 rfl (by kernel_rfl) .nil)) rfl ⟨.slice Ao n.f4.length co, .slice A n.f6.length c, rfl, ?_, ?_, ?_⟩
        · have F := fun {W : World} (h : Kd.R k76 76 W w.heap.size (fun _ => True) (.slice Ao n.f4.length co) n.f4) {cs : Array Value} (hb : W.heap[g2]? = some (.cells cs 26 (0, 0))) (j : Nat) (u : Value) => far_tight h rfl hb (by decide) j u
          exact F (F (F (F (F (F (F hC'.out.2.1 hk2.out _ _) (blk_set hk2.out _ _) _ _) (blk_set (blk_set hk2.out _ _) _ _) _ _) (blk_set (blk_set (blk_set hk2.out _ _) _ _) _ _) _ _) (blk_set (blk_set (blk_set (blk_set hk2.out _ _) _ _) _ _) _ _) _ _) (blk_set (blk_set (blk_set (blk_set (blk_set hk2.out _ _) _ _) _ _) _ _) _ _) _ _) (blk_set (blk_set (blk_set (blk_set (blk_set (blk_set hk2.out _ _) _ _) _ _) _ _) _ _) _ _) _ _
        · refine Kd.R_mono (ok := fun k => some k ≠ (Value.slice Ao n.f4.length co).ownBlock ∧ k ≠ g1 ∧ k ≠ g2) ?_ (fun k hk => hk.1)
          refine Kd.R_far (Kd.R_far (Kd.R_far (Kd.R_far (Kd.R_far (Kd.R_far (Kd.R_far hv6.out ?_ _) ?_ _) ?_ _) ?_ _) ?_ _) ?_ _) ?_ _ <;> exact fun j hj => hj.2.2
        · have hg : w.heap.size ≤ g2 := by omega
          exact below_set (below_set (below_set (below_set (below_set (below_set (below_set hC'.out.2.2.2.2.2 hg) hg) hg) hg) hg) hg) hg
end Go.Proofs.Ytfekpmbecoeijaa.Hand
