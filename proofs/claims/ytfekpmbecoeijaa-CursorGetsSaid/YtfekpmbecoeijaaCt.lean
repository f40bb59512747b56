/- A cursor that is nil; a cursor without its frame; what stays. -/
import Derived.Test.YtfekpmbecoeijaaCs
namespace Go.Proofs.Ytfekpmbecoeijaa.Hand
open Go.RowKit Go.Proofs.YtfekpmbecoeijaaW.PrintWords Go.Proofs.YtfekpmbecoeijaaW.PrintLast Go.Proofs.YtfekpmbecoeijaaW.PrintMore Go.Proofs.Ytfekpmbecoeijaa.Q Go.Proofs.Ytfekpmbecoeijaa.RF
set_option linter.unusedVariables false
set_option linter.unusedSimpArgs false
set_option maxRecDepth 100000

set_option maxHeartbeats 8000000 in
theorem At_nil (w : World) : Calls Try.prog 14 #[.pointer none] w fun e w' => e = .returned (.int .i64 0) ∧ w' = w := by
  go_enter Try.func14, Try.ntmps14
  go_wp2
  go_ret
  exact ⟨rfl, rfl⟩
set_option maxHeartbeats 8000000 in
theorem Path_nil (w : World) : Calls Try.prog 13 #[.pointer none] w fun e w' => e = .returned (.slice none 0 0) ∧ w' = w := by
  go_enter Try.func13, Try.ntmps13
  go_wp2
  go_ret
  exact ⟨rfl, rfl⟩
set_option maxHeartbeats 8000000 in
theorem Node_nil (w : World) : Calls Try.prog 17 #[.pointer none] w fun e w' => e = .returned (.agg #[.int .i64 0, .int .i64 0, .int .i64 0, .int .i64 0, .slice none 0 0, .string ⟨#[]⟩, .slice none 0 0]) ∧ Below w.heap.size w w' := by
  have hu26 := Try.underlying26
  have hk1 := blk_new w (.cells #[.int .i64 0, .int .i64 0, .int .i64 0, .int .i64 0, .slice none 0 0, .string ⟨#[]⟩, .slice none 0 0] 26)
  have hB1 := below_alloc (Below.refl w.heap.size w) (.cells #[.int .i64 0, .int .i64 0, .int .i64 0, .int .i64 0, .slice none 0 0, .string ⟨#[]⟩, .slice none 0 0] 26)
  obtain ⟨w1, hw1⟩ : ∃ w1, w.alloc (.cells #[.int .i64 0, .int .i64 0, .int .i64 0, .int .i64 0, .slice none 0 0, .string ⟨#[]⟩, .slice none 0 0] 26) = w1 := ⟨_, rfl⟩
  rw [hw1] at hk1 hB1
  have b0 : w1.cell? ⟨w.heap.size, 0, none⟩ = some (.int .i64 0) := (blk_cell hk1 0).trans rfl
  have f0 := blk_frozen hk1 0
  have b1 : w1.cell? ⟨w.heap.size, 1, none⟩ = some (.int .i64 0) := (blk_cell hk1 1).trans rfl
  have f1 := blk_frozen hk1 1
  have b2 : w1.cell? ⟨w.heap.size, 2, none⟩ = some (.int .i64 0) := (blk_cell hk1 2).trans rfl
  have f2 := blk_frozen hk1 2
  have b3 : w1.cell? ⟨w.heap.size, 3, none⟩ = some (.int .i64 0) := (blk_cell hk1 3).trans rfl
  have f3 := blk_frozen hk1 3
  have b4 : w1.cell? ⟨w.heap.size, 4, none⟩ = some (.slice none 0 0) := (blk_cell hk1 4).trans rfl
  have f4 := blk_frozen hk1 4
  have b5 : w1.cell? ⟨w.heap.size, 5, none⟩ = some (.string ⟨#[]⟩) := (blk_cell hk1 5).trans rfl
  have f5 := blk_frozen hk1 5
  have b6 : w1.cell? ⟨w.heap.size, 6, none⟩ = some (.slice none 0 0) := (blk_cell hk1 6).trans rfl
  have f6 := blk_frozen hk1 6
  replace hk1 := Aside0.mk hk1
  replace hB1 := Aside0.mk hB1
  go_enter Try.func17, Try.ntmps17
  go_wp2
  have hk2 := (blk_put (blk_put (blk_put (blk_put (blk_put (blk_put (blk_put hk1.out 0 (.int .i64 0) rfl) 1 (.int .i64 0) rfl) 2 (.int .i64 0) rfl) 3 (.int .i64 0) rfl) 4 (.slice none 0 0) rfl) 5 (.string ⟨#[]⟩) rfl) 6 (.slice none 0 0) rfl)
  have hg := Nat.le_refl w.heap.size
  have hBe := (below_set (g := w.heap.size) (j := 6) (v := .slice none 0 0) (below_set (g := w.heap.size) (j := 5) (v := .string ⟨#[]⟩) (below_set (g := w.heap.size) (j := 4) (v := .slice none 0 0) (below_set (g := w.heap.size) (j := 3) (v := .int .i64 0) (below_set (g := w.heap.size) (j := 2) (v := .int .i64 0) (below_set (g := w.heap.size) (j := 1) (v := .int .i64 0) (below_set (g := w.heap.size) (j := 0) (v := .int .i64 0) hB1.out hg) hg) hg) hg) hg) hg) hg)
  refine bodyPost_ret (results_single rfl (.cell w.heap.size 26 _ (0, 0) _ rfl hk2 Try.underlying26 rfl (by kernel_rfl) .nil)) rfl ⟨rfl, hBe⟩

theorem Mine.ge {B g : Nat} {v1 v2 v3 : Value} {c : Cu} {w : World} (h : CurW B g v1 v2 v3 c w) {k : Nat} (hk : Mine g v1 v2 v3 k) : B ≤ k ∧ k < w.heap.size := by
  rcases hk with rfl | hk | hk | hk
  · exact ⟨h.lg, h.g_lt⟩
  · exact ⟨(h.r1.own k hk.symm).2.1, (h.r1.own k hk.symm).2.2⟩
  · exact ⟨(h.r2.own k hk.symm).2.1, (h.r2.own k hk.symm).2.2⟩
  · exact ⟨(h.r3.own k hk.symm).2.1, (h.r3.own k hk.symm).2.2⟩
/-- A cursor of which no more is asked than that the blocks below B stand. -/
def Cur (B g : Nat) (w0 : World) (c : Cu) (w : World) : Prop := ∃ v1 v2 v3, CurW B g v1 v2 v3 c w ∧ Below B w0 w ∧ B ≤ w.heap.size
section
variable {B g : Nat} {w0 w w' : World} {c c' : Cu}
theorem Cur.below (h : Cur B g w0 c w) (hb : Below w.heap.size w w') : Cur B g w0 c w' := by
  obtain ⟨v1, v2, v3, h1, h2, h3⟩ := h
  exact ⟨v1, v2, v3, h1.below hb, h2.trans (hb.mono h3), Nat.le_trans h3 hb.size⟩
theorem Cur.moved {v1 v2 v3 : Value} (h1 : CurW B g v1 v2 v3 c w) (h2 : Below B w0 w) (h3 : B ≤ w.heap.size) (h : Moved B g v1 v2 v3 w c' w') : Cur B g w0 c' w' := by
  obtain ⟨u1, u2, u3, hG, hC, _⟩ := h
  exact ⟨u1, u2, u3, hC, hG.below_then h2 h3 (fun k hk hm => by have := (Mine.ge h1 hm).1; omega), Nat.le_trans h3 hG.size⟩
theorem Cur.leaf (h : Cur B g w0 c w) (fu sz : Nat) (at_ : Int) (b : Bool) (c' : Cu) (hf : leafF fu sz c at_ = some (b, c')) :
    Calls Try.prog 26 #[.pointer (some ⟨g, 0, none⟩), .int .i64 at_] w fun e w' => e = .returned (.bool b) ∧ Cur B g w0 c' w' := by
  obtain ⟨v1, v2, v3, h1, h2, h3⟩ := h
  refine (Leaf_F h1 h3 fu sz at_ b c' hf).mono ?_
  rintro e w' ⟨rfl, hm⟩
  exact ⟨rfl, .moved h1 h2 h3 hm⟩
theorem Cur.next (h : Cur B g w0 c w) (fu : Nat) (b : Bool) (c' : Cu) (hf : nextF fu c = some (b, c')) :
    Calls Try.prog 23 #[.pointer (some ⟨g, 0, none⟩)] w fun e w' => e = .returned (.bool b) ∧ Cur B g w0 c' w' := by
  obtain ⟨v1, v2, v3, h1, h2, h3⟩ := h
  refine (Next_calls h1 h3 fu b c' hf).mono ?_
  rintro e w' ⟨rfl, hm⟩
  exact ⟨rfl, .moved h1 h2 h3 hm⟩
theorem Cur.prev (h : Cur B g w0 c w) (fu sz : Nat) (b : Bool) (c' : Cu) (hf : prevF fu sz c = some (b, c')) :
    Calls Try.prog 24 #[.pointer (some ⟨g, 0, none⟩)] w fun e w' => e = .returned (.bool b) ∧ Cur B g w0 c' w' := by
  obtain ⟨v1, v2, v3, h1, h2, h3⟩ := h
  refine (Prev_calls h1 h3 fu sz b c' hf).mono ?_
  rintro e w' ⟨rfl, hm⟩
  exact ⟨rfl, .moved h1 h2 h3 hm⟩
theorem Cur.down (h : Cur B g w0 c w) (fu : Nat) (i : Int) (b : Bool) (c' : Cu) (hf : downF fu c i = some (b, c')) :
    Calls Try.prog 21 #[.pointer (some ⟨g, 0, none⟩), .int .i64 i] w fun e w' => e = .returned (.bool b) ∧ Cur B g w0 c' w' := by
  obtain ⟨v1, v2, v3, h1, h2, h3⟩ := h
  refine (Down_calls h1 h3 fu i b c' hf).mono ?_
  rintro e w' ⟨rfl, hm⟩
  exact ⟨rfl, .moved h1 h2 h3 hm⟩
theorem Cur.up (h : Cur B g w0 c w) (hk : c.ok) (m : Nat) (hm : c.ps.length = m + 1) :
    Calls Try.prog 22 #[.pointer (some ⟨g, 0, none⟩)] w fun e w' => e = .returned (.bool true) ∧ Cur B g w0 c.up w' := by
  obtain ⟨v1, v2, v3, h1, h2, h3⟩ := h
  refine (Up_calls h1 hk m hm).mono ?_
  rintro e w' ⟨rfl, hm⟩
  exact ⟨rfl, .moved h1 h2 h3 hm⟩
theorem Cur.at_ (h : Cur B g w0 c w) (hk : c.ok) : Calls Try.prog 14 #[.pointer (some ⟨g, 0, none⟩)] w fun e w' => e = .returned (.int .i64 c.at_) ∧ Cur B g w0 c w' := by
  obtain ⟨v1, v2, v3, h1, h2, h3⟩ := h
  refine (at_calls h1 c.ps.length hk.2.1 (by have := hk.2.2; omega)).mono ?_
  rintro e w' ⟨rfl, hb⟩
  exact ⟨rfl, Cur.below ⟨v1, v2, v3, h1, h2, h3⟩ hb⟩
theorem Cur.path (h : Cur B g w0 c w) (hk : c.ok) : Calls Try.prog 13 #[.pointer (some ⟨g, 0, none⟩)] w fun e w' => ∃ A cp, e = .returned (.slice A c.ps.length cp) ∧ c.ps.length ≤ cp ∧ Kd.C (Kd.int .i64) w' A c.ps.length c.ps ∧ Cur B g w0 c w' := by
  obtain ⟨v1, v2, v3, h1, h2, h3⟩ := h
  refine (path_calls h1 (by have := hk.2.2; omega)).mono ?_
  rintro e w' ⟨v, rfl, hR, hb⟩
  obtain ⟨A, cp, rfl⟩ := Kd.R_slice hR
  exact ⟨A, cp, rfl, (Kd.R_reads' hR).2.1, (Kd.R_reads' hR).2.2, Cur.below ⟨v1, v2, v3, h1, h2, h3⟩ hb⟩
theorem Cur.node (h : Cur B g w0 c w) (hk : c.ok) (fu : Nat) (hcl : cloneB fu c.now = true) : Calls Try.prog 17 #[.pointer (some ⟨g, 0, none⟩)] w fun e w' => ∃ A4 c4 A6 c6, e = .returned (.agg #[.int .i64 c.now.f0, .int .i64 c.now.f1, .int .i64 c.now.f2, .int .i64 c.now.f3, .slice A4 c.now.f4.length c4, .string c.now.f5, .slice A6 c.now.f6.length c6]) ∧ Cur B g w0 c w' := by
  obtain ⟨v1, v2, v3, h1, h2, h3⟩ := h
  refine (node_calls h1 fu c.ps.length hk.1 (by have := hk.2.2; omega) hcl).mono ?_
  rintro e w' ⟨v4, v6, rfl, r4, r6, hb⟩
  obtain ⟨A4, c4, rfl⟩ := Kd.R_slice r4
  obtain ⟨A6, c6, rfl⟩ := Kd.R_slice r6
  exact ⟨A4, c4, A6, c6, rfl, Cur.below ⟨v1, v2, v3, h1, h2, h3⟩ hb⟩
end
end Go.Proofs.Ytfekpmbecoeijaa.Hand
