/- The cursor's node, path and offset. -/
import Derived.Test.YtfekpmbecoeijaaCg
namespace Go.Proofs.Ytfekpmbecoeijaa.Hand
open Go.RowKit Go.Proofs.YtfekpmbecoeijaaW.PrintWords Go.Proofs.YtfekpmbecoeijaaW.PrintLast Go.Proofs.YtfekpmbecoeijaaW.PrintMore Go.Proofs.Ytfekpmbecoeijaa.Q Go.Proofs.Ytfekpmbecoeijaa.RF
set_option linter.unusedVariables false
set_option linter.unusedSimpArgs false
set_option maxRecDepth 100000

theorem nown {A : Option Addr} {n c n' c' k : Nat} (h : some k ≠ (Value.slice A n c).ownBlock) : some k ≠ (Value.slice A n' c').ownBlock := by cases A <;> exact h
/-- An element of a row that is one's own, with what it owns. -/
theorem at_R26 {w : World} {B : Nat} {ok : Nat → Prop} {A : Option Addr} {n c0 : Nat} {xs : List S26} (h : k26.R 26 w B ok (.slice A n c0) xs) (i : Int) (h0 : 0 ≤ i) (h1 : i < n) :
    ∃ ad A4 c4 A6 c6, A = some ad ∧ w.cell? (ad.add (i.toNat * 7)) = some (.int .i64 (rd_T26 xs i).f0) ∧ w.cell? ⟨(ad.add (i.toNat * 7)).block, (ad.add (i.toNat * 7)).off + 1, none⟩ = some (.int .i64 (rd_T26 xs i).f1) ∧ w.cell? ⟨(ad.add (i.toNat * 7)).block, (ad.add (i.toNat * 7)).off + 2, none⟩ = some (.int .i64 (rd_T26 xs i).f2) ∧ w.cell? ⟨(ad.add (i.toNat * 7)).block, (ad.add (i.toNat * 7)).off + 3, none⟩ = some (.int .i64 (rd_T26 xs i).f3) ∧ w.cell? ⟨(ad.add (i.toNat * 7)).block, (ad.add (i.toNat * 7)).off + 4, none⟩ = some (.slice A4 (rd_T26 xs i).f4.length c4) ∧ w.cell? ⟨(ad.add (i.toNat * 7)).block, (ad.add (i.toNat * 7)).off + 5, none⟩ = some (.string (rd_T26 xs i).f5) ∧ w.cell? ⟨(ad.add (i.toNat * 7)).block, (ad.add (i.toNat * 7)).off + 6, none⟩ = some (.slice A6 (rd_T26 xs i).f6.length c6) ∧ k76.R 76 w B (fun k => ok k ∧ some k ≠ (Value.slice A n c0).ownBlock) (.slice A4 (rd_T26 xs i).f4.length c4) (rd_T26 xs i).f4 ∧ k26.R 26 w B (fun k => ok k ∧ some k ≠ (Value.slice A n c0).ownBlock) (.slice A6 (rd_T26 xs i).f6.length c6) (rd_T26 xs i).f6 := by
  have hn : n = xs.length := (Kd.R_reads' h).1
  obtain ⟨g, cap, e, _, _, _⟩ := Kd.R_form h (by omega)
  injection e with e1 e2 e3
  subst e1 e3
  obtain ⟨c, hcl, hM, hc, _⟩ := Kd.R_elem h z26 i h0 h1
  obtain ⟨v4, v6, rfl, r4, r6⟩ := k26_openM hM
  obtain ⟨A4, c4, rfl⟩ := Kd.R_slice r4
  obtain ⟨A6, c6, rfl⟩ := Kd.R_slice r6
  have hm : ∀ k, (ok k ∧ k ≠ g) → ok k ∧ some k ≠ (Value.slice (some ⟨g, 0, none⟩) n c0).ownBlock := fun k hk => ⟨hk.1, by simpa [Value.ownBlock] using hk.2⟩
  refine ⟨⟨g, 0, none⟩, A4, c4, A6, c6, rfl, ?_, ?_, ?_, ?_, ?_, ?_, ?_, Kd.R_mono r4 hm, Kd.R_mono r6 hm⟩ <;> (simp only [add_plain])
  · exact hc 0 _ rfl
  · exact hc 1 _ rfl
  · exact hc 2 _ rfl
  · exact hc 3 _ rfl
  · exact hc 4 _ rfl
  · exact hc 5 _ rfl
  · exact hc 6 _ rfl
set_option maxHeartbeats 8000000 in
theorem now_own {B g : Nat} {v1 v2 v3 : Value} {c : Cu} {w : World} (hw : CurW B g v1 v2 v3 c w) (i : Nat) (hn : c.ns.length = i + 1) (hi63 : i < 4611686018427387904) :
    Calls Try.prog 41 #[.pointer (some ⟨g, 0, none⟩)] w fun e w' => ∃ A4 c4 A6 c6, e = .returned (nodeV (rd_T26 c.ns (i : Int)) A4 c4 A6 c6) ∧ k76.R 76 w' B (fun k => (k ≠ g ∧ some k ≠ v2.ownBlock ∧ some k ≠ v3.ownBlock) ∧ some k ≠ v1.ownBlock) (.slice A4 (rd_T26 c.ns (i : Int)).f4.length c4) (rd_T26 c.ns (i : Int)).f4 ∧ k26.R 26 w' B (fun k => (k ≠ g ∧ some k ≠ v2.ownBlock ∧ some k ≠ v3.ownBlock) ∧ some k ≠ v1.ownBlock) (.slice A6 (rd_T26 c.ns (i : Int)).f6.length c6) (rd_T26 c.ns (i : Int)).f6 ∧ Below w.heap.size w w' := by
  have hu26 := Try.underlying26
  obtain ⟨A, cp, cq, e1, _, hC⟩ := hw.r1
  subst e1
  obtain ⟨w1, hw1⟩ : ∃ w1, (w.alloc (Obj.cells #[.int .i64 0, .int .i64 0, .int .i64 0, .int .i64 0, .slice none 0 0, .string ⟨#[]⟩, .slice none 0 0] 26)) = w1 := ⟨_, rfl⟩
  have hB1 : Below w.heap.size w w1 := hw1 ▸ below_alloc (Below.refl _ _) _
  have hk1 : w1.heap[w.heap.size]? = some (.cells #[.int .i64 0, .int .i64 0, .int .i64 0, .int .i64 0, .slice none 0 0, .string ⟨#[]⟩, .slice none 0 0] 26 (0, 0)) := hw1 ▸ blk_new _ _
  have y0 : w1.cell? ⟨g, 0, none⟩ = some (.slice A c.ns.length cp) := (blk_cell (blk_below hw.hb hB1) 0).trans rfl
  obtain ⟨ad, A4, c4, A6, c6, hA, q0, q1, q2, q3, q4, q5, q6, g4, g6⟩ := at_R26 hC (i : Int) (by omega) (by omega)
  have bc := fun {a : Addr} {v : Value} (hx : w.cell? a = some v) => (hB1.cell (World.block_lt_of_cell? w _ hx)).trans hx
  replace q0 := bc q0
  replace q1 := bc q1
  replace q2 := bc q2
  replace q3 := bc q3
  replace q4 := bc q4
  replace q5 := bc q5
  replace q6 := bc q6
  clear bc
  subst hA
  generalize hkk : rd_T26 c.ns (i : Int) = n at *
  simp only [Int.toNat_natCast] at q0 q1 q2 q3 q4 q5 q6
  have hn' := hn
  rw [hn'] at y0
  have b0 : w1.cell? ⟨w.heap.size, 0, none⟩ = some (.int .i64 0) := (blk_cell hk1 0).trans rfl
  have f0 := blk_frozen hk1 0
  have b1 : w1.cell? ⟨w.heap.size, 1, none⟩ = some (.int .i64 0) := (blk_cell hk1 1).trans rfl
  have f1 := blk_frozen hk1 1
  have b2 : w1.cell? ⟨w.heap.size, 2, none⟩ = some (.int .i64 0) := (blk_cell hk1 2).trans rfl
  have f2 := blk_frozen hk1 2
  have b3 : w1.cell? ⟨w.heap.size, 3, none⟩ = some (.int .i64 0) := (blk_cell hk1 3).trans rfl
  have f3 := blk_frozen hk1 3
  have b4 : w1.cell? ⟨w.heap.size, 4, none⟩ = some (.slice none 0 0) := (blk_cell hk1 4).trans rfl
  have f4 := blk_frozen hk1 4
  have b5 : w1.cell? ⟨w.heap.size, 5, none⟩ = some (.string ⟨#[]⟩) := (blk_cell hk1 5).trans rfl
  have f5 := blk_frozen hk1 5
  have b6 : w1.cell? ⟨w.heap.size, 6, none⟩ = some (.slice none 0 0) := (blk_cell hk1 6).trans rfl
  have f6 := blk_frozen hk1 6
  have hwr : IntKind.i64.wrap (((i + 1 : Nat) : Int) - 1) = (i : Int) := by rw [IntKind.wrap_i64]; omega
  have i0 : 0 ≤ (i : Int) := by omega
  have i1 : (i : Int) < ((i + 1 : Nat) : Int) := by omega
  have hk1' := Aside0.mk hk1
  have hB1 := Aside0.mk hB1
  have hg4 := Aside0.mk g4
  have hg6 := Aside0.mk g6
  clear g4 g6 hk1 hC
  go_enter Try.func41, Try.ntmps41
  go_wp2
  go_region
  go_wp2
  have hk2 := blk_drew (blk_put (blk_put (blk_put (blk_put (blk_put (blk_put (blk_put hk1'.out 0 (.int .i64 n.f0) rfl) 1 (.int .i64 n.f1) rfl) 2 (.int .i64 n.f2) rfl) 3 (.int .i64 n.f3) rfl) 4 (.slice A4 n.f4.length c4) rfl) 5 (.string n.f5) rfl) 6 (.slice A6 n.f6.length c6) rfl)
  have hg := Nat.le_refl w.heap.size
  have hBe := below_drew1 (below_set (g := w.heap.size) (j := 6) (v := .slice A6 n.f6.length c6) (below_set (g := w.heap.size) (j := 5) (v := .string n.f5) (below_set (g := w.heap.size) (j := 4) (v := .slice A4 n.f4.length c4) (below_set (g := w.heap.size) (j := 3) (v := .int .i64 n.f3) (below_set (g := w.heap.size) (j := 2) (v := .int .i64 n.f2) (below_set (g := w.heap.size) (j := 1) (v := .int .i64 n.f1) (below_set (g := w.heap.size) (j := 0) (v := .int .i64 n.f0) hB1.out hg) hg) hg) hg) hg) hg) hg)
  refine bodyPost_ret (results_single rfl (.cell w.heap.size 26 _ (0, 0) _ rfl hk2 Try.underlying26 rfl (by kernel_rfl) .nil)) rfl ⟨A4, c4, A6, c6, rfl, (Kd.R_mono (Kd.R_below hg4.out hBe) (fun k hk => ⟨hk.1, nown hk.2⟩)), (Kd.R_mono (Kd.R_below hg6.out hBe) (fun k hk => ⟨hk.1, nown hk.2⟩)), hBe⟩

theorem now_calls {B g : Nat} {v1 v2 v3 : Value} {c : Cu} {w : World} (hw : CurW B g v1 v2 v3 c w) (i : Nat) (hn : c.ns.length = i + 1) (hi63 : i < 4611686018427387904) :
    Calls Try.prog 41 #[.pointer (some ⟨g, 0, none⟩)] w fun e w' => ∃ A4 c4 A6 c6, e = .returned (nodeV (rd_T26 c.ns (i : Int)) A4 c4 A6 c6) ∧ (rd_T26 c.ns (i : Int)).f4.length ≤ c4 ∧ Kd.C k76 w' A4 (rd_T26 c.ns (i : Int)).f4.length (rd_T26 c.ns (i : Int)).f4 ∧ (rd_T26 c.ns (i : Int)).f6.length ≤ c6 ∧ Kd.C k26 w' A6 (rd_T26 c.ns (i : Int)).f6.length (rd_T26 c.ns (i : Int)).f6 ∧ Below w.heap.size w w' := by
  refine (now_own hw i hn hi63).mono ?_
  rintro e w' ⟨A4, c4, A6, c6, rfl, r4, r6, hb⟩
  obtain ⟨_, l4, g4⟩ := Kd.R_reads' r4
  obtain ⟨_, l6, g6⟩ := Kd.R_reads' r6
  exact ⟨A4, c4, A6, c6, rfl, l4, g4, l6, g6, hb⟩

set_option maxHeartbeats 8000000 in
theorem path_calls {B g : Nat} {v1 v2 v3 : Value} {c : Cu} {w : World} (hw : CurW B g v1 v2 v3 c w) (hlen : c.ps.length < 4398046511104) :
    Calls Try.prog 13 #[.pointer (some ⟨g, 0, none⟩)] w fun e w' => ∃ v, e = .returned v ∧ Kd.R (Kd.int .i64) 3 w' w.heap.size (fun _ => True) v c.ps ∧ Below w.heap.size w w' := by
  obtain ⟨A, cp, e1, hcp, hC⟩ := hw.r2.reads
  subst e1
  have hB0 := Below.refl w.heap.size w
  have y0 : w.cell? ⟨g, 1, none⟩ = some (.slice A c.ps.length cp) := (blk_cell hw.hb 1).trans rfl
  replace hC := Aside0.mk hC
  replace hB0 := Aside0.mk hB0
  go_enter Try.func13, Try.ntmps13
  go_wp2_with ((with_reducible refine gate_builtin (b := .append) (xs := #[.const (.slice none 0 0), .tmp 9]) rfl ?_); at_builtin; refine Kd.R_append_rows (Kd.int .i64) (w0 := w) w.heap.size rfl (.const (.slice none 0 0)) (.tmp 9) 32 3 (.int .i64 0) 8 rfl Try.underlying32 info3 rfl (by decide) (by omega) (.slice none 0 0) ([] : List Int) c.ps _ _ _ (fun _ => True) (fun _ => False) rfl rfl ?aO ?aR (fun _ _ h => h) (fun _ h => h.elim) ?aF ?aB ?aS ?aL ?_; (case aR => exact hC.out); (case aB => exact hB0.out); (case aF => exact (fun _ _ => trivial)); (case aO => exact Kd.R_nil _ _ _ _ _); (case aS => exact Nat.le_refl _); (case aL => simp only [List.length_nil]; omega); intro v4 w1 ho hb hg hat; rw [List.nil_append] at ho; have HO := Aside0.mk ho; have HB := Aside0.mk hb; clear ho hb hg hat)
  go_ret
  exact ⟨_, rfl, HO.out, HB.out⟩

set_option maxHeartbeats 8000000 in
theorem at_calls {B g : Nat} {v1 v2 v3 : Value} {c : Cu} {w : World} (hw : CurW B g v1 v2 v3 c w) (i : Nat) (hn : c.hs.length = i + 1) (hi63 : i < 4611686018427387904) :
    Calls Try.prog 14 #[.pointer (some ⟨g, 0, none⟩)] w fun e w' => e = .returned (.int .i64 (rd c.hs (i : Int))) ∧ Below w.heap.size w w' := by
  obtain ⟨A, cp, e1, hcp, hC⟩ := hw.r3.reads
  subst e1
  have y0 : w.cell? ⟨g, 2, none⟩ = some (.slice A c.hs.length cp) := (blk_cell hw.hb 2).trans rfl
  obtain ⟨ad, hA, q0⟩ := Kd.at_int hC (i : Int) (by omega) (by omega)
  subst hA
  simp only [Int.toNat_natCast] at q0
  have hn' := hn
  rw [hn'] at y0
  have hwr : IntKind.i64.wrap (((i + 1 : Nat) : Int) - 1) = (i : Int) := by rw [IntKind.wrap_i64]; omega
  have i0 : 0 ≤ (i : Int) := by omega
  have i1 : (i : Int) < ((i + 1 : Nat) : Int) := by omega
  replace hC := Aside0.mk hC
  go_enter Try.func14, Try.ntmps14
  go_wp2
  go_quiet (fail)
  go_wp2
  go_ret
  exact ⟨rfl, pw_below_drewN (Below.refl _ _) _⟩

set_option maxHeartbeats 8000000 in
theorem node_calls {B g : Nat} {v1 v2 v3 : Value} {c : Cu} {w : World} (hw : CurW B g v1 v2 v3 c w) (fu i : Nat) (hn : c.ns.length = i + 1) (hi63 : i < 4611686018427387904) (hcl : cloneB fu (rd_T26 c.ns (i : Int)) = true) :
    Calls Try.prog 17 #[.pointer (some ⟨g, 0, none⟩)] w (ClonePost (rd_T26 c.ns (i : Int)) w) := by
  have hu26 := Try.underlying26
  obtain ⟨w1, hw1⟩ : ∃ w1, (w.alloc (Obj.cells #[.int .i64 0, .int .i64 0, .int .i64 0, .int .i64 0, .slice none 0 0, .string ⟨#[]⟩, .slice none 0 0] 26)) = w1 := ⟨_, rfl⟩
  have hB1 : Below w.heap.size w w1 := hw1 ▸ below_alloc (Below.refl _ _) _
  have hk1 : w1.heap[w.heap.size]? = some (.cells #[.int .i64 0, .int .i64 0, .int .i64 0, .int .i64 0, .slice none 0 0, .string ⟨#[]⟩, .slice none 0 0] 26 (0, 0)) := hw1 ▸ blk_new _ _
  have hnow := now_calls (hw.below hB1) i hn hi63
  generalize hnn : rd_T26 c.ns (i : Int) = n at *
  have hz1 : w.heap.size < w1.heap.size := blk_lt hk1
  replace hk1 := Aside0.mk hk1
  replace hB1 := Aside0.mk hB1
  replace hnow := Aside0.mk hnow
  replace hcl := Aside0.mk hcl
  go_enter Try.func17, Try.ntmps17
  go_wp2_with (first | (go_at_call 41; refine hnow.out.mono ?_; rintro e w2 ⟨A4, c4, A6, c6, rfl, l4, g4, l6, g6, hb2⟩; have hcc := clone_calls fu n A4 c4 A6 c6 w2 hcl.out g4 l4 g6 l6; replace hb2 := Aside0.mk hb2; replace hcc := Aside0.mk hcc; clear g4 l4 g6 l6) | (go_at_call 32; refine hcc.out.mono ?_; rintro e w3 ⟨v4, v6, rfl, h4, h6, hb3⟩; obtain ⟨Av, cv, ev⟩ := Kd.R_slice h4; subst ev; obtain ⟨Aw, cw, ew⟩ := Kd.R_slice h6; subst ew; have hk3 := blk_below (blk_below hk1.out hb2.out) hb3; have b0 := (blk_cell hk3 0).trans rfl; have b1 := (blk_cell hk3 1).trans rfl; have b2 := (blk_cell hk3 2).trans rfl; have b3 := (blk_cell hk3 3).trans rfl; have b4 := (blk_cell hk3 4).trans rfl; have b5 := (blk_cell hk3 5).trans rfl; have b6 := (blk_cell hk3 6).trans rfl; have f0 := blk_frozen hk3 0; have f1 := blk_frozen hk3 1; have f2 := blk_frozen hk3 2; have f3 := blk_frozen hk3 3; have f4 := blk_frozen hk3 4; have f5 := blk_frozen hk3 5; have f6 := blk_frozen hk3 6; replace hk3 := Aside0.mk hk3; replace hb3 := Aside0.mk hb3; replace h4 := Aside0.mk h4; replace h6 := Aside0.mk h6))
  have hk4 := (blk_put (blk_put (blk_put (blk_put (blk_put (blk_put (blk_put hk3.out 0 (.int .i64 n.f0) rfl) 1 (.int .i64 n.f1) rfl) 2 (.int .i64 n.f2) rfl) 3 (.int .i64 n.f3) rfl) 4 (.slice Av n.f4.length cv) rfl) 5 (.string n.f5) rfl) 6 (.slice Aw n.f6.length cw) rfl)
  have hc4 := ((((((((((((((Chg.refl (fun k => k = w.heap.size) w3).trans (Chg.set (T := fun k => k = w.heap.size) _ ⟨w.heap.size, 0, none⟩ (.int .i64 n.f0) rfl) (fun _ _ h => h))).trans (Chg.set (T := fun k => k = w.heap.size) _ ⟨w.heap.size, 1, none⟩ (.int .i64 n.f1) rfl) (fun _ _ h => h))).trans (Chg.set (T := fun k => k = w.heap.size) _ ⟨w.heap.size, 2, none⟩ (.int .i64 n.f2) rfl) (fun _ _ h => h))).trans (Chg.set (T := fun k => k = w.heap.size) _ ⟨w.heap.size, 3, none⟩ (.int .i64 n.f3) rfl) (fun _ _ h => h))).trans (Chg.set (T := fun k => k = w.heap.size) _ ⟨w.heap.size, 4, none⟩ (.slice Av n.f4.length cv) rfl) (fun _ _ h => h))).trans (Chg.set (T := fun k => k = w.heap.size) _ ⟨w.heap.size, 5, none⟩ (.string n.f5) rfl) (fun _ _ h => h))).trans (Chg.set (T := fun k => k = w.heap.size) _ ⟨w.heap.size, 6, none⟩ (.slice Aw n.f6.length cw) rfl) (fun _ _ h => h))
  have hB3 := below_step (below_step hB1.out hb2.out) hb3.out
  have hw2 : w.heap.size < w2.heap.size := Nat.lt_of_lt_of_le hz1 hb2.out.size
  have hw2' : w.heap.size ≤ w2.heap.size := by omega
  refine bodyPost_ret (results_single rfl (.cell w.heap.size 26 _ (0, 0) _ rfl hk4 Try.underlying26 rfl (by kernel_rfl) .nil)) rfl ⟨.slice Av n.f4.length cv, .slice Aw n.f6.length cw, rfl, ?_, ?_, ?_⟩
  · exact Kd.R_lower (Kd.R_mono (Kd.R_step (Kd.R_bound h4.out) (fun k hk hlt => hc4.block k hlt (fun e => by have := hk.2.1; omega))) (fun _ _ => trivial)) hw2'
  · exact Kd.R_lower (Kd.R_mono (Kd.R_step (Kd.R_bound h6.out) (fun k hk hlt => hc4.block k hlt (fun e => by have := hk.2.1; omega))) (fun _ h => h.1)) hw2'
  · exact hc4.below_then hB3 hB3.size (fun k hk e => by omega)
end Go.Proofs.Ytfekpmbecoeijaa.Hand
