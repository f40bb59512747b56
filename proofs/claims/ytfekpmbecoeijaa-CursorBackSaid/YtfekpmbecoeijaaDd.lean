import Derived.Test.YtfekpmbecoeijaaPuK
import Derived.Test.YtfekpmbecoeijaaCx
import Derived.Test.YtfekpmbecoeijaaPuM
/- The law CursorAll, walked. -/
namespace Go.Proofs.Ytfekpmbecoeijaa.Hand
open Go.RowKit Go.Proofs.YtfekpmbecoeijaaW.PrintWords Go.Proofs.YtfekpmbecoeijaaW.PrintLast Go.Proofs.YtfekpmbecoeijaaW.PrintMore Go.Proofs.Ytfekpmbecoeijaa.Q Go.Proofs.Ytfekpmbecoeijaa.RF Go.Proofs.Ytfekpmbecoeijaa.Pure
set_option linter.unusedVariables false
set_option linter.unusedSimpArgs false
set_option maxRecDepth 100000

section
variable {B g : Nat} {w0 w w' : World} {c c' : Cu}
theorem Cur.atB (h : Cur B g w0 c w) (hk : c.ok) : Calls Try.prog 14 #[.pointer (some ⟨g, 0, none⟩)] w fun e w' => e = .returned (.int .i64 c.at_) ∧ Below w.heap.size w w' := by
  obtain ⟨v1, v2, v3, h1, h2, h3⟩ := h
  exact at_calls h1 c.ps.length hk.2.1 (by have := hk.2.2; omega)
theorem Cur.pathB (h : Cur B g w0 c w) (hk : c.ok) : Calls Try.prog 13 #[.pointer (some ⟨g, 0, none⟩)] w fun e w' => ∃ A cp, e = .returned (.slice A c.ps.length cp) ∧ c.ps.length ≤ cp ∧ Kd.C (Kd.int .i64) w' A c.ps.length c.ps ∧ Below w.heap.size w w' := by
  obtain ⟨v1, v2, v3, h1, h2, h3⟩ := h
  refine (path_calls h1 (by have := hk.2.2; omega)).mono ?_
  rintro e w' ⟨v, rfl, hR, hb⟩
  obtain ⟨A, cp, rfl⟩ := Kd.R_slice hR
  exact ⟨A, cp, rfl, (Kd.R_reads' hR).2.1, (Kd.R_reads' hR).2.2, hb⟩
theorem Cur.nodeB (h : Cur B g w0 c w) (hk : c.ok) (fu : Nat) {y : S26} (hy : c.now = y) (hcl : cloneB fu y = true) : Calls Try.prog 17 #[.pointer (some ⟨g, 0, none⟩)] w fun e w' => ∃ A4 c4 A6 c6, e = .returned (nodeV y A4 c4 A6 c6) ∧ y.f4.length ≤ c4 ∧ Kd.C k76 w' A4 y.f4.length y.f4 ∧ y.f6.length ≤ c6 ∧ Kd.C k26 w' A6 y.f6.length y.f6 ∧ Below w.heap.size w w' := by
  subst hy
  obtain ⟨v1, v2, v3, h1, h2, h3⟩ := h
  refine (node_calls h1 fu c.ps.length hk.1 (by have := hk.2.2; omega) hcl).mono ?_
  rintro e w' ⟨v4, v6, rfl, r4, r6, hb⟩
  obtain ⟨A4, c4, rfl⟩ := Kd.R_slice r4
  obtain ⟨A6, c6, rfl⟩ := Kd.R_slice r6
  exact ⟨A4, c4, A6, c6, rfl, (Kd.R_reads' r4).2.1, (Kd.R_reads' r4).2.2, (Kd.R_reads' r6).2.1, (Kd.R_reads' r6).2.2, hb⟩
theorem Cur.bel (h : Cur B g w0 c w) : Below B w0 w := by
  obtain ⟨_, _, _, _, h, _⟩ := h
  exact h
theorem Cur.is {d : Cu} (h : Cur B g w0 c w) (e : c = d) : Cur B g w0 d w := e ▸ h
end
theorem new_cur {n : S26} (hO : OkT n) (w : World) {A4 : Option Addr} {c4 : Nat} {A6 : Option Addr} {c6 : Nat} (l4 : n.f4.length ≤ c4) (g4 : Kd.C k76 w A4 n.f4.length n.f4) (l6 : n.f6.length ≤ c6) (g6 : Kd.C k26 w A6 n.f6.length n.f6) :
    Calls Try.prog 9 #[nodeV n A4 c4 A6 c6] w fun e w' => ∃ g, e = .returned (.pointer (some ⟨g, 0, none⟩)) ∧ Cur w.heap.size g w (curP 100 n []) w' := by
  refine (new_calls 100 n A4 c4 A6 c6 w (small_clone _ _ hO.sm) g4 l4 g6 l6).mono ?_
  rintro e w' ⟨g, v1, v2, v3, rfl, hC, hb⟩
  exact ⟨g, rfl, v1, v2, v3, hC, hb, hb.size⟩
/-- The node at a path, as Get answers. -/
theorem get_calls {n y : S26} {p : List Int} (hO : OkT n) (hg : getP n p = some y) {w : World} {A4 : Option Addr} {c4 : Nat} {A6 : Option Addr} {c6 : Nat} (l4 : n.f4.length ≤ c4) (g4 : Kd.C k76 w A4 n.f4.length n.f4) (l6 : n.f6.length ≤ c6) (g6 : Kd.C k26 w A6 n.f6.length n.f6)
    {A : Option Addr} {cp : Nat} (hp : Kd.C (Kd.int .i64) w A p.length p) (hcp : p.length ≤ cp) :
    Calls Try.prog 19 #[nodeV n A4 c4 A6 c6, .slice A p.length cp] w fun e w' => ∃ B4 d4 B6 d6, e = .returned (.tuple #[nodeV y B4 d4 B6 d6, .bool true]) ∧ Kd.R k76 76 w' w.heap.size (fun _ => True) (.slice B4 y.f4.length d4) y.f4 ∧ Kd.R k26 26 w' w.heap.size (fun _ => True) (.slice B6 y.f6.length d6) y.f6 ∧ Below w.heap.size w w' := by
  obtain ⟨k, hk⟩ := (get_atE hO hg).rounds
  refine (cursor_Get.calls k n.f0 n.f1 n.f2 n.f3 (fun k_ => k_ < w.heap.size) A4 c4 n.f4 n.f5 (fun k_ => k_ < w.heap.size) A6 c6 n.f6 A cp p y.f0 y.f1 y.f2 y.f3 y.f4 y.f5 y.f6 true w (Kd.V_mk l4 (Kd.C_F k76_heap g4)) (Kd.V_mk l6 (Kd.C_F k26_heap g6)) hp hcp hk).mono ?_
  rintro e w' ⟨v4, v6, rfl, r4, r6, hb⟩
  obtain ⟨B4, d4, rfl⟩ := Kd.R_slice r4
  obtain ⟨B6, d6, rfl⟩ := Kd.R_slice r6
  exact ⟨B4, d4, B6, d6, rfl, Kd.R_mono r4 (fun _ _ => trivial), Kd.R_mono r6 (fun _ _ => trivial), hb⟩
theorem same_calls {y : S26} (hs : ∃ d, small d y = true) {w : World} {A4 : Option Addr} {c4 : Nat} {A6 : Option Addr} {c6 : Nat} (l4 : y.f4.length ≤ c4) (g4 : Kd.C k76 w A4 y.f4.length y.f4) (l6 : y.f6.length ≤ c6) (g6 : Kd.C k26 w A6 y.f6.length y.f6)
    {B4 : Option Addr} {d4 : Nat} {B6 : Option Addr} {d6 : Nat} (m4 : y.f4.length ≤ d4) (h4 : Kd.C k76 w B4 y.f4.length y.f4) (m6 : y.f6.length ≤ d6) (h6 : Kd.C k26 w B6 y.f6.length y.f6) :
    Calls Try.prog 16 #[nodeV y A4 c4 A6 c6, nodeV y B4 d4 B6 d6] w fun e w' => e = .returned (.bool true) ∧ Below w.heap.size w w' := by
  obtain ⟨d, hd⟩ := hs
  obtain ⟨k, hk⟩ := (same_ev d y hd).rounds
  exact arboristref42_Same.calls k y.f0 y.f1 y.f2 y.f3 A4 c4 y.f4 y.f5 A6 c6 y.f6 y.f0 y.f1 y.f2 y.f3 B4 d4 y.f4 y.f5 B6 d6 y.f6 true w g4 l4 g6 l6 h4 m4 h6 m6 hk
theorem refOwn_calls {y : S26} (h4 : y.f4.length < 300) (ht : textLen y < 4611686018427387904) {w : World} {A4 : Option Addr} {c4 : Nat} {A6 : Option Addr} {c6 : Nat} (l4 : y.f4.length ≤ c4) (g4 : Kd.C k76 w A4 y.f4.length y.f4) (l6 : y.f6.length ≤ c6) (g6 : Kd.C k26 w A6 y.f6.length y.f6) :
    Calls Try.prog 27 #[nodeV y A4 c4 A6 c6] w fun e w' => e = .returned (.string (ownT y)) ∧ Below w.heap.size w w' := by
  obtain ⟨k, hk⟩ := (ownE y h4 (by omega)).rounds
  exact arboristref42_Own.calls k y.f0 y.f1 y.f2 y.f3 A4 c4 y.f4 y.f5 A6 c6 y.f6 (ownT y) w g4 l4 g6 l6 hk

/-- A tree in memory, held in a variable. -/
structure NodeB (n : S26) (A4 : Option Addr) (c4 : Nat) (A6 : Option Addr) (c6 : Nat) (b : Nat) (w : World) : Prop where
  hb : w.heap[b]? = some (.cells #[.int .i64 n.f0, .int .i64 n.f1, .int .i64 n.f2, .int .i64 n.f3, .slice A4 n.f4.length c4, .string n.f5, .slice A6 n.f6.length c6] 26 (0, 0))
  l4 : n.f4.length ≤ c4
  g4 : Kd.C k76 w A4 n.f4.length n.f4
  l6 : n.f6.length ≤ c6
  g6 : Kd.C k26 w A6 n.f6.length n.f6
section
variable {n : S26} {A4 : Option Addr} {c4 : Nat} {A6 : Option Addr} {c6 b : Nat} {w w' : World}
theorem NodeB.below (h : NodeB n A4 c4 A6 c6 b w) (hb : Below w.heap.size w w') : NodeB n A4 c4 A6 c6 b w' := ⟨blk_below h.hb hb, h.l4, Kd.C_below h.g4 hb, h.l6, Kd.C_below h.g6 hb⟩
theorem NodeB.cells (h : NodeB n A4 c4 A6 c6 b w) : w.cell? ⟨b, 0, none⟩ = some (.int .i64 n.f0) ∧ w.cell? ⟨b, 1, none⟩ = some (.int .i64 n.f1) ∧ w.cell? ⟨b, 2, none⟩ = some (.int .i64 n.f2) ∧ w.cell? ⟨b, 3, none⟩ = some (.int .i64 n.f3) ∧ w.cell? ⟨b, 4, none⟩ = some (.slice A4 n.f4.length c4) ∧ w.cell? ⟨b, 5, none⟩ = some (.string n.f5) ∧ w.cell? ⟨b, 6, none⟩ = some (.slice A6 n.f6.length c6) :=
  ⟨(blk_cell h.hb 0).trans rfl, (blk_cell h.hb 1).trans rfl, (blk_cell h.hb 2).trans rfl, (blk_cell h.hb 3).trans rfl, (blk_cell h.hb 4).trans rfl, (blk_cell h.hb 5).trans rfl, (blk_cell h.hb 6).trans rfl⟩
end

theorem NodeB.made {y : S26} {B4 B6 : Option Addr} {d4 d6 g7 B : Nat} {W : World} (hz : W.heap[g7]? = some (.cells #[.int .i64 0, .int .i64 0, .int .i64 0, .int .i64 0, .slice none 0 0, .string ⟨#[]⟩, .slice none 0 0] 26 (0, 0))) (hg : g7 < B) (r4 : k76.R 76 W B (fun _ => True) (.slice B4 y.f4.length d4) y.f4) (r6 : k26.R 26 W B (fun _ => True) (.slice B6 y.f6.length d6) y.f6) :
    NodeB y B4 d4 B6 d6 g7 (((((((W.setCell ⟨g7, 0, none⟩ (.int .i64 y.f0)).setCell ⟨g7, 1, none⟩ (.int .i64 y.f1)).setCell ⟨g7, 2, none⟩ (.int .i64 y.f2)).setCell ⟨g7, 3, none⟩ (.int .i64 y.f3)).setCell ⟨g7, 4, none⟩ (.slice B4 y.f4.length d4)).setCell ⟨g7, 5, none⟩ (.string y.f5)).setCell ⟨g7, 6, none⟩ (.slice B6 y.f6.length d6)) := by
  have hc := ((((((((Chg.refl (fun k => k = g7) W).trans (Chg.set (T := fun k => k = g7) _ ⟨g7, 0, none⟩ (.int .i64 y.f0) rfl) (fun _ _ h => h)).trans (Chg.set (T := fun k => k = g7) _ ⟨g7, 1, none⟩ (.int .i64 y.f1) rfl) (fun _ _ h => h)).trans (Chg.set (T := fun k => k = g7) _ ⟨g7, 2, none⟩ (.int .i64 y.f2) rfl) (fun _ _ h => h)).trans (Chg.set (T := fun k => k = g7) _ ⟨g7, 3, none⟩ (.int .i64 y.f3) rfl) (fun _ _ h => h)).trans (Chg.set (T := fun k => k = g7) _ ⟨g7, 4, none⟩ (.slice B4 y.f4.length d4) rfl) (fun _ _ h => h)).trans (Chg.set (T := fun k => k = g7) _ ⟨g7, 5, none⟩ (.string y.f5) rfl) (fun _ _ h => h)).trans (Chg.set (T := fun k => k = g7) _ ⟨g7, 6, none⟩ (.slice B6 y.f6.length d6) rfl) (fun _ _ h => h))
  have s4 := Kd.R_step (Kd.R_bound r4) (fun k hk hlt => hc.block k hlt (fun e => by have := hk.2.1; omega))
  have s6 := Kd.R_step (Kd.R_bound r6) (fun k hk hlt => hc.block k hlt (fun e => by have := hk.2.1; omega))
  exact ⟨(blk_put (blk_put (blk_put (blk_put (blk_put (blk_put (blk_put hz 0 (.int .i64 y.f0) rfl) 1 (.int .i64 y.f1) rfl) 2 (.int .i64 y.f2) rfl) 3 (.int .i64 y.f3) rfl) 4 (.slice B4 y.f4.length d4) rfl) 5 (.string y.f5) rfl) 6 (.slice B6 y.f6.length d6) rfl), (Kd.R_reads' s4).2.1, (Kd.R_reads' s4).2.2, (Kd.R_reads' s6).2.1, (Kd.R_reads' s6).2.2⟩
theorem NodeB.laid {y : S26} {B4 B6 : Option Addr} {d4 d6 B : Nat} {W : World} (r4 : k76.R 76 W B (fun _ => True) (.slice B4 y.f4.length d4) y.f4) (r6 : k26.R 26 W B (fun _ => True) (.slice B6 y.f6.length d6) y.f6) :
    NodeB y B4 d4 B6 d6 W.heap.size (W.alloc (.cells #[.int .i64 y.f0, .int .i64 y.f1, .int .i64 y.f2, .int .i64 y.f3, .slice B4 y.f4.length d4, .string y.f5, .slice B6 y.f6.length d6] 26)) := by
  have hb := below_alloc (Below.refl W.heap.size W) (.cells #[.int .i64 y.f0, .int .i64 y.f1, .int .i64 y.f2, .int .i64 y.f3, .slice B4 y.f4.length d4, .string y.f5, .slice B6 y.f6.length d6] 26)
  exact ⟨blk_new _ _, (Kd.R_reads' r4).2.1, Kd.C_below (Kd.R_reads' r4).2.2 hb, (Kd.R_reads' r6).2.1, Kd.C_below (Kd.R_reads' r6).2.2 hb⟩

set_option maxHeartbeats 8000000 in
theorem lawAll_true (k : Nat) (n : S26) (A4 : Option Addr) (c4 : Nat) (A6 : Option Addr) (c6 : Nat) (w : World) (hf : arboristref42_Few.f k n.f0 n.f1 n.f2 n.f3 n.f4 n.f5 n.f6 80 = some true) (hO : OkT n)
    (hr4 : Kd.C k76 w A4 n.f4.length n.f4) (hc4 : n.f4.length ≤ c4) (hr6 : Kd.C k26 w A6 n.f6.length n.f6) (hc6 : n.f6.length ≤ c6) :
    Calls Try.prog 6 #[nodeV n A4 c4 A6 c6] w fun e w' => e = .returned (.bool true) ∧ Below w.heap.size w w' := by
  have hu26 := Try.underlying26
  obtain ⟨ob, hob⟩ : ∃ ob, ob = Obj.cells #[.int .i64 n.f0, .int .i64 n.f1, .int .i64 n.f2, .int .i64 n.f3, .slice A4 n.f4.length c4, .string n.f5, .slice A6 n.f6.length c6] 26 := ⟨_, rfl⟩
  have hB1 : Below w.heap.size w (w.alloc ob) := below_alloc (Below.refl _ _) _
  have hN1 : NodeB n A4 c4 A6 c6 w.heap.size (w.alloc ob) := ⟨by rw [hob]; exact blk_new _ _, hc4, Kd.C_below hr4 hB1, hc6, Kd.C_below hr6 hB1⟩
  have hfew := arboristref42_Few.calls k n.f0 n.f1 n.f2 n.f3 A4 c4 n.f4 n.f5 A6 c6 n.f6 80 true _ hN1.g4 hN1.l4 hN1.g6 hN1.l6 hf
  replace hN1 := Aside0.mk hN1
  replace hB1 := Aside0.mk hB1
  replace hfew := Aside0.mk hfew
  replace hO := Aside0.mk hO
  subst hob
  clear hr4 hr6 hf
  go_enter Try.func6, Try.ntmps6
  go_upto_region 3 with (go_at_call 7; refine hfew.out.mono ?_; rintro e w2 ⟨rfl, hb2⟩; replace hb2 := Aside0.mk hb2)
  have hN2 := hN1.out.below hb2.out
  have hB2 := below_step hB1.out hb2.out
  obtain ⟨x0, x1, x2, x3, x4, x5, x6⟩ := hN2.cells
  replace hN2 := Aside0.mk hN2
  replace hB2 := Aside0.mk hB2
  go_wp2_with (go_at_call 9; refine (new_cur hO.out w2 hN2.out.l4 hN2.out.g4 hN2.out.l6 hN2.out.g6).mono ?_; rintro e w3 ⟨g, rfl, hC3⟩; replace hC3 := Aside0.mk hC3)
  obtain ⟨od, hod⟩ := ord_head hO.out.sm
  have hw2 : w.heap.size < w2.heap.size := World.block_lt_of_cell? _ _ x0
  have hlen0 : ([] : List (List Int)).length + 1 + od.length = cnt 100 n := by
    obtain ⟨y, hy⟩ := place hO.out (A := []) hod
    exact hy.len
  replace hod := Aside0.mk hod
  clear x0 x1 x2 x3 x4 x5 x6
  go_loopg [4, 5, 6] (od.length + 1) (fun mm u4 u5 u6 wr => ∃ (A : List (List Int)) (p : List Int) (B : List (List Int)) (more : Bool) (j : Nat), u6 = .bool more ∧ u4 = .int .i64 (j : Int) ∧ u5 = .int .i64 (lenL ((pre 100 n).take j) : Int) ∧ Aside0 (ord 100 n = A ++ p :: B ∧ Cur w2.heap.size g w2 (curP 100 n p) wr ∧ (if more = true then j = A.length ∧ mm = B.length + 1 else j = A.length + 1 ∧ B = [] ∧ mm = 0)))
  case atStart => exact ⟨[], [], od, true, 0, rfl, rfl, rfl, ⟨hod.out, hC3.out, by rw [if_pos rfl]; exact ⟨rfl, rfl⟩⟩⟩
  case round =>
    obtain ⟨A, p, B, more, j, rfl, rfl, rfl, hv⟩ := hrel
    obtain ⟨hord, hC, hmm⟩ := hv.out
    cases more with
    | true =>
      rw [if_pos rfl] at hmm
      obtain ⟨rfl, hmm⟩ := hmm
      obtain ⟨y, hP⟩ := place hO.out hord
      have hNr := hN2.out.below hC.bel
      obtain ⟨x0, x1, x2, x3, x4, x5, x6⟩ := hNr.cells
      have hgl : w.heap.size < wr.heap.size := World.block_lt_of_cell? _ _ x0
      have hj0 := lens_step hO.out hP.nth
      have hj63 : A.length < 100 := by have := hP.len; have := hO.out.ct; omega
      replace hNr := Aside0.mk hNr
      replace hP := Aside0.mk hP
      replace hC := Aside0.mk hC
      replace hord := Aside0.mk hord
      replace hj0 := Aside0.mk hj0
      replace hmm := Aside0.mk hmm
      go_upto_region 9 with (fail)
      go_cut [7, 8] (fun v7 v8 wc => ∃ (g7 : Nat) (B4 : Option Addr) (d4 : Nat) (B6 : Option Addr) (d6 : Nat), v7 = .pointer (some ⟨g7, 0, none⟩) ∧ v8 = .bool true ∧ Aside0 (NodeB y B4 d4 B6 d6 g7 wc ∧ Below wr.heap.size wr wc))
      case first =>
        have hS0 : Below wr.heap.size wr wr := Below.refl _ _
        have L0 := Nat.le_refl wr.heap.size
        have hSof : ∀ w', Below wr.heap.size wr w' → (Below wr.heap.size wr w' ∧ w'.cell? ⟨w.heap.size, 0, none⟩ = some (.int .i64 n.f0) ∧ w'.cell? ⟨w.heap.size, 1, none⟩ = some (.int .i64 n.f1) ∧ w'.cell? ⟨w.heap.size, 2, none⟩ = some (.int .i64 n.f2) ∧ w'.cell? ⟨w.heap.size, 3, none⟩ = some (.int .i64 n.f3) ∧ w'.cell? ⟨w.heap.size, 4, none⟩ = some (.slice A4 n.f4.length c4) ∧ w'.cell? ⟨w.heap.size, 5, none⟩ = some (.string n.f5) ∧ w'.cell? ⟨w.heap.size, 6, none⟩ = some (.slice A6 n.f6.length c6)) := fun w' hb => ⟨hb, (hb.cell hgl).trans x0, (hb.cell hgl).trans x1, (hb.cell hgl).trans x2, (hb.cell hgl).trans x3, (hb.cell hgl).trans x4, (hb.cell hgl).trans x5, (hb.cell hgl).trans x6⟩
        replace hSof := Aside0.mk hSof
        go_region_held3 (fun w' => Below wr.heap.size wr w' ∧ w'.cell? ⟨w.heap.size, 0, none⟩ = some (.int .i64 n.f0) ∧ w'.cell? ⟨w.heap.size, 1, none⟩ = some (.int .i64 n.f1) ∧ w'.cell? ⟨w.heap.size, 2, none⟩ = some (.int .i64 n.f2) ∧ w'.cell? ⟨w.heap.size, 3, none⟩ = some (.int .i64 n.f3) ∧ w'.cell? ⟨w.heap.size, 4, none⟩ = some (.slice A4 n.f4.length c4) ∧ w'.cell? ⟨w.heap.size, 5, none⟩ = some (.string n.f5) ∧ w'.cell? ⟨w.heap.size, 6, none⟩ = some (.slice A6 n.f6.length c6))
          ((refine hSof.out _ ?_; repeat (first | (with_reducible exact S5) | (with_reducible exact S4) | (with_reducible exact hS0) | (with_reducible refine below_drew ?_) | (with_reducible refine below_alloc ?_ _) | (with_reducible refine below_set ?_ (by first | exact L4 | exact L0)))))
          ((first
            | (go_at_call 13; refine ((hC.out.below (‹Below wr.heap.size wr _ ∧ _›).1).pathB hP.out.ok).mono ?_; rintro e w4 ⟨Ap, cp, rfl, pl, pC, hb4⟩; (try (first | (have hz4 := Aside0.mk (blk_below (blk_new _ (.cells #[.int .i64 0, .int .i64 0, .int .i64 0, .int .i64 0, .slice none 0 0, .string ⟨#[]⟩, .slice none 0 0] 26)) hb4)) | (have hz4 := Aside0.mk (blk_below (blk_drew (blk_new _ (.cells #[.int .i64 0, .int .i64 0, .int .i64 0, .int .i64 0, .slice none 0 0, .string ⟨#[]⟩, .slice none 0 0] 26))) hb4)))); have S4 := below_step (‹Below wr.heap.size wr _ ∧ _›).1 hb4; have L4 := S4.size; replace hb4 := Aside0.mk hb4; replace pC := Aside0.mk pC; replace pl := Aside0.mk pl)
            | (go_at_call 19; refine (get_calls hO.out hP.out.get hNr.out.l4 (Kd.C_below hNr.out.g4 (‹Below wr.heap.size wr _ ∧ _›).1) hNr.out.l6 (Kd.C_below hNr.out.g6 (‹Below wr.heap.size wr _ ∧ _›).1) (by repeat (first | exact pC.out | refine Kd.C_alloc ?_ _)) pl.out).mono ?_; rintro e w5 ⟨B4, d4, B6, d6, rfl, h4, h6, hb5⟩; (try (first | (have hz5 := blk_below hz4.out hb5) | (have hz5 := blk_below (blk_new _ (.cells #[.int .i64 0, .int .i64 0, .int .i64 0, .int .i64 0, .slice none 0 0, .string ⟨#[]⟩, .slice none 0 0] 26)) hb5)); have b0 := (blk_cell hz5 0).trans rfl; have f0 := blk_frozen hz5 0; have b1 := (blk_cell hz5 1).trans rfl; have f1 := blk_frozen hz5 1; have b2 := (blk_cell hz5 2).trans rfl; have f2 := blk_frozen hz5 2; have b3 := (blk_cell hz5 3).trans rfl; have f3 := blk_frozen hz5 3; have b4 := (blk_cell hz5 4).trans rfl; have f4 := blk_frozen hz5 4; have b5 := (blk_cell hz5 5).trans rfl; have f5 := blk_frozen hz5 5; have b6 := (blk_cell hz5 6).trans rfl; have f6 := blk_frozen hz5 6; replace hz5 := Aside0.mk hz5); have S5 := below_step (‹Below wr.heap.size wr _ ∧ _›).1 hb5; replace hb5 := Aside0.mk hb5; replace h4 := Aside0.mk h4; replace h6 := Aside0.mk h6)))
        · rename_i hHeld
          go_step
          go_step
          go_meet
          case rel => exact ⟨_, _, _, _, _, rfl, rfl, ⟨.laid h4.out h6.out, hHeld.1⟩⟩
        · rename_i hHeld
          go_step
          go_step
          go_meet
          case rel => exact ⟨_, _, _, _, _, rfl, rfl, ⟨.made hz5.out (by simp) h4.out h6.out, hHeld.1⟩⟩
        · rename_i hHeld
          go_step
          go_step
          go_meet
          case rel => exact ⟨_, _, _, _, _, rfl, rfl, ⟨.made hz5.out (blk_lt hz4.out) h4.out h6.out, hHeld.1⟩⟩
      obtain ⟨g7, B4, d4, B6, d6, rfl, rfl, hv7⟩ := hcut
      have hCc := hC.out.below hv7.out.2
      have hNc := hNr.out.below hv7.out.2
      have hYc := hv7.out.1
      have hBc := hv7.out.2
      clear x0 x1 x2 x3 x4 x5 x6 hv7 hv
      obtain ⟨x0, x1, x2, x3, x4, x5, x6⟩ := hNc.cells
      obtain ⟨z0, z1, z2, z3, z4, z5, z6⟩ := hYc.cells
      have hgl2 : w.heap.size < wc.heap.size := World.block_lt_of_cell? _ _ x0
      have hg7 : g7 < wc.heap.size := World.block_lt_of_cell? _ _ z0
      have hgt : decide ((A.length : Int) > (cnt 100 n : Int)) = false := decide_eq_false (by have := hP.out.len; omega)
      have hgt2 : decide ((cnt 100 n : Int) < (A.length : Int)) = false := hgt
      have hgt3 : decide (cnt 100 n < A.length) = false := decide_eq_false (by have := hP.out.len; omega)
      replace hCc := Aside0.mk hCc
      replace hNc := Aside0.mk hNc
      replace hYc := Aside0.mk hYc
      replace hBc := Aside0.mk hBc
      have hS0 : Below wc.heap.size wc wc := Below.refl _ _
      have hSof : ∀ w', Below wc.heap.size wc w' → (Below wc.heap.size wc w' ∧ w'.cell? ⟨w.heap.size, 0, none⟩ = some (.int .i64 n.f0) ∧ w'.cell? ⟨w.heap.size, 1, none⟩ = some (.int .i64 n.f1) ∧ w'.cell? ⟨w.heap.size, 2, none⟩ = some (.int .i64 n.f2) ∧ w'.cell? ⟨w.heap.size, 3, none⟩ = some (.int .i64 n.f3) ∧ w'.cell? ⟨w.heap.size, 4, none⟩ = some (.slice A4 n.f4.length c4) ∧ w'.cell? ⟨w.heap.size, 5, none⟩ = some (.string n.f5) ∧ w'.cell? ⟨w.heap.size, 6, none⟩ = some (.slice A6 n.f6.length c6) ∧ w'.cell? ⟨g7, 0, none⟩ = some (.int .i64 y.f0) ∧ w'.cell? ⟨g7, 1, none⟩ = some (.int .i64 y.f1) ∧ w'.cell? ⟨g7, 2, none⟩ = some (.int .i64 y.f2) ∧ w'.cell? ⟨g7, 3, none⟩ = some (.int .i64 y.f3) ∧ w'.cell? ⟨g7, 4, none⟩ = some (.slice B4 y.f4.length d4) ∧ w'.cell? ⟨g7, 5, none⟩ = some (.string y.f5) ∧ w'.cell? ⟨g7, 6, none⟩ = some (.slice B6 y.f6.length d6)) := fun w' hb => ⟨hb, (hb.cell hgl2).trans x0, (hb.cell hgl2).trans x1, (hb.cell hgl2).trans x2, (hb.cell hgl2).trans x3, (hb.cell hgl2).trans x4, (hb.cell hgl2).trans x5, (hb.cell hgl2).trans x6, (hb.cell hg7).trans z0, (hb.cell hg7).trans z1, (hb.cell hg7).trans z2, (hb.cell hg7).trans z3, (hb.cell hg7).trans z4, (hb.cell hg7).trans z5, (hb.cell hg7).trans z6⟩
      replace hSof := Aside0.mk hSof
      go_upto_region 10 with (fail)
      go_region_held3 (fun w' => Below wc.heap.size wc w' ∧ w'.cell? ⟨w.heap.size, 0, none⟩ = some (.int .i64 n.f0) ∧ w'.cell? ⟨w.heap.size, 1, none⟩ = some (.int .i64 n.f1) ∧ w'.cell? ⟨w.heap.size, 2, none⟩ = some (.int .i64 n.f2) ∧ w'.cell? ⟨w.heap.size, 3, none⟩ = some (.int .i64 n.f3) ∧ w'.cell? ⟨w.heap.size, 4, none⟩ = some (.slice A4 n.f4.length c4) ∧ w'.cell? ⟨w.heap.size, 5, none⟩ = some (.string n.f5) ∧ w'.cell? ⟨w.heap.size, 6, none⟩ = some (.slice A6 n.f6.length c6) ∧ w'.cell? ⟨g7, 0, none⟩ = some (.int .i64 y.f0) ∧ w'.cell? ⟨g7, 1, none⟩ = some (.int .i64 y.f1) ∧ w'.cell? ⟨g7, 2, none⟩ = some (.int .i64 y.f2) ∧ w'.cell? ⟨g7, 3, none⟩ = some (.int .i64 y.f3) ∧ w'.cell? ⟨g7, 4, none⟩ = some (.slice B4 y.f4.length d4) ∧ w'.cell? ⟨g7, 5, none⟩ = some (.string y.f5) ∧ w'.cell? ⟨g7, 6, none⟩ = some (.slice B6 y.f6.length d6))
        ((refine hSof.out _ ?_; repeat (first | (with_reducible exact S4) | (with_reducible exact S3) | (with_reducible exact S2) | (with_reducible exact S1) | (with_reducible exact hS0) | (with_reducible refine below_drew ?_) | (with_reducible refine below_alloc ?_ _))))
        ((first
          | (go_at_call 17; refine ((hCc.out.below (‹Below wc.heap.size wc _ ∧ _›).1).nodeB hP.out.ok (Classical.choose hP.out.sm) hP.out.now (small_clone _ _ (Classical.choose_spec hP.out.sm))).mono ?_; rintro e w5 ⟨E4, e4, E6, e6, rfl, l4, r4, l6, r6, hb5⟩; have S1 := below_step (‹Below wc.heap.size wc _ ∧ _›).1 hb5; replace hb5 := Aside0.mk hb5; replace l4 := Aside0.mk l4; replace r4 := Aside0.mk r4; replace l6 := Aside0.mk l6; replace r6 := Aside0.mk r6)
          | (go_at_call 16; refine (same_calls hP.out.sm hYc.out.l4 (Kd.C_below hYc.out.g4 (‹Below wc.heap.size wc _ ∧ _›).1) hYc.out.l6 (Kd.C_below hYc.out.g6 (‹Below wc.heap.size wc _ ∧ _›).1) l4.out r4.out l6.out r6.out).mono ?_; rintro e w6 ⟨rfl, hb6⟩; have S2 := below_step (‹Below wc.heap.size wc _ ∧ _›).1 hb6; replace hb6 := Aside0.mk hb6)
          | (go_at_call 14; refine ((hCc.out.below (‹Below wc.heap.size wc _ ∧ _›).1).atB hP.out.ok).mono ?_; rw [hP.out.at_]; rintro e w7 ⟨rfl, hb7⟩; have S3 := below_step (‹Below wc.heap.size wc _ ∧ _›).1 hb7; replace hb7 := Aside0.mk hb7)
          | (go_at_call 28; refine (size_calls 100 n A4 c4 A6 c6 _ _ (Kd.C_below hNc.out.g4 (‹Below wc.heap.size wc _ ∧ _›).1) hNc.out.l4 (Kd.C_below hNc.out.g6 (‹Below wc.heap.size wc _ ∧ _›).1) hNc.out.l6 (size_ok hO.out)).mono ?_; rintro e w8 ⟨rfl, hb8⟩; have S4 := below_step (‹Below wc.heap.size wc _ ∧ _›).1 hb8; replace hb8 := Aside0.mk hb8)))
      rename_i hHeld
      go_upto_region 12 with (fail)
      have hC8 := hCc.out.below hHeld.1
      have hN8 := hNc.out.below hHeld.1
      have hY8 := hYc.out.below hHeld.1
      clear x0 x1 x2 x3 x4 x5 x6 z0 z1 z2 z3 z4 z5 z6 hgt hgt2 hgt3 S1 S2 S3 S4 hS0 hHeld
      obtain ⟨z0, z1, z2, z3, z4, z5, z6⟩ := hY8.cells
      have hown := refOwn_calls hP.out.lead hP.out.txt hY8.l4 hY8.g4 hY8.l6 hY8.g6
      obtain ⟨os, hos⟩ : ∃ os, ownT y = os := ⟨_, rfl⟩
      have hsz : os.size = textLen y := by rw [← hos]; exact ownT_size y
      rw [hos] at hown
      have hw1 : IntKind.i64.wrap ((lenL ((pre 100 n).take A.length) : Int) + (os.size : Int)) = (lenL ((pre 100 n).take (A.length + 1)) : Int) := by
        have h1 := hj0.out
        have h2 := hO.out.tt
        rw [IntKind.wrap_i64]
        omega
      have hw2 : IntKind.i64.wrap ((A.length : Int) + 1) = ((A.length + 1 : Nat) : Int) := by rw [IntKind.wrap_i64]; omega
      replace hC8 := Aside0.mk hC8
      replace hown := Aside0.mk hown
      clear hY8 hN8 hos hsz
      have hpl := hP.out.next
      replace hpl := Aside0.mk hpl
      cases B with
      | cons q B' =>
        go_wp2_with (first
          | (go_at_call 27; refine hown.out.mono ?_; rintro e w9 ⟨rfl, hb9⟩; have hC9 := hC8.out.below hb9; replace hC9 := Aside0.mk hC9; clear hb9)
          | (go_at_call 23; refine (hC9.out.next 100 _ _ hpl.out).mono ?_; rintro e w10 ⟨rfl, hC10⟩; replace hC10 := Aside0.mk hC10))
        go_roundg (B'.length + 1)
        case measure => have := hmm.out; simp at this; omega
        case rel => exact ⟨A ++ [p], q, B', true, A.length + 1, rfl, rfl, rfl, ⟨by rw [hord.out, List.append_assoc]; rfl, hC10.out, by rw [if_pos rfl]; exact ⟨by simp, rfl⟩⟩⟩
      | nil =>
        go_wp2_with (first
          | (go_at_call 27; refine hown.out.mono ?_; rintro e w9 ⟨rfl, hb9⟩; have hC9 := hC8.out.below hb9; replace hC9 := Aside0.mk hC9; clear hb9)
          | (go_at_call 23; refine (hC9.out.next 100 _ _ hpl.out).mono ?_; rintro e w10 ⟨rfl, hC10⟩; replace hC10 := Aside0.mk hC10))
        go_roundg 0
        case measure => have := hmm.out; simp at this; omega
        case rel => exact ⟨A, p, [], false, A.length + 1, rfl, rfl, rfl, ⟨hord.out, hC10.out, by rw [if_neg (by simp)]; exact ⟨rfl, rfl, rfl⟩⟩⟩
    | false =>
      rw [if_neg (by simp)] at hmm
      obtain ⟨rfl, rfl, hmm⟩ := hmm
      obtain ⟨y, hP⟩ := place hO.out hord
      have hcnt : A.length + 1 = cnt 100 n := hP.len
      have hc80 := hO.out.ct
      rw [hcnt, lens_all hO.out]
      replace hP := Aside0.mk hP
      replace hC := Aside0.mk hC
      replace hord := Aside0.mk hord
      replace hmm := Aside0.mk hmm
      replace hcnt := Aside0.mk hcnt
      clear hv
      obtain ⟨kk, hkk⟩ : ∃ kk, kk = gk := ⟨gk, rfl⟩
      subst hkk
      obtain ⟨wa, hwa⟩ : ∃ wa, wa = wr := ⟨wr, rfl⟩
      subst hwa
      obtain ⟨cn, hcn⟩ : ∃ cn, cnt 100 n = cn := ⟨_, rfl⟩
      obtain ⟨tn, htn⟩ : ∃ tn, tot 100 n = tn := ⟨_, rfl⟩
      rw [hcn] at hc80 hcnt ⊢
      rw [htn]
      replace hcn := Aside0.mk hcn
      replace htn := Aside0.mk htn
      go_wp2
      go_loopg [9] A.length (fun mm u9 wr2 => ∃ (A' : List (List Int)) (p' : List Int) (B' : List (List Int)) (b : Nat), u9 = .int .i64 (b : Int) ∧ Aside0 (ord 100 n = A' ++ p' :: B' ∧ Cur w2.heap.size g w2 (curP 100 n p') wr2 ∧ mm = A'.length ∧ b = 1 + B'.length))
      case atStart => exact ⟨A, p, [], 1, rfl, ⟨hord.out, hC.out, rfl, rfl⟩⟩
      case round =>
        obtain ⟨A', p', B', b, rfl, hv2⟩ := hrel
        obtain ⟨hord2, hC2, hm2, hbB⟩ := hv2.out
        obtain ⟨y2, hP2⟩ := place hO.out hord2
        have hpv := hP2.prev
        have hlen2 := hP2.len
        rw [hcn.out] at hlen2
        rcases List.eq_nil_or_concat A' with hA2 | ⟨A2, q2, hA2⟩
        · subst hA2
          obtain ⟨hp', _⟩ : p' = [] ∧ True := by
            obtain ⟨l0, hl0⟩ := ord_head hO.out.sm
            rw [hl0] at hord2
            exact ⟨(List.cons.inj hord2).1.symm, trivial⟩
          subst hp'
          obtain rfl : b = cn := by simp at hlen2; omega
          have hok2 := hP2.ok
          have htn' := htn.out
          have hcn' := hcn.out
          have hN2' := hN2.out
          replace hpv := Aside0.mk hpv
          replace hC2 := Aside0.mk hC2
          clear hv2 hP2 hord2 hm2 hbB hlen2
          go_upto_region 18 with (go_at_call 24; refine (hC2.out.prev 100 100 _ _ hpv.out).mono ?_; rintro e w10 ⟨rfl, hC10⟩; replace hC10 := Aside0.mk hC10)
          have hN10 := hN2.out.below hC10.out.bel
          obtain ⟨x0, x1, x2, x3, x4, x5, x6⟩ := hN10.cells
          have hsz10 := size_calls 100 n A4 c4 A6 c6 _ w10 hN10.g4 hN10.l4 hN10.g6 hN10.l6 (size_ok hO.out)
          rw [hcn'] at hsz10
          replace hsz10 := Aside0.mk hsz10
          replace hN10 := Aside0.mk hN10
          go_wp2_with (first
            | (go_at_call 28; refine hsz10.out.mono ?_; rintro e w11 ⟨rfl, hb11⟩; have hN11 := hN10.out.below hb11; have hC11 := hC10.out.below hb11; obtain ⟨z0, z1, z2, z3, z4, z5, z6⟩ := hN11.cells; have hln := len_calls 100 n A4 c4 A6 c6 _ w11 hN11.g4 hN11.l4 hN11.g6 hN11.l6 (len_ok hO.out); rw [htn'] at hln; replace hln := Aside0.mk hln; replace hC11 := Aside0.mk hC11; replace hN11 := Aside0.mk hN11; clear hb11)
            | (go_at_call 29; refine hln.out.mono ?_; rintro e w12 ⟨rfl, hb12⟩; have hC12 := hC11.out.below hb12; replace hC12 := Aside0.mk hC12; clear hb12)
            | (go_at_call 13; refine (hC12.out.pathB hok2).mono ?_; rintro e w13 ⟨Ap, cp, rfl, pl, pC, hb13⟩; have hC13 := hC12.out.below hb13; replace hC13 := Aside0.mk hC13; clear pl pC hb13)
            | (go_at_call 8; refine (knows_calls _).mono ?_; rintro e w14 ⟨rfl, hb14⟩; have hC14 := hC13.out.below hb14; replace hC14 := Aside0.mk hC14; clear hb14))
          go_ret
          exact ⟨rfl, hB2.out.trans (hC14.out.bel.mono hB2.out.size)⟩
        · rw [List.concat_eq_append] at hA2
          subst hA2
          rw [List.getLast?_concat] at hpv
          have hble : b ≤ cn := by simp at hlen2; omega
          have hb1 : decide ((b : Int) ≤ (cn : Int)) = true := decide_eq_true (by omega)
          have hb2 : decide (b ≤ cn) = true := decide_eq_true hble
          have hw1 : IntKind.i64.wrap ((b : Int) + 1) = ((b + 1 : Nat) : Int) := by rw [IntKind.wrap_i64]; omega
          replace hbB := Aside0.mk hbB
          replace hpv := Aside0.mk hpv
          replace hC2 := Aside0.mk hC2
          replace hlen2 := Aside0.mk hlen2
          replace hm2 := Aside0.mk hm2
          replace hord2 := Aside0.mk hord2
          clear hv2 hP2
          go_wp2_with (go_at_call 24; refine (hC2.out.prev 100 100 _ _ hpv.out).mono ?_; rintro e w10 ⟨rfl, hC10⟩; replace hC10 := Aside0.mk hC10)
          go_roundg A2.length
          case measure => have := hm2.out; simp at this; omega
          case rel => exact ⟨A2, q2, p' :: B', b + 1, rfl, ⟨by rw [hord2.out, List.append_assoc]; rfl, hC10.out, rfl, by have := hbB.out; simp; omega⟩⟩

set_option maxHeartbeats 8000000 in
theorem lawAll_false (k : Nat) (n : S26) (A4 : Option Addr) (c4 : Nat) (A6 : Option Addr) (c6 : Nat) (w : World) (hf : arboristref42_Few.f k n.f0 n.f1 n.f2 n.f3 n.f4 n.f5 n.f6 80 = some false)
    (hr4 : Kd.C k76 w A4 n.f4.length n.f4) (hc4 : n.f4.length ≤ c4) (hr6 : Kd.C k26 w A6 n.f6.length n.f6) (hc6 : n.f6.length ≤ c6) :
    Calls Try.prog 6 #[nodeV n A4 c4 A6 c6] w fun e w' => e = .returned (.bool true) ∧ Below w.heap.size w w' := by
  have hu26 := Try.underlying26
  obtain ⟨ob, hob⟩ : ∃ ob, ob = Obj.cells #[.int .i64 n.f0, .int .i64 n.f1, .int .i64 n.f2, .int .i64 n.f3, .slice A4 n.f4.length c4, .string n.f5, .slice A6 n.f6.length c6] 26 := ⟨_, rfl⟩
  have hB1 : Below w.heap.size w (w.alloc ob) := below_alloc (Below.refl _ _) _
  have hN1 : NodeB n A4 c4 A6 c6 w.heap.size (w.alloc ob) := ⟨by rw [hob]; exact blk_new _ _, hc4, Kd.C_below hr4 hB1, hc6, Kd.C_below hr6 hB1⟩
  have hfew := arboristref42_Few.calls k n.f0 n.f1 n.f2 n.f3 A4 c4 n.f4 n.f5 A6 c6 n.f6 80 false _ hN1.g4 hN1.l4 hN1.g6 hN1.l6 hf
  replace hB1 := Aside0.mk hB1
  replace hfew := Aside0.mk hfew
  subst hob
  clear hr4 hr6 hf hN1
  go_enter Try.func6, Try.ntmps6
  go_wp2_with (first
    | (go_at_call 7; refine hfew.out.mono ?_; rintro e w2 ⟨rfl, hb2⟩; replace hb2 := Aside0.mk hb2)
    | (go_at_call 8; refine (knows_calls _).mono ?_; rintro e w3 ⟨rfl, hb3⟩; replace hb3 := Aside0.mk hb3))
  go_ret
  exact ⟨rfl, below_step (below_step hB1.out hb2.out) hb3.out⟩
end Go.Proofs.Ytfekpmbecoeijaa.Hand

/- A cursor, and the paths that were taken of it. -/
namespace Go.Proofs.Ytfekpmbecoeijaa.Hand
open Go.RowKit Go.Proofs.YtfekpmbecoeijaaW.PrintWords Go.Proofs.YtfekpmbecoeijaaW.PrintLast Go.Proofs.YtfekpmbecoeijaaW.PrintMore Go.Proofs.Ytfekpmbecoeijaa.Q Go.Proofs.Ytfekpmbecoeijaa.RF Go.Proofs.Ytfekpmbecoeijaa.Pure
set_option linter.unusedVariables false
set_option linter.unusedSimpArgs false
set_option maxRecDepth 100000

/-- A path in memory. -/
structure Pth where
  A : Option Addr
  cp : Nat
  p : List Int
abbrev Pth.v (r : Pth) : Value := .slice r.A r.p.length r.cp
/-- A cursor; the blocks below B stand; so do the paths. -/
def Held (B g : Nat) (w0 : World) (rs : List Pth) (c : Cu) (w : World) : Prop :=
  ∃ v1 v2 v3, CurW B g v1 v2 v3 c w ∧ Below B w0 w ∧ B ≤ w.heap.size ∧ ∀ r ∈ rs, r.p.length ≤ r.cp ∧ Kd.F (Kd.int .i64) w (fun k => ¬ Mine g v1 v2 v3 k) r.A r.p.length r.p
section
variable {B g : Nat} {w0 w w' : World} {c c' : Cu} {rs rs' : List Pth}
theorem Held.of (h : Cur B g w0 c w) : Held B g w0 [] c w := by
  obtain ⟨v1, v2, v3, h1, h2, h3⟩ := h
  exact ⟨v1, v2, v3, h1, h2, h3, fun r hr => by cases hr⟩
theorem Held.cur (h : Held B g w0 rs c w) : Cur B g w0 c w := by
  obtain ⟨v1, v2, v3, h1, h2, h3, _⟩ := h
  exact ⟨v1, v2, v3, h1, h2, h3⟩
theorem Held.only (h : Held B g w0 rs c w) (hs : ∀ r ∈ rs', r ∈ rs) : Held B g w0 rs' c w := by
  obtain ⟨v1, v2, v3, h1, h2, h3, h4⟩ := h
  exact ⟨v1, v2, v3, h1, h2, h3, fun r hr => h4 r (hs r hr)⟩
theorem Held.below (h : Held B g w0 rs c w) (hb : Below w.heap.size w w') : Held B g w0 rs c w' := by
  obtain ⟨v1, v2, v3, h1, h2, h3, h4⟩ := h
  exact ⟨v1, v2, v3, h1.below hb, h2.trans (hb.mono h3), Nat.le_trans h3 hb.size, fun r hr => ⟨(h4 r hr).1, Kd.F_below (h4 r hr).2 hb⟩⟩
theorem Held.moved {v1 v2 v3 : Value} (h1 : CurW B g v1 v2 v3 c w) (h2 : Below B w0 w) (h3 : B ≤ w.heap.size) (h4 : ∀ r ∈ rs, r.p.length ≤ r.cp ∧ Kd.F (Kd.int .i64) w (fun k => ¬ Mine g v1 v2 v3 k) r.A r.p.length r.p) (h : Moved B g v1 v2 v3 w c' w') : Held B g w0 rs c' w' := by
  obtain ⟨u1, u2, u3, hG, hC, hm⟩ := h
  refine ⟨u1, u2, u3, hC, hG.below_then h2 h3 (fun k hk hm => by have := (Mine.ge h1 hm).1; omega), Nat.le_trans h3 hG.size, fun r hr => ⟨(h4 r hr).1, ?_⟩⟩
  refine Kd.F_mono (Kd.F_step (Kd.F_bound (h4 r hr).2) (fun k hk hlt => hG.block k hlt hk.1)) (fun k hk hmk => ?_)
  rcases hm k hmk with h | h
  · exact hk.1 h
  · have := hk.2; omega
theorem Held.leaf (h : Held B g w0 rs c w) (fu sz : Nat) (at_ : Int) (b : Bool) (c' : Cu) (hf : leafF fu sz c at_ = some (b, c')) :
    Calls Try.prog 26 #[.pointer (some ⟨g, 0, none⟩), .int .i64 at_] w fun e w' => e = .returned (.bool b) ∧ Held B g w0 rs c' w' := by
  obtain ⟨v1, v2, v3, h1, h2, h3, h4⟩ := h
  refine (Leaf_F h1 h3 fu sz at_ b c' hf).mono ?_
  rintro e w' ⟨rfl, hm⟩
  exact ⟨rfl, .moved h1 h2 h3 h4 hm⟩
theorem Held.next (h : Held B g w0 rs c w) (fu : Nat) (b : Bool) (c' : Cu) (hf : nextF fu c = some (b, c')) :
    Calls Try.prog 23 #[.pointer (some ⟨g, 0, none⟩)] w fun e w' => e = .returned (.bool b) ∧ Held B g w0 rs c' w' := by
  obtain ⟨v1, v2, v3, h1, h2, h3, h4⟩ := h
  refine (Next_calls h1 h3 fu b c' hf).mono ?_
  rintro e w' ⟨rfl, hm⟩
  exact ⟨rfl, .moved h1 h2 h3 h4 hm⟩
theorem Held.prev (h : Held B g w0 rs c w) (fu sz : Nat) (b : Bool) (c' : Cu) (hf : prevF fu sz c = some (b, c')) :
    Calls Try.prog 24 #[.pointer (some ⟨g, 0, none⟩)] w fun e w' => e = .returned (.bool b) ∧ Held B g w0 rs c' w' := by
  obtain ⟨v1, v2, v3, h1, h2, h3, h4⟩ := h
  refine (Prev_calls h1 h3 fu sz b c' hf).mono ?_
  rintro e w' ⟨rfl, hm⟩
  exact ⟨rfl, .moved h1 h2 h3 h4 hm⟩
theorem Held.down (h : Held B g w0 rs c w) (fu : Nat) (i : Int) (b : Bool) (c' : Cu) (hf : downF fu c i = some (b, c')) :
    Calls Try.prog 21 #[.pointer (some ⟨g, 0, none⟩), .int .i64 i] w fun e w' => e = .returned (.bool b) ∧ Held B g w0 rs c' w' := by
  obtain ⟨v1, v2, v3, h1, h2, h3, h4⟩ := h
  refine (Down_calls h1 h3 fu i b c' hf).mono ?_
  rintro e w' ⟨rfl, hm⟩
  exact ⟨rfl, .moved h1 h2 h3 h4 hm⟩
theorem Held.up (h : Held B g w0 rs c w) (hk : c.ok) (m : Nat) (hm : c.ps.length = m + 1) (hc : c.up = c') :
    Calls Try.prog 22 #[.pointer (some ⟨g, 0, none⟩)] w fun e w' => e = .returned (.bool true) ∧ Held B g w0 rs c' w' := by
  subst hc
  obtain ⟨v1, v2, v3, h1, h2, h3, h4⟩ := h
  refine (Up_calls h1 hk m hm).mono ?_
  rintro e w' ⟨rfl, hm⟩
  exact ⟨rfl, .moved h1 h2 h3 h4 hm⟩
theorem Held.upNone (h : Held B g w0 rs c w) (hm : c.ps.length = 0) :
    Calls Try.prog 22 #[.pointer (some ⟨g, 0, none⟩)] w fun e w' => e = .returned (.bool false) ∧ Held B g w0 rs c w' := by
  obtain ⟨v1, v2, v3, h1, h2, h3, h4⟩ := h
  refine (Up_none h1 hm).mono ?_
  rintro e w' ⟨rfl, rfl⟩
  exact ⟨rfl, v1, v2, v3, h1, h2, h3, h4⟩
theorem Held.at_ (h : Held B g w0 rs c w) (hk : c.ok) {a : Int} (ha : c.at_ = a) : Calls Try.prog 14 #[.pointer (some ⟨g, 0, none⟩)] w fun e w' => e = .returned (.int .i64 a) ∧ Held B g w0 rs c w' := by
  subst ha
  refine (h.cur.atB hk).mono ?_
  rintro e w' ⟨rfl, hb⟩
  exact ⟨rfl, h.below hb⟩
/-- The path is taken, and held. -/
theorem Held.path (h : Held B g w0 rs c w) (hk : c.ok) {p : List Int} (hp : c.ps = p) : Calls Try.prog 13 #[.pointer (some ⟨g, 0, none⟩)] w fun e w' => ∃ A cp, e = .returned (.slice A p.length cp) ∧ Held B g w0 (⟨A, cp, p⟩ :: rs) c w' := by
  subst hp
  obtain ⟨v1, v2, v3, h1, h2, h3, h4⟩ := h
  refine (path_calls h1 (by have := hk.2.2; omega)).mono ?_
  rintro e w' ⟨v, rfl, hR, hb⟩
  obtain ⟨A, cp, rfl⟩ := Kd.R_slice hR
  refine ⟨A, cp, rfl, v1, v2, v3, h1.below hb, h2.trans (hb.mono h3), Nat.le_trans h3 hb.size, fun r hr => ?_⟩
  rcases List.mem_cons.1 hr with rfl | hr
  · refine ⟨(Kd.R_reads' hR).2.1, Kd.R_F (Kd.R_mono (Kd.R_bound hR) (fun k hk hm => ?_))⟩
    have := (Mine.ge h1 hm).2
    have := hk.2.1
    omega
  · exact ⟨(h4 r hr).1, Kd.F_below (h4 r hr).2 hb⟩
theorem same_path (p : List Int) (hp : p.length < 1000000) : Ev (fun k => arboristref45_Same.f k p p) true := by
  have key : ∀ (q i : Nat), i + q = p.length → Ev (fun k => arboristref45_Same.l0 k p p (i : Int)) true := by
    intro q
    induction q with
    | zero =>
      intro i hi
      exact Ev.step (f := fun _ => some true) (fun k => by simp only [arboristref45_Same.l0]; rw [if_neg (by omega)]) (Ev.now _)
    | succ q ih =>
      intro i hi
      refine Ev.step (fun k => ?_) (ih (i + 1) (by omega))
      simp only [arboristref45_Same.l0]
      rw [if_pos (by omega), if_pos (by omega), if_pos (by omega), if_pos trivial, w64 (by omega) (by omega)]
      rfl
  unfold arboristref45_Same.f
  exact Ev.congr (fun k => if_pos rfl) (key p.length 0 (by omega))
/-- Two paths that are the same. -/
theorem Held.same {r1 r2 : Pth} (h : Held B g w0 rs c w) (h1 : r1 ∈ rs) (h2 : r2 ∈ rs) (he : r1.p = r2.p) (hl : r1.p.length < 1000000) :
    Calls Try.prog 12 #[.slice r1.A r1.p.length r1.cp, .slice r2.A r2.p.length r2.cp] w fun e w' => e = .returned (.bool true) ∧ Held B g w0 rs c w' := by
  obtain ⟨k, hk⟩ := (same_path r1.p hl).rounds
  have h' := h
  obtain ⟨v1, v2, v3, _, _, _, h4⟩ := h'
  obtain ⟨l1, f1⟩ := h4 r1 h1
  obtain ⟨l2, f2⟩ := h4 r2 h2
  refine (arboristref45_Same.calls k r1.A r1.cp r1.p r2.A r2.cp r2.p true w (Kd.F_now f1) l1 (Kd.F_now f2) l2 (by rw [← he]; exact hk)).mono ?_
  rintro e w' ⟨rfl, hd⟩
  exact ⟨rfl, h.below hd.below⟩
end
end Go.Proofs.Ytfekpmbecoeijaa.Hand
