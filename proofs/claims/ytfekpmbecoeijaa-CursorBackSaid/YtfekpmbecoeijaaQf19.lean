-- By this session's program plugprint.py, over the kit's print; Lean checks it.
import Derived.Test.YtfekpmbecoeijaaQ0
import Derived.Test.YtfekpmbecoeijaaQf32
namespace Go.Proofs.Ytfekpmbecoeijaa.Q
open Go.RowKit Go.Proofs.YtfekpmbecoeijaaW.PrintWords Go.Proofs.YtfekpmbecoeijaaW.PrintLast Go.Proofs.YtfekpmbecoeijaaW.PrintMore
attribute [local go_sem] max2_int min2_int max_two min_two max_three min_three max_four min_four   -- for this text's walks alone
set_option linter.unusedVariables false
set_option linter.unusedSimpArgs false

/-! ### cursor_Get: function 19 -/
def cursor_Get.l0 : Nat → List Int → Int → Int → Int → Int → Int → Int → List (S76) → ByteArray → List (S26) → Option (Int × Int × Int × Int × (List (S76)) × ByteArray × (List (S26)) × Bool)
  | 0, _, _, _, _, _, _, _, _, _, _ => none
  | k + 1, x8, x9, x10, x151000, x151001, x151002, x151003, x151004, x151005, x151006 => if x10 < x9 then (if 0 ≤ x10 then (if x10 < (x8.length : Int) then (if (rd x8 x10) < 0 then (some (0, 0, 0, 0, ([] : List (S76)), (⟨#[]⟩ : ByteArray), ([] : List (S26)), false)) else (if (rd x8 x10) ≥ (x151006.length : Int) then (some (0, 0, 0, 0, ([] : List (S76)), (⟨#[]⟩ : ByteArray), ([] : List (S26)), false)) else (if 0 ≤ (rd x8 x10) then (if (rd x8 x10) < (x151006.length : Int) then (cursor_Get.l0 k x8 x9 (wrap64 (x10 + 1)) ((rd_T26 x151006 (rd x8 x10)).f0) ((rd_T26 x151006 (rd x8 x10)).f1) ((rd_T26 x151006 (rd x8 x10)).f2) ((rd_T26 x151006 (rd x8 x10)).f3) ((rd_T26 x151006 (rd x8 x10)).f4) ((rd_T26 x151006 (rd x8 x10)).f5) ((rd_T26 x151006 (rd x8 x10)).f6)) else (none)) else (none)))) else (none)) else (none)) else ((cursor_clone.f k x151000 x151001 x151002 x151003 x151004 x151005 x151006).bind fun bt154 => (some (bt154.1, bt154.2.1, bt154.2.2.1, bt154.2.2.2.1, bt154.2.2.2.2.1, bt154.2.2.2.2.2.1, bt154.2.2.2.2.2.2, true)))
def cursor_Get.f (k : Nat) (a0_0 : Int) (a0_1 : Int) (a0_2 : Int) (a0_3 : Int) (l0_4 : List (S76)) (a0_5 : ByteArray) (l0_6 : List (S26)) (l1 : List Int) : Option (Int × Int × Int × Int × (List (S76)) × ByteArray × (List (S26)) × Bool) := cursor_Get.l0 k l1 (l1.length : Int) 0 a0_0 a0_1 a0_2 a0_3 l0_4 a0_5 l0_6
theorem cursor_Get.mono_l : ∀ k, (∀ y0 y1 y2 y3 y4 y5 y6 y7 y8 y9, LeO (cursor_Get.l0 k y0 y1 y2 y3 y4 y5 y6 y7 y8 y9) (cursor_Get.l0 (k + 1) y0 y1 y2 y3 y4 y5 y6 y7 y8 y9))
  | 0 => fun _ _ _ _ _ _ _ _ _ _ r h => by simp [cursor_Get.l0] at h
  | k + 1 => by
    have ih0 := cursor_Get.mono_l k
    · intro y0 y1 y2 y3 y4 y5 y6 y7 y8 y9
      unfold cursor_Get.l0
      repeat' first
      | (with_reducible exact ih0 _ _ _ _ _ _ _ _ _ _)
      | (with_reducible exact cursor_clone.mono _ _ _ _ _ _ _ _)
      | (with_reducible exact LeO.refl _)
      | (with_reducible exact LeO.none _)
      | (with_reducible refine LeO.ite ?_ ?_)
      | (with_reducible refine LeO.bind ?_ (fun _ => ?_))
      | exact ih0 _ _ _ _ _ _ _ _ _ _
      | exact cursor_clone.mono _ _ _ _ _ _ _ _
      | exact LeO.none _
      | refine LeO.ite ?_ ?_
      | refine LeO.bind ?_ (fun _ => ?_)
theorem cursor_Get.mono : ∀ a0 a1 a2 a3 a4 a5 a6 a7 k, LeO (cursor_Get.f k a0 a1 a2 a3 a4 a5 a6 a7) (cursor_Get.f (k + 1) a0 a1 a2 a3 a4 a5 a6 a7) := by
  intro a0 a1 a2 a3 a4 a5 a6 a7 k
  have ih0 := cursor_Get.mono_l k
  unfold cursor_Get.f
  repeat' first
      | (with_reducible exact ih0 _ _ _ _ _ _ _ _ _ _)
      | (with_reducible exact cursor_clone.mono _ _ _ _ _ _ _ _)
      | (with_reducible exact LeO.refl _)
      | (with_reducible exact LeO.none _)
      | (with_reducible refine LeO.ite ?_ ?_)
      | (with_reducible refine LeO.bind ?_ (fun _ => ?_))
      | exact ih0 _ _ _ _ _ _ _ _ _ _
      | exact cursor_clone.mono _ _ _ _ _ _ _ _
      | exact LeO.none _
      | refine LeO.ite ?_ ?_
      | refine LeO.bind ?_ (fun _ => ?_)
set_option maxHeartbeats 8000000 in
set_option maxRecDepth 100000 in
theorem cursor_Get.calls (k : Nat) (a0_0 : Int) (a0_1 : Int) (a0_2 : Int) (a0_3 : Int) (P0_4_ : Nat → Prop) (A0_4 : Option Addr) (c0_4 : Nat) (l0_4 : List (S76)) (a0_5 : ByteArray) (P0_6_ : Nat → Prop) (A0_6 : Option Addr) (c0_6 : Nat) (l0_6 : List (S26)) (A1 : Option Addr) (c1 : Nat) (l1 : List Int) (r1 : Int) (r2 : Int) (r3 : Int) (r4 : Int) (r5 : List (S76)) (r6 : ByteArray) (r7 : List (S26)) (r8 : Bool) (w : World) (hs0_4 : Kd.V k76 76 w w.heap.size (fun k_ => P0_4_ k_) (.slice A0_4 l0_4.length c0_4) l0_4) (hs0_6 : Kd.V k26 26 w w.heap.size (fun k_ => P0_6_ k_) (.slice A0_6 l0_6.length c0_6) l0_6) (hr1 : Kd.C (Kd.int .i64) w A1 l1.length l1) (hc1 : l1.length ≤ c1) (h : cursor_Get.f k a0_0 a0_1 a0_2 a0_3 l0_4 a0_5 l0_6 l1 = some (r1, r2, r3, r4, r5, r6, r7, r8)) :
    Calls Try.prog 19 #[.agg #[.int .i64 a0_0, .int .i64 a0_1, .int .i64 a0_2, .int .i64 a0_3, .slice A0_4 l0_4.length c0_4, .string a0_5, .slice A0_6 l0_6.length c0_6], .slice A1 l1.length c1] w fun e w' => ∃ v4_ v6_ : Value, e = .returned (.tuple #[.agg #[.int .i64 r1, .int .i64 r2, .int .i64 r3, .int .i64 r4, v4_, .string r6, v6_], .bool r8]) ∧ Kd.R k76 76 w' w.heap.size (fun k_ => (w.heap.size ≤ k_)) v4_ r5 ∧ Kd.R k26 26 w' w.heap.size (fun k_ => (w.heap.size ≤ k_) ∧ some k_ ≠ (v4_ : Value).ownBlock) v6_ r7 ∧ Below w.heap.size w w' := by
  have hu26 := Try.underlying26
  have HO0_4 := Aside0.mk (show Kd.V k76 76 w w.heap.size (fun k_ => ((P0_4_ k_ ∨ P0_6_ k_) ∨ w.heap.size ≤ k_)) (.slice A0_4 l0_4.length c0_4) l0_4 from Kd.V_mono hs0_4 (fun k_ hk => .inl (.inl hk)))
  have HO0_6 := Aside0.mk (show Kd.V k26 26 w w.heap.size (fun k_ => ((P0_4_ k_ ∨ P0_6_ k_) ∨ w.heap.size ≤ k_)) (.slice A0_6 l0_6.length c0_6) l0_6 from Kd.V_mono hs0_6 (fun k_ hk => .inl (.inr hk)))
  have HR1 := Aside0.mk hr1
  have HC1 := Aside0.mk hc1
  clear hr1 hc1
  have HB := Aside0.mk (Below.refl w.heap.size w)
  have H : (cursor_Get.l0 k l1 (l1.length : Int) 0 a0_0 a0_1 a0_2 a0_3 l0_4 a0_5 l0_6) = some (r1, r2, r3, r4, r5, r6, r7, r8) := h
  clear h
  have H' := Aside0.mk H
  clear H
  go_enter Try.func19, Try.ntmps19
  go_wp2_with (first | ((with_reducible refine gate_dst (N := 2) rfl ?_); (try (refine gate_guard (by rfl) ?_; dsimp only)); refine box_event ?hg (N := 2) ?hd (cs := #[.int .i64 a0_0, .int .i64 a0_1, .int .i64 a0_2, .int .i64 a0_3, .slice A0_4 l0_4.length c0_4, .string a0_5, .slice A0_6 l0_6.length c0_6]) (t := 26) ?hr ?_; (case hd => rfl); (case hg => rfl); (case hr => first | (go_simp; done) | (go_simp; rfl)); intro gb150 hg w3 hbox hb; have n0_ := Aside0.mk (Kd.V_below (Kd.V_elderB (by (with_reducible repeat (first | apply Kd.V_alloc | apply Kd.V_drewN | apply Kd.V_drew)); exact HO0_4.out) gb150 (Nat.le_of_eq hg.symm)) hb); have n1_ := Aside0.mk (Kd.V_below (Kd.V_elderB (by (with_reducible repeat (first | apply Kd.V_alloc | apply Kd.V_drewN | apply Kd.V_drew)); exact HO0_6.out) gb150 (Nat.le_of_eq hg.symm)) hb); have n2_ := Aside0.mk (below_step (by repeat (first | (with_reducible first | exact HB.out | apply below_alloc | apply pw_below_drewN | apply below_drew1) | exact HB.out)) hb); have n3_ := Aside0.mk (hbox); have n4_ := Aside0.mk ((by rw [hg]; exact (below_size (by repeat (first | (with_reducible first | exact HB.out | apply below_alloc | apply pw_below_drewN | apply below_drew1) | exact HB.out))) : w.heap.size ≤ gb150)); have n5_ := Aside0.mk ((by rw [hg]; exact (below_size (by repeat (first | (with_reducible first | exact HB.out | apply below_alloc | apply pw_below_drewN | apply below_drew1) | exact HB.out))) : w.heap.size ≤ gb150)); clear HO0_4; clear HO0_6; clear HB; have HO0_4 := n0_; have HO0_6 := n1_; have HB := n2_; have BK150 := n3_; have GW150 := n4_; have GE150 := n5_; clear n0_ n1_ n2_ n3_ n4_ n5_; clear hb hbox hg) | ((with_reducible refine gate_dst (N := 4) rfl ?_); (try (refine gate_guard (by rfl) ?_; dsimp only)); refine box_event ?hg (N := 4) ?hd (cs := #[.int .i64 0, .int .i64 0, .int .i64 0, .int .i64 0, .slice none 0 0, .string (⟨#[]⟩ : ByteArray), .slice none 0 0]) (t := 26) ?hr ?_; (case hd => rfl); (case hg => rfl); (case hr => first | (go_simp; done) | (go_simp; rfl)); intro gb151 hg w4 hbox hb; have n0_ := Aside0.mk (Kd.V_below (Kd.V_elderB (by (with_reducible repeat (first | apply Kd.V_alloc | apply Kd.V_drewN | apply Kd.V_drew)); exact HO0_4.out) gb151 (Nat.le_of_eq hg.symm)) hb); have n1_ := Aside0.mk (Kd.V_below (Kd.V_elderB (by (with_reducible repeat (first | apply Kd.V_alloc | apply Kd.V_drewN | apply Kd.V_drew)); exact HO0_6.out) gb151 (Nat.le_of_eq hg.symm)) hb); have n2_ := Aside0.mk (blk_below (g := gb150) (o := .cells #[.int .i64 a0_0, .int .i64 a0_1, .int .i64 a0_2, .int .i64 a0_3, .slice A0_4 l0_4.length c0_4, .string a0_5, .slice A0_6 l0_6.length c0_6] 26 (0, 0)) (by (with_reducible repeat (first | refine blk_drewN ?_ _ | refine blk_drew ?_ | refine blk_alloc ?_ _)); exact BK150.out) hb); have n3_ := Aside0.mk (below_step (by repeat (first | (with_reducible first | exact HB.out | apply below_alloc | apply pw_below_drewN | apply below_drew1 | refine below_set ?_ GE150.out) | exact HB.out)) hb); have n4_ := Aside0.mk (hbox); have n5_ := Aside0.mk ((by rw [hg]; exact (below_size (by repeat (first | (with_reducible first | exact HB.out | apply below_alloc | apply pw_below_drewN | apply below_drew1 | refine below_set ?_ GE150.out) | exact HB.out))) : w.heap.size ≤ gb151)); have n6_ := Aside0.mk ((by rw [hg]; exact (below_size (by repeat (first | (with_reducible first | exact HB.out | apply below_alloc | apply pw_below_drewN | apply below_drew1 | refine below_set ?_ GE150.out) | exact HB.out))) : w.heap.size ≤ gb151)); have n7_ := Aside0.mk ((by rw [hg]; exact Nat.ne_of_lt (blk_lt (g := gb150) (o := .cells #[.int .i64 a0_0, .int .i64 a0_1, .int .i64 a0_2, .int .i64 a0_3, .slice A0_4 l0_4.length c0_4, .string a0_5, .slice A0_6 l0_6.length c0_6] 26 (0, 0)) (by (with_reducible repeat (first | refine blk_drewN ?_ _ | refine blk_drew ?_ | refine blk_alloc ?_ _)); exact BK150.out)) : gb150 ≠ gb151)); have n8_ := Aside0.mk ((by rw [hg]; exact Nat.ne_of_gt (blk_lt (g := gb150) (o := .cells #[.int .i64 a0_0, .int .i64 a0_1, .int .i64 a0_2, .int .i64 a0_3, .slice A0_4 l0_4.length c0_4, .string a0_5, .slice A0_6 l0_6.length c0_6] 26 (0, 0)) (by (with_reducible repeat (first | refine blk_drewN ?_ _ | refine blk_drew ?_ | refine blk_alloc ?_ _)); exact BK150.out)) : gb151 ≠ gb150)); clear HO0_4; clear HO0_6; clear BK150; clear HB; have HO0_4 := n0_; have HO0_6 := n1_; have BK150 := n2_; have HB := n3_; have BK151 := n4_; have GW151 := n5_; have GE151 := n6_; have NB150_151 := n7_; have NB151_150 := n8_; clear n0_ n1_ n2_ n3_ n4_ n5_ n6_ n7_ n8_; clear hb hbox hg))
  go_loopg [10] k (fun kq v10 w' => ∃ (x10_1 : Int) (x151000_1 : Int) (x151001_1 : Int) (x151002_1 : Int) (x151003_1 : Int) (x151004_1 : List (S76)) (x151005_1 : ByteArray) (x151006_1 : List (S26)) (x152000_1 : Int) (x152001_1 : Int) (x152002_1 : Int) (x152003_1 : Int) (x152005_1 : ByteArray) (u151004 : Value) (u151006 : Value), v10 = .int .i64 x10_1 ∧ Aside0 (cursor_Get.l0 kq l1 (l1.length : Int) x10_1 x151000_1 x151001_1 x151002_1 x151003_1 x151004_1 x151005_1 x151006_1 = some (r1, r2, r3, r4, r5, r6, r7, r8)) ∧ Aside0 (kq ≤ k) ∧ Aside0 (Kd.V k76 76 w' w.heap.size (fun k_ => ((P0_4_ k_ ∨ P0_6_ k_) ∨ w.heap.size ≤ k_) ∧ k_ ≠ gb150 ∧ k_ ≠ gb151) u151004 x151004_1) ∧ Aside0 (Kd.V k26 26 w' w.heap.size (fun k_ => ((P0_4_ k_ ∨ P0_6_ k_) ∨ w.heap.size ≤ k_) ∧ k_ ≠ gb150 ∧ k_ ≠ gb151) u151006 x151006_1) ∧ Aside0 (w'.heap[gb150]? = some (.cells #[.int .i64 x151000_1, .int .i64 x151001_1, .int .i64 x151002_1, .int .i64 x151003_1, u151004, .string x151005_1, u151006] 26 (0, 0))) ∧ Aside0 (w'.heap[gb151]? = some (.cells #[.int .i64 x152000_1, .int .i64 x152001_1, .int .i64 x152002_1, .int .i64 x152003_1, (.slice none 0 0), .string x152005_1, (.slice none 0 0)] 26 (0, 0))) ∧ Aside0 (Below w.heap.size w w'))
  case atStart => exact ⟨(0), (a0_0), (a0_1), (a0_2), (a0_3), (l0_4), (a0_5), (l0_6), (0), (0), (0), (0), ((⟨#[]⟩ : ByteArray)), (.slice A0_4 l0_4.length c0_4), (.slice A0_6 l0_6.length c0_6), (by first | rfl | (simp; done) | (simp [*]; done) | (refine congrArg Value.bool ?_; exact (show ∀ l_ : List UInt8, (!l_.isEmpty) = (l_ != []) from fun l_ => by cases l_ <;> rfl) _)), H', ⟨Nat.le_refl _⟩, ⟨by (with_reducible repeat (first | apply Kd.V_alloc | apply Kd.V_drewN | apply Kd.V_drew)); exact Kd.V_mono HO0_4.out (fun _ hk => ⟨hk.1.1, ⟨hk.1.2, hk.2⟩⟩)⟩, ⟨by (with_reducible repeat (first | apply Kd.V_alloc | apply Kd.V_drewN | apply Kd.V_drew)); exact Kd.V_mono HO0_6.out (fun _ hk => ⟨hk.1.1, ⟨hk.1.2, hk.2⟩⟩)⟩, ⟨by (with_reducible repeat (first | refine blk_drewN ?_ _ | refine blk_drew ?_ | refine blk_alloc ?_ _)); exact BK150.out⟩, ⟨by (with_reducible repeat (first | refine blk_drewN ?_ _ | refine blk_drew ?_ | refine blk_alloc ?_ _)); exact BK151.out⟩, ⟨by repeat (first | (with_reducible first | exact HB.out | apply below_alloc | apply pw_below_drewN | apply below_drew1 | refine below_set ?_ GE150.out | refine below_set ?_ GE151.out) | exact HB.out)⟩⟩
  case round =>
    clear H'
    try clear c1
    try clear p2
    obtain ⟨x10_1, x151000_1, x151001_1, x151002_1, x151003_1, x151004_1, x151005_1, x151006_1, x152000_1, x152001_1, x152002_1, x152003_1, x152005_1, u151004, u151006, rfl, HA, HK1, HO_151004, HO_151006, BK150, BK151, HB⟩ := hrel
    cases gk with
    | zero => exact absurd HA.out (by simp [cursor_Get.l0])
    | succ k1 =>
      have H := HA.out
      clear HA
      simp only [cursor_Get.l0] at H
      by_cases c5 : x10_1 < (l1.length : Int)
      · rw [if_pos c5] at H
        have c5b0 : decide (x10_1 < (l1.length : Int)) = true := decide_eq_true c5
        clear c5
        by_cases c6 : 0 ≤ x10_1
        · rw [if_pos c6] at H
          have c6b0 : decide (0 ≤ x10_1) = true := decide_eq_true c6
          clear c6
          by_cases c7 : x10_1 < (l1.length : Int)
          · rw [if_pos c7] at H
            have c7b0 : decide (x10_1 < (l1.length : Int)) = true := decide_eq_true c7
            clear c7
            by_cases c8 : (rd l1 x10_1) < 0
            · rw [if_pos c8] at H
              have c8b0 : decide ((rd l1 x10_1) < 0) = true := decide_eq_true c8
              clear c8
              simp only [Option.some.injEq, Prod.mk.injEq] at H
              obtain ⟨rfl, rfl, rfl, rfl, rfl, rfl, rfl, rfl⟩ := H
              have p152 : 0 ≤ (x10_1 : Int) := of_decide_eq_true (by first | (with_reducible assumption) | assumption)
              have q152 : x10_1 < (l1.length : Int) := of_decide_eq_true (by first | (with_reducible assumption) | assumption)
              obtain ⟨ad152, e152, hx152_0⟩ := Kd.at_int HR1.out x10_1 p152 q152
              cases e152
              replace hx152_0 := (HB.out.cell (World.block_lt_of_cell? w _ hx152_0)).trans hx152_0
              replace p152 := eq_true p152
              replace q152 := eq_true q152
              have hnb9 := NB151_150.out
              have hnc9 := NB150_151.out
              have hcz10_0 : wr.cell? ⟨gb151, 0, none⟩ = some (.int .i64 x152000_1) := (blk_cell BK151.out 0).trans rfl
              have hcz10_1 : wr.cell? ⟨gb151, 1, none⟩ = some (.int .i64 x152001_1) := (blk_cell BK151.out 1).trans rfl
              have hcz10_2 : wr.cell? ⟨gb151, 2, none⟩ = some (.int .i64 x152002_1) := (blk_cell BK151.out 2).trans rfl
              have hcz10_3 : wr.cell? ⟨gb151, 3, none⟩ = some (.int .i64 x152003_1) := (blk_cell BK151.out 3).trans rfl
              have hcz10_4 : wr.cell? ⟨gb151, 4, none⟩ = some (.slice none 0 0) := (blk_cell BK151.out 4).trans rfl
              have hcz10_5 : wr.cell? ⟨gb151, 5, none⟩ = some (.string x152005_1) := (blk_cell BK151.out 5).trans rfl
              have hcz10_6 : wr.cell? ⟨gb151, 6, none⟩ = some (.slice none 0 0) := (blk_cell BK151.out 6).trans rfl
              have hfz10_0 := blk_frozen BK151.out 0
              have hfz10_1 := blk_frozen BK151.out 1
              have hfz10_2 := blk_frozen BK151.out 2
              have hfz10_3 := blk_frozen BK151.out 3
              have hfz10_4 := blk_frozen BK151.out 4
              have hfz10_5 := blk_frozen BK151.out 5
              have hfz10_6 := blk_frozen BK151.out 6
              go_wp2
              refine bodyPost_ret (results_ct rfl _ _ gb151 26 #[.int .i64 0, .int .i64 0, .int .i64 0, .int .i64 0, .slice none 0 0, .string (⟨#[]⟩ : ByteArray), .slice none 0 0] (0, 0) _ rfl (by (with_reducible repeat (first | refine blk_drewN ?_ _ | refine blk_drew ?_ | refine blk_alloc ?_ _)); refine blk_put (cs := #[.int .i64 0, .int .i64 0, .int .i64 0, .int .i64 0, .slice none 0 0, .string (⟨#[]⟩ : ByteArray), .slice none 0 0]) ?_ 6 _ rfl; (with_reducible repeat (first | refine blk_drewN ?_ _ | refine blk_drew ?_ | refine blk_alloc ?_ _)); refine blk_put (cs := #[.int .i64 0, .int .i64 0, .int .i64 0, .int .i64 0, .slice none 0 0, .string x152005_1, .slice none 0 0]) ?_ 5 _ rfl; (with_reducible repeat (first | refine blk_drewN ?_ _ | refine blk_drew ?_ | refine blk_alloc ?_ _)); refine blk_put (cs := #[.int .i64 0, .int .i64 0, .int .i64 0, .int .i64 0, .slice none 0 0, .string x152005_1, .slice none 0 0]) ?_ 4 _ rfl; (with_reducible repeat (first | refine blk_drewN ?_ _ | refine blk_drew ?_ | refine blk_alloc ?_ _)); refine blk_put (cs := #[.int .i64 0, .int .i64 0, .int .i64 0, .int .i64 x152003_1, .slice none 0 0, .string x152005_1, .slice none 0 0]) ?_ 3 _ rfl; (with_reducible repeat (first | refine blk_drewN ?_ _ | refine blk_drew ?_ | refine blk_alloc ?_ _)); refine blk_put (cs := #[.int .i64 0, .int .i64 0, .int .i64 x152002_1, .int .i64 x152003_1, .slice none 0 0, .string x152005_1, .slice none 0 0]) ?_ 2 _ rfl; (with_reducible repeat (first | refine blk_drewN ?_ _ | refine blk_drew ?_ | refine blk_alloc ?_ _)); refine blk_put (cs := #[.int .i64 0, .int .i64 x152001_1, .int .i64 x152002_1, .int .i64 x152003_1, .slice none 0 0, .string x152005_1, .slice none 0 0]) ?_ 1 _ rfl; (with_reducible repeat (first | refine blk_drewN ?_ _ | refine blk_drew ?_ | refine blk_alloc ?_ _)); refine blk_put (cs := #[.int .i64 x152000_1, .int .i64 x152001_1, .int .i64 x152002_1, .int .i64 x152003_1, .slice none 0 0, .string x152005_1, .slice none 0 0]) ?_ 0 _ rfl; (with_reducible repeat (first | refine blk_drewN ?_ _ | refine blk_drew ?_ | refine blk_alloc ?_ _)); exact BK151.out) Try.underlying26 rfl (by kernel_rfl)) rfl ?_
              exact ⟨_, _, by first | rfl | (simp [errW_none, errW_some] <;> rfl) | (simp [*, errW_none, errW_some] <;> rfl), by first | exact Kd.R_nil _ _ _ _ _ | exact Kd.N_nil _ _ _ _ _ | exact Kd.V_nil _ _ _ _ _ | exact Kd.Q_nil _ _ _ _ _ | exact Kd.S_nil _ _ _ _ _, by first | exact Kd.R_nil _ _ _ _ _ | exact Kd.N_nil _ _ _ _ _ | exact Kd.V_nil _ _ _ _ _ | exact Kd.Q_nil _ _ _ _ _ | exact Kd.S_nil _ _ _ _ _, by repeat (first | (with_reducible first | exact HB.out | apply below_alloc | apply pw_below_drewN | apply below_drew1 | refine below_set ?_ GE150.out | refine below_set ?_ GE151.out) | exact HB.out)⟩
            · rw [if_neg c8] at H
              have c8b0 : decide ((rd l1 x10_1) < 0) = false := decide_eq_false c8
              clear c8
              by_cases c11 : (rd l1 x10_1) ≥ (x151006_1.length : Int)
              · rw [if_pos c11] at H
                have c11b0 : decide ((x151006_1.length : Int) ≤ (rd l1 x10_1)) = true := decide_eq_true c11
                clear c11
                simp only [Option.some.injEq, Prod.mk.injEq] at H
                obtain ⟨rfl, rfl, rfl, rfl, rfl, rfl, rfl, rfl⟩ := H
                have p152 : 0 ≤ (x10_1 : Int) := of_decide_eq_true (by first | (with_reducible assumption) | assumption)
                have q152 : x10_1 < (l1.length : Int) := of_decide_eq_true (by first | (with_reducible assumption) | assumption)
                obtain ⟨ad152, e152, hx152_0⟩ := Kd.at_int HR1.out x10_1 p152 q152
                cases e152
                replace hx152_0 := (HB.out.cell (World.block_lt_of_cell? w _ hx152_0)).trans hx152_0
                replace p152 := eq_true p152
                replace q152 := eq_true q152
                have hnb12 := NB150_151.out
                have hnc12 := NB151_150.out
                have hcz13_0 : wr.cell? ⟨gb150, 0, none⟩ = some (.int .i64 x151000_1) := (blk_cell BK150.out 0).trans rfl
                have hcz13_1 : wr.cell? ⟨gb150, 1, none⟩ = some (.int .i64 x151001_1) := (blk_cell BK150.out 1).trans rfl
                have hcz13_2 : wr.cell? ⟨gb150, 2, none⟩ = some (.int .i64 x151002_1) := (blk_cell BK150.out 2).trans rfl
                have hcz13_3 : wr.cell? ⟨gb150, 3, none⟩ = some (.int .i64 x151003_1) := (blk_cell BK150.out 3).trans rfl
                have hcz13_4 : wr.cell? ⟨gb150, 4, none⟩ = some (u151004) := (blk_cell BK150.out 4).trans rfl
                have hcz13_5 : wr.cell? ⟨gb150, 5, none⟩ = some (.string x151005_1) := (blk_cell BK150.out 5).trans rfl
                have hcz13_6 : wr.cell? ⟨gb150, 6, none⟩ = some (u151006) := (blk_cell BK150.out 6).trans rfl
                have hfz13_0 := blk_frozen BK150.out 0
                have hfz13_1 := blk_frozen BK150.out 1
                have hfz13_2 := blk_frozen BK150.out 2
                have hfz13_3 := blk_frozen BK150.out 3
                have hfz13_4 := blk_frozen BK150.out 4
                have hfz13_5 := blk_frozen BK150.out 5
                have hfz13_6 := blk_frozen BK150.out 6
                obtain ⟨Ao14, co14, eo14⟩ := Kd.V_slice HO_151006.out
                subst eo14
                have hcz15_0 : wr.cell? ⟨gb151, 0, none⟩ = some (.int .i64 x152000_1) := (blk_cell BK151.out 0).trans rfl
                have hcz15_1 : wr.cell? ⟨gb151, 1, none⟩ = some (.int .i64 x152001_1) := (blk_cell BK151.out 1).trans rfl
                have hcz15_2 : wr.cell? ⟨gb151, 2, none⟩ = some (.int .i64 x152002_1) := (blk_cell BK151.out 2).trans rfl
                have hcz15_3 : wr.cell? ⟨gb151, 3, none⟩ = some (.int .i64 x152003_1) := (blk_cell BK151.out 3).trans rfl
                have hcz15_4 : wr.cell? ⟨gb151, 4, none⟩ = some (.slice none 0 0) := (blk_cell BK151.out 4).trans rfl
                have hcz15_5 : wr.cell? ⟨gb151, 5, none⟩ = some (.string x152005_1) := (blk_cell BK151.out 5).trans rfl
                have hcz15_6 : wr.cell? ⟨gb151, 6, none⟩ = some (.slice none 0 0) := (blk_cell BK151.out 6).trans rfl
                have hfz15_0 := blk_frozen BK151.out 0
                have hfz15_1 := blk_frozen BK151.out 1
                have hfz15_2 := blk_frozen BK151.out 2
                have hfz15_3 := blk_frozen BK151.out 3
                have hfz15_4 := blk_frozen BK151.out 4
                have hfz15_5 := blk_frozen BK151.out 5
                have hfz15_6 := blk_frozen BK151.out 6
                go_wp2
                refine bodyPost_ret (results_ct rfl _ _ gb151 26 #[.int .i64 0, .int .i64 0, .int .i64 0, .int .i64 0, .slice none 0 0, .string (⟨#[]⟩ : ByteArray), .slice none 0 0] (0, 0) _ rfl (by (with_reducible repeat (first | refine blk_drewN ?_ _ | refine blk_drew ?_ | refine blk_alloc ?_ _)); refine blk_put (cs := #[.int .i64 0, .int .i64 0, .int .i64 0, .int .i64 0, .slice none 0 0, .string (⟨#[]⟩ : ByteArray), .slice none 0 0]) ?_ 6 _ rfl; (with_reducible repeat (first | refine blk_drewN ?_ _ | refine blk_drew ?_ | refine blk_alloc ?_ _)); refine blk_put (cs := #[.int .i64 0, .int .i64 0, .int .i64 0, .int .i64 0, .slice none 0 0, .string x152005_1, .slice none 0 0]) ?_ 5 _ rfl; (with_reducible repeat (first | refine blk_drewN ?_ _ | refine blk_drew ?_ | refine blk_alloc ?_ _)); refine blk_put (cs := #[.int .i64 0, .int .i64 0, .int .i64 0, .int .i64 0, .slice none 0 0, .string x152005_1, .slice none 0 0]) ?_ 4 _ rfl; (with_reducible repeat (first | refine blk_drewN ?_ _ | refine blk_drew ?_ | refine blk_alloc ?_ _)); refine blk_put (cs := #[.int .i64 0, .int .i64 0, .int .i64 0, .int .i64 x152003_1, .slice none 0 0, .string x152005_1, .slice none 0 0]) ?_ 3 _ rfl; (with_reducible repeat (first | refine blk_drewN ?_ _ | refine blk_drew ?_ | refine blk_alloc ?_ _)); refine blk_put (cs := #[.int .i64 0, .int .i64 0, .int .i64 x152002_1, .int .i64 x152003_1, .slice none 0 0, .string x152005_1, .slice none 0 0]) ?_ 2 _ rfl; (with_reducible repeat (first | refine blk_drewN ?_ _ | refine blk_drew ?_ | refine blk_alloc ?_ _)); refine blk_put (cs := #[.int .i64 0, .int .i64 x152001_1, .int .i64 x152002_1, .int .i64 x152003_1, .slice none 0 0, .string x152005_1, .slice none 0 0]) ?_ 1 _ rfl; (with_reducible repeat (first | refine blk_drewN ?_ _ | refine blk_drew ?_ | refine blk_alloc ?_ _)); refine blk_put (cs := #[.int .i64 x152000_1, .int .i64 x152001_1, .int .i64 x152002_1, .int .i64 x152003_1, .slice none 0 0, .string x152005_1, .slice none 0 0]) ?_ 0 _ rfl; (with_reducible repeat (first | refine blk_drewN ?_ _ | refine blk_drew ?_ | refine blk_alloc ?_ _)); exact BK151.out) Try.underlying26 rfl (by kernel_rfl)) rfl ?_
                exact ⟨_, _, by first | rfl | (simp [errW_none, errW_some] <;> rfl) | (simp [*, errW_none, errW_some] <;> rfl), by first | exact Kd.R_nil _ _ _ _ _ | exact Kd.N_nil _ _ _ _ _ | exact Kd.V_nil _ _ _ _ _ | exact Kd.Q_nil _ _ _ _ _ | exact Kd.S_nil _ _ _ _ _, by first | exact Kd.R_nil _ _ _ _ _ | exact Kd.N_nil _ _ _ _ _ | exact Kd.V_nil _ _ _ _ _ | exact Kd.Q_nil _ _ _ _ _ | exact Kd.S_nil _ _ _ _ _, by repeat (first | (with_reducible first | exact HB.out | apply below_alloc | apply pw_below_drewN | apply below_drew1 | refine below_set ?_ GE150.out | refine below_set ?_ GE151.out) | exact HB.out)⟩
              · rw [if_neg c11] at H
                have c11b0 : decide ((x151006_1.length : Int) ≤ (rd l1 x10_1)) = false := decide_eq_false c11
                clear c11
                by_cases c16 : 0 ≤ (rd l1 x10_1)
                · rw [if_pos c16] at H
                  have c16b0 : decide (0 ≤ (rd l1 x10_1)) = true := decide_eq_true c16
                  clear c16
                  by_cases c17 : (rd l1 x10_1) < (x151006_1.length : Int)
                  · rw [if_pos c17] at H
                    have c17b0 : decide ((rd l1 x10_1) < (x151006_1.length : Int)) = true := decide_eq_true c17
                    clear c17
                    have H' := Aside0.mk H
                    clear H
                    have p152 : 0 ≤ (x10_1 : Int) := of_decide_eq_true (by first | (with_reducible assumption) | assumption)
                    have q152 : x10_1 < (l1.length : Int) := of_decide_eq_true (by first | (with_reducible assumption) | assumption)
                    obtain ⟨ad152, e152, hx152_0⟩ := Kd.at_int HR1.out x10_1 p152 q152
                    cases e152
                    replace hx152_0 := (HB.out.cell (World.block_lt_of_cell? w _ hx152_0)).trans hx152_0
                    replace p152 := eq_true p152
                    replace q152 := eq_true q152
                    have hnb18 := NB150_151.out
                    have hnc18 := NB151_150.out
                    have hcz19_0 : wr.cell? ⟨gb150, 0, none⟩ = some (.int .i64 x151000_1) := (blk_cell BK150.out 0).trans rfl
                    have hcz19_1 : wr.cell? ⟨gb150, 1, none⟩ = some (.int .i64 x151001_1) := (blk_cell BK150.out 1).trans rfl
                    have hcz19_2 : wr.cell? ⟨gb150, 2, none⟩ = some (.int .i64 x151002_1) := (blk_cell BK150.out 2).trans rfl
                    have hcz19_3 : wr.cell? ⟨gb150, 3, none⟩ = some (.int .i64 x151003_1) := (blk_cell BK150.out 3).trans rfl
                    have hcz19_4 : wr.cell? ⟨gb150, 4, none⟩ = some (u151004) := (blk_cell BK150.out 4).trans rfl
                    have hcz19_5 : wr.cell? ⟨gb150, 5, none⟩ = some (.string x151005_1) := (blk_cell BK150.out 5).trans rfl
                    have hcz19_6 : wr.cell? ⟨gb150, 6, none⟩ = some (u151006) := (blk_cell BK150.out 6).trans rfl
                    have hfz19_0 := blk_frozen BK150.out 0
                    have hfz19_1 := blk_frozen BK150.out 1
                    have hfz19_2 := blk_frozen BK150.out 2
                    have hfz19_3 := blk_frozen BK150.out 3
                    have hfz19_4 := blk_frozen BK150.out 4
                    have hfz19_5 := blk_frozen BK150.out 5
                    have hfz19_6 := blk_frozen BK150.out 6
                    obtain ⟨Ao20, co20, eo20⟩ := Kd.V_slice HO_151006.out
                    subst eo20
                    have p153 : 0 ≤ ((rd l1 x10_1) : Int) := of_decide_eq_true (by first | (with_reducible assumption) | assumption)
                    have q153 : (rd l1 x10_1) < (x151006_1.length : Int) := of_decide_eq_true (by first | (with_reducible assumption) | assumption)
                    obtain ⟨ad153, A153_4, c153_4, A153_6, c153_6, e153, hx153_0, hx153_1, hx153_2, hx153_3, hx153_4, hx153_5, hx153_6, hl153_4, hi153_4, hl153_6, hi153_6⟩ := at_T26 (Kd.V_reads' HO_151006.out).2.2 (rd l1 x10_1) p153 q153
                    cases e153
                    obtain ⟨ce153, hce153, hMe153, hcc153⟩ := Kd.V_get HO_151006.out z26 (rd l1 x10_1) p153 (by first | exact q153 | exact of_decide_eq_true (by first | (with_reducible assumption) | assumption) | (have e_ := (Kd.V_reads' HO_151006.out).1; omega))
                    obtain ⟨ua153_4, uc153_4, ua153_6, uc153_6, rfl, ul153_4, ge153_4, ul153_6, ge153_6⟩ := k26_openF hMe153
                    have hv153_4 := hcc153 4 _ rfl
                    rw [add_field _ _ 4 (by omega)] at hv153_4
                    replace hv153_4 := Option.some.inj (hv153_4.symm.trans hx153_4)
                    injection hv153_4 with hva_ hvn_ hvc_
                    rw [hva_] at ge153_4
                    rw [hvc_] at ul153_4
                    have HL153_4 := Aside0.mk (show Kd.V k76 76 _ w.heap.size _ _ ((rd_T26 x151006_1 (rd l1 x10_1)).f4) from Kd.V_mk ul153_4 ge153_4)
                    clear hva_ hvn_ hvc_ ge153_4 ul153_4
                    have hv153_6 := hcc153 6 _ rfl
                    rw [add_field _ _ 6 (by omega)] at hv153_6
                    replace hv153_6 := Option.some.inj (hv153_6.symm.trans hx153_6)
                    injection hv153_6 with hva_ hvn_ hvc_
                    rw [hva_] at ge153_6
                    rw [hvc_] at ul153_6
                    have HL153_6 := Aside0.mk (show Kd.V k26 26 _ w.heap.size _ _ ((rd_T26 x151006_1 (rd l1 x10_1)).f6) from Kd.V_mk ul153_6 ge153_6)
                    clear hva_ hvn_ hvc_ ge153_6 ul153_6
                    clear hcc153 hce153
                    have HR153_4 := Aside0.mk hi153_4
                    have HC153_4 := Aside0.mk hl153_4
                    clear hi153_4 hl153_4
                    have HR153_6 := Aside0.mk hi153_6
                    have HC153_6 := Aside0.mk hl153_6
                    clear hi153_6 hl153_6
                    replace p153 := eq_true p153
                    replace q153 := eq_true q153
                    go_wp2
                    go_roundg k1
                    case measure => have := HK1.out; omega
                    case rel => exact ⟨(wrap64 (x10_1 + 1)), ((rd_T26 x151006_1 (rd l1 x10_1)).f0), ((rd_T26 x151006_1 (rd l1 x10_1)).f1), ((rd_T26 x151006_1 (rd l1 x10_1)).f2), ((rd_T26 x151006_1 (rd l1 x10_1)).f3), ((rd_T26 x151006_1 (rd l1 x10_1)).f4), ((rd_T26 x151006_1 (rd l1 x10_1)).f5), ((rd_T26 x151006_1 (rd l1 x10_1)).f6), (x152000_1), (x152001_1), (x152002_1), (x152003_1), (x152005_1), (.slice A153_4 ((rd_T26 x151006_1 (rd l1 x10_1)).f4).length c153_4), (.slice A153_6 ((rd_T26 x151006_1 (rd l1 x10_1)).f6).length c153_6), (by first | rfl | (simp; done) | (simp [*]; done) | (refine congrArg Value.bool ?_; exact (show ∀ l_ : List UInt8, (!l_.isEmpty) = (l_ != []) from fun l_ => by cases l_ <;> rfl) _)), H', ⟨by have := HK1.out; omega⟩, ⟨by (with_reducible repeat (first | apply Kd.V_alloc | apply Kd.V_drewN | apply Kd.V_drew)); exact Kd.V_mono (Kd.V_far (p := ⟨gb150, 6, none⟩) (Kd.V_far (p := ⟨gb150, 5, none⟩) (Kd.V_far (p := ⟨gb150, 4, none⟩) (Kd.V_far (p := ⟨gb150, 3, none⟩) (Kd.V_far (p := ⟨gb150, 2, none⟩) (Kd.V_far (p := ⟨gb150, 1, none⟩) (Kd.V_far (p := ⟨gb150, 0, none⟩) (Kd.V_mono HL153_4.out (fun k_ hk => (⟨hk, hk.2.1⟩ : _ ∧ k_ ≠ gb150))) (fun _ hk => hk.2) (.int .i64 ((rd_T26 x151006_1 (rd l1 x10_1)).f0))) (fun _ hk => hk.2) (.int .i64 ((rd_T26 x151006_1 (rd l1 x10_1)).f1))) (fun _ hk => hk.2) (.int .i64 ((rd_T26 x151006_1 (rd l1 x10_1)).f2))) (fun _ hk => hk.2) (.int .i64 ((rd_T26 x151006_1 (rd l1 x10_1)).f3))) (fun _ hk => hk.2) (.slice A153_4 ((rd_T26 x151006_1 (rd l1 x10_1)).f4).length c153_4)) (fun _ hk => hk.2) (.string ((rd_T26 x151006_1 (rd l1 x10_1)).f5))) (fun _ hk => hk.2) (.slice A153_6 ((rd_T26 x151006_1 (rd l1 x10_1)).f6).length c153_6)) (fun _ hk => ⟨hk.1.1, ⟨hk.1.2.1, hk.1.2.2⟩⟩)⟩, ⟨by (with_reducible repeat (first | apply Kd.V_alloc | apply Kd.V_drewN | apply Kd.V_drew)); exact Kd.V_mono (Kd.V_far (p := ⟨gb150, 6, none⟩) (Kd.V_far (p := ⟨gb150, 5, none⟩) (Kd.V_far (p := ⟨gb150, 4, none⟩) (Kd.V_far (p := ⟨gb150, 3, none⟩) (Kd.V_far (p := ⟨gb150, 2, none⟩) (Kd.V_far (p := ⟨gb150, 1, none⟩) (Kd.V_far (p := ⟨gb150, 0, none⟩) (Kd.V_mono HL153_6.out (fun k_ hk => (⟨hk, hk.2.1⟩ : _ ∧ k_ ≠ gb150))) (fun _ hk => hk.2) (.int .i64 ((rd_T26 x151006_1 (rd l1 x10_1)).f0))) (fun _ hk => hk.2) (.int .i64 ((rd_T26 x151006_1 (rd l1 x10_1)).f1))) (fun _ hk => hk.2) (.int .i64 ((rd_T26 x151006_1 (rd l1 x10_1)).f2))) (fun _ hk => hk.2) (.int .i64 ((rd_T26 x151006_1 (rd l1 x10_1)).f3))) (fun _ hk => hk.2) (.slice A153_4 ((rd_T26 x151006_1 (rd l1 x10_1)).f4).length c153_4)) (fun _ hk => hk.2) (.string ((rd_T26 x151006_1 (rd l1 x10_1)).f5))) (fun _ hk => hk.2) (.slice A153_6 ((rd_T26 x151006_1 (rd l1 x10_1)).f6).length c153_6)) (fun _ hk => ⟨hk.1.1, ⟨hk.1.2.1, hk.1.2.2⟩⟩)⟩, ⟨by (with_reducible repeat (first | refine blk_drewN ?_ _ | refine blk_drew ?_ | refine blk_alloc ?_ _)); refine blk_put (cs := #[.int .i64 ((rd_T26 x151006_1 (rd l1 x10_1)).f0), .int .i64 ((rd_T26 x151006_1 (rd l1 x10_1)).f1), .int .i64 ((rd_T26 x151006_1 (rd l1 x10_1)).f2), .int .i64 ((rd_T26 x151006_1 (rd l1 x10_1)).f3), .slice A153_4 ((rd_T26 x151006_1 (rd l1 x10_1)).f4).length c153_4, .string ((rd_T26 x151006_1 (rd l1 x10_1)).f5), .slice (some ad153) x151006_1.length co20]) ?_ 6 _ rfl; (with_reducible repeat (first | refine blk_drewN ?_ _ | refine blk_drew ?_ | refine blk_alloc ?_ _)); refine blk_put (cs := #[.int .i64 ((rd_T26 x151006_1 (rd l1 x10_1)).f0), .int .i64 ((rd_T26 x151006_1 (rd l1 x10_1)).f1), .int .i64 ((rd_T26 x151006_1 (rd l1 x10_1)).f2), .int .i64 ((rd_T26 x151006_1 (rd l1 x10_1)).f3), .slice A153_4 ((rd_T26 x151006_1 (rd l1 x10_1)).f4).length c153_4, .string x151005_1, .slice (some ad153) x151006_1.length co20]) ?_ 5 _ rfl; (with_reducible repeat (first | refine blk_drewN ?_ _ | refine blk_drew ?_ | refine blk_alloc ?_ _)); refine blk_put (cs := #[.int .i64 ((rd_T26 x151006_1 (rd l1 x10_1)).f0), .int .i64 ((rd_T26 x151006_1 (rd l1 x10_1)).f1), .int .i64 ((rd_T26 x151006_1 (rd l1 x10_1)).f2), .int .i64 ((rd_T26 x151006_1 (rd l1 x10_1)).f3), u151004, .string x151005_1, .slice (some ad153) x151006_1.length co20]) ?_ 4 _ rfl; (with_reducible repeat (first | refine blk_drewN ?_ _ | refine blk_drew ?_ | refine blk_alloc ?_ _)); refine blk_put (cs := #[.int .i64 ((rd_T26 x151006_1 (rd l1 x10_1)).f0), .int .i64 ((rd_T26 x151006_1 (rd l1 x10_1)).f1), .int .i64 ((rd_T26 x151006_1 (rd l1 x10_1)).f2), .int .i64 x151003_1, u151004, .string x151005_1, .slice (some ad153) x151006_1.length co20]) ?_ 3 _ rfl; (with_reducible repeat (first | refine blk_drewN ?_ _ | refine blk_drew ?_ | refine blk_alloc ?_ _)); refine blk_put (cs := #[.int .i64 ((rd_T26 x151006_1 (rd l1 x10_1)).f0), .int .i64 ((rd_T26 x151006_1 (rd l1 x10_1)).f1), .int .i64 x151002_1, .int .i64 x151003_1, u151004, .string x151005_1, .slice (some ad153) x151006_1.length co20]) ?_ 2 _ rfl; (with_reducible repeat (first | refine blk_drewN ?_ _ | refine blk_drew ?_ | refine blk_alloc ?_ _)); refine blk_put (cs := #[.int .i64 ((rd_T26 x151006_1 (rd l1 x10_1)).f0), .int .i64 x151001_1, .int .i64 x151002_1, .int .i64 x151003_1, u151004, .string x151005_1, .slice (some ad153) x151006_1.length co20]) ?_ 1 _ rfl; (with_reducible repeat (first | refine blk_drewN ?_ _ | refine blk_drew ?_ | refine blk_alloc ?_ _)); refine blk_put (cs := #[.int .i64 x151000_1, .int .i64 x151001_1, .int .i64 x151002_1, .int .i64 x151003_1, u151004, .string x151005_1, .slice (some ad153) x151006_1.length co20]) ?_ 0 _ rfl; (with_reducible repeat (first | refine blk_drewN ?_ _ | refine blk_drew ?_ | refine blk_alloc ?_ _)); exact BK150.out⟩, ⟨by (with_reducible repeat (first | refine blk_drewN ?_ _ | refine blk_drew ?_ | refine blk_alloc ?_ _)); refine blk_far ?_ NB151_150.out _; (with_reducible repeat (first | refine blk_drewN ?_ _ | refine blk_drew ?_ | refine blk_alloc ?_ _)); refine blk_far ?_ NB151_150.out _; (with_reducible repeat (first | refine blk_drewN ?_ _ | refine blk_drew ?_ | refine blk_alloc ?_ _)); refine blk_far ?_ NB151_150.out _; (with_reducible repeat (first | refine blk_drewN ?_ _ | refine blk_drew ?_ | refine blk_alloc ?_ _)); refine blk_far ?_ NB151_150.out _; (with_reducible repeat (first | refine blk_drewN ?_ _ | refine blk_drew ?_ | refine blk_alloc ?_ _)); refine blk_far ?_ NB151_150.out _; (with_reducible repeat (first | refine blk_drewN ?_ _ | refine blk_drew ?_ | refine blk_alloc ?_ _)); refine blk_far ?_ NB151_150.out _; (with_reducible repeat (first | refine blk_drewN ?_ _ | refine blk_drew ?_ | refine blk_alloc ?_ _)); refine blk_far ?_ NB151_150.out _; (with_reducible repeat (first | refine blk_drewN ?_ _ | refine blk_drew ?_ | refine blk_alloc ?_ _)); exact BK151.out⟩, ⟨by repeat (first | (with_reducible first | exact HB.out | apply below_alloc | apply pw_below_drewN | apply below_drew1 | refine below_set ?_ GE150.out | refine below_set ?_ GE151.out) | exact HB.out)⟩⟩
                  · rw [if_neg c17] at H
                    exact absurd H (by simp)
                · rw [if_neg c16] at H
                  exact absurd H (by simp)
          · rw [if_neg c7] at H
            exact absurd H (by simp)
        · rw [if_neg c6] at H
          exact absurd H (by simp)
      · rw [if_neg c5] at H
        have c5b0 : decide (x10_1 < (l1.length : Int)) = false := decide_eq_false c5
        clear c5
        replace H := Option.bind_eq_some_iff.mp H
        obtain ⟨⟨t154, t155, t156, t157, t158, t161, t162⟩, A210, H⟩ := H
        replace H : (some (t154, t155, t156, t157, t158, t161, t162, true)) = some (r1, r2, r3, r4, r5, r6, r7, r8) := H
        have A21 := Aside0.mk A210
        clear A210
        simp only [Option.some.injEq, Prod.mk.injEq] at H
        obtain ⟨rfl, rfl, rfl, rfl, rfl, rfl, rfl, rfl⟩ := H
        have hnb22 := NB150_151.out
        have hnc22 := NB151_150.out
        have hcz23_0 : wr.cell? ⟨gb150, 0, none⟩ = some (.int .i64 x151000_1) := (blk_cell BK150.out 0).trans rfl
        have hcz23_1 : wr.cell? ⟨gb150, 1, none⟩ = some (.int .i64 x151001_1) := (blk_cell BK150.out 1).trans rfl
        have hcz23_2 : wr.cell? ⟨gb150, 2, none⟩ = some (.int .i64 x151002_1) := (blk_cell BK150.out 2).trans rfl
        have hcz23_3 : wr.cell? ⟨gb150, 3, none⟩ = some (.int .i64 x151003_1) := (blk_cell BK150.out 3).trans rfl
        have hcz23_4 : wr.cell? ⟨gb150, 4, none⟩ = some (u151004) := (blk_cell BK150.out 4).trans rfl
        have hcz23_5 : wr.cell? ⟨gb150, 5, none⟩ = some (.string x151005_1) := (blk_cell BK150.out 5).trans rfl
        have hcz23_6 : wr.cell? ⟨gb150, 6, none⟩ = some (u151006) := (blk_cell BK150.out 6).trans rfl
        have hfz23_0 := blk_frozen BK150.out 0
        have hfz23_1 := blk_frozen BK150.out 1
        have hfz23_2 := blk_frozen BK150.out 2
        have hfz23_3 := blk_frozen BK150.out 3
        have hfz23_4 := blk_frozen BK150.out 4
        have hfz23_5 := blk_frozen BK150.out 5
        have hfz23_6 := blk_frozen BK150.out 6
        obtain ⟨Ao24, co24, eo24⟩ := Kd.V_slice HO_151004.out
        subst eo24
        obtain ⟨Ao25, co25, eo25⟩ := Kd.V_slice HO_151006.out
        subst eo25
        go_wp2_with (first | ((with_reducible refine gate_callee (f := 32) rfl ?_); refine goesL_ (some 31) rfl rfl Try.func32 (by kernel_rfl) rfl #[.agg #[.int .i64 x151000_1, .int .i64 x151001_1, .int .i64 x151002_1, .int .i64 x151003_1, .slice Ao24 x151004_1.length co24, .string x151005_1, .slice Ao25 x151006_1.length co25]] rfl (by (try simp only [List.map_toArray, List.map_cons, List.map_nil]); first | done | rfl | (simp only [List.length_drop, List.length_take]; rfl)) ?_; (with_reducible refine (cursor_clone.calls k1 x151000_1 x151001_1 x151002_1 x151003_1 _ _ x151004_1 x151005_1 _ _ x151006_1 t154 t155 t156 t157 t158 t161 t162 _ ?side1 ?side2 ?side3 ?side4 A21.out).mono ?_); (case side1 => repeat (first | exact (Kd.V_reads' HO_151004.out).2.2 | (with_reducible refine Kd.C_alloc ?_ _) | (with_reducible refine Kd.C_drewN ?_ _) | (with_reducible refine Kd.C_drew ?_))); (case side2 => exact (Kd.V_reads' HO_151004.out).2.1); (case side3 => repeat (first | exact (Kd.V_reads' HO_151006.out).2.2 | (with_reducible refine Kd.C_alloc ?_ _) | (with_reducible refine Kd.C_drewN ?_ _) | (with_reducible refine Kd.C_drew ?_))); (case side4 => exact (Kd.V_reads' HO_151006.out).2.1); rintro e w26 ⟨v159, v163, rfl, ho0, ho1, hb⟩; refine ⟨_, rfl, ?_⟩; have n0_ := Aside0.mk (Kd.V_mono (Kd.V_told (Kd.V_told (Kd.V_old (by (with_reducible repeat (first | apply Kd.V_alloc | apply Kd.V_drewN | apply Kd.V_drew)); exact HO_151004.out) hb) (Kd.R_base ho0)) (Kd.R_base ho1)) (fun _ h_ => h_.1)); have n1_ := Aside0.mk (Kd.V_mono (Kd.V_told (Kd.V_told (Kd.V_old (by (with_reducible repeat (first | apply Kd.V_alloc | apply Kd.V_drewN | apply Kd.V_drew)); exact HO_151006.out) hb) (Kd.R_base ho0)) (Kd.R_base ho1)) (fun _ h_ => h_.1)); have n2_ := Aside0.mk (Kd.R_lower (Kd.R_newM (M := fun k_ => (w.heap.size ≤ k_)) ho0 (below_size (by repeat (first | (with_reducible first | exact HB.out | apply below_alloc | apply pw_below_drewN | apply below_drew1 | refine below_set ?_ GE150.out | refine below_set ?_ GE151.out) | exact HB.out))) (fun k_ h_ => h_)) (below_size (by repeat (first | (with_reducible first | exact HB.out | apply below_alloc | apply pw_below_drewN | apply below_drew1 | refine below_set ?_ GE150.out | refine below_set ?_ GE151.out) | exact HB.out)))); have n3_ := Aside0.mk (Kd.R_lower (Kd.R_newB (Kd.R_newB (Kd.R_newM (M := fun k_ => (w.heap.size ≤ k_)) ho1 (below_size (by repeat (first | (with_reducible first | exact HB.out | apply below_alloc | apply pw_below_drewN | apply below_drew1 | refine below_set ?_ GE150.out | refine below_set ?_ GE151.out) | exact HB.out))) (fun k_ h_ => h_)) (g := gb150) (o := .cells #[.int .i64 x151000_1, .int .i64 x151001_1, .int .i64 x151002_1, .int .i64 x151003_1, .slice Ao24 x151004_1.length co24, .string x151005_1, .slice Ao25 x151006_1.length co25] 26 (0, 0)) (by (with_reducible repeat (first | refine blk_drewN ?_ _ | refine blk_drew ?_ | refine blk_alloc ?_ _)); exact BK150.out)) (g := gb151) (o := .cells #[.int .i64 x152000_1, .int .i64 x152001_1, .int .i64 x152002_1, .int .i64 x152003_1, .slice none 0 0, .string x152005_1, .slice none 0 0] 26 (0, 0)) (by (with_reducible repeat (first | refine blk_drewN ?_ _ | refine blk_drew ?_ | refine blk_alloc ?_ _)); exact BK151.out)) (below_size (by repeat (first | (with_reducible first | exact HB.out | apply below_alloc | apply pw_below_drewN | apply below_drew1 | refine below_set ?_ GE150.out | refine below_set ?_ GE151.out) | exact HB.out)))); have n4_ := Aside0.mk (blk_below (g := gb150) (o := .cells #[.int .i64 x151000_1, .int .i64 x151001_1, .int .i64 x151002_1, .int .i64 x151003_1, .slice Ao24 x151004_1.length co24, .string x151005_1, .slice Ao25 x151006_1.length co25] 26 (0, 0)) (by (with_reducible repeat (first | refine blk_drewN ?_ _ | refine blk_drew ?_ | refine blk_alloc ?_ _)); exact BK150.out) hb); have n5_ := Aside0.mk (blk_below (g := gb151) (o := .cells #[.int .i64 x152000_1, .int .i64 x152001_1, .int .i64 x152002_1, .int .i64 x152003_1, .slice none 0 0, .string x152005_1, .slice none 0 0] 26 (0, 0)) (by (with_reducible repeat (first | refine blk_drewN ?_ _ | refine blk_drew ?_ | refine blk_alloc ?_ _)); exact BK151.out) hb); have n6_ := Aside0.mk (below_step (by repeat (first | (with_reducible first | exact HB.out | apply below_alloc | apply pw_below_drewN | apply below_drew1 | refine below_set ?_ GE150.out | refine below_set ?_ GE151.out) | exact HB.out)) hb); clear HO_151004; clear HO_151006; clear BK150; clear BK151; clear HB; have HO_151004 := n0_; have HO_151006 := n1_; have HO160 := n2_; have HO164 := n3_; have BK150 := n4_; have BK151 := n5_; have HB := n6_; clear n0_ n1_ n2_ n3_ n4_ n5_ n6_; (try clear hb); (try clear hb2); (try clear hk); (try clear hi); (try clear ho0); (try clear ho1); have hcz27_0 : w26.cell? ⟨gb151, 0, none⟩ = some (.int .i64 x152000_1) := (blk_cell BK151.out 0).trans rfl; have hcz27_1 : w26.cell? ⟨gb151, 1, none⟩ = some (.int .i64 x152001_1) := (blk_cell BK151.out 1).trans rfl; have hcz27_2 : w26.cell? ⟨gb151, 2, none⟩ = some (.int .i64 x152002_1) := (blk_cell BK151.out 2).trans rfl; have hcz27_3 : w26.cell? ⟨gb151, 3, none⟩ = some (.int .i64 x152003_1) := (blk_cell BK151.out 3).trans rfl; have hcz27_4 : w26.cell? ⟨gb151, 4, none⟩ = some (.slice none 0 0) := (blk_cell BK151.out 4).trans rfl; have hcz27_5 : w26.cell? ⟨gb151, 5, none⟩ = some (.string x152005_1) := (blk_cell BK151.out 5).trans rfl; have hcz27_6 : w26.cell? ⟨gb151, 6, none⟩ = some (.slice none 0 0) := (blk_cell BK151.out 6).trans rfl; have hfz27_0 := blk_frozen BK151.out 0; have hfz27_1 := blk_frozen BK151.out 1; have hfz27_2 := blk_frozen BK151.out 2; have hfz27_3 := blk_frozen BK151.out 3; have hfz27_4 := blk_frozen BK151.out 4; have hfz27_5 := blk_frozen BK151.out 5; have hfz27_6 := blk_frozen BK151.out 6; obtain ⟨Ao28, co28, eo28⟩ := Kd.R_slice HO160.out; subst eo28; obtain ⟨Ao29, co29, eo29⟩ := Kd.R_slice HO164.out; subst eo29))
        refine bodyPost_ret (results_ct rfl _ _ gb151 26 #[.int .i64 t154, .int .i64 t155, .int .i64 t156, .int .i64 t157, .slice Ao28 t158.length co28, .string t161, .slice Ao29 t162.length co29] (0, 0) _ rfl (by (with_reducible repeat (first | refine blk_drewN ?_ _ | refine blk_drew ?_ | refine blk_alloc ?_ _)); refine blk_put (cs := #[.int .i64 t154, .int .i64 t155, .int .i64 t156, .int .i64 t157, .slice Ao28 t158.length co28, .string t161, .slice none 0 0]) ?_ 6 _ rfl; (with_reducible repeat (first | refine blk_drewN ?_ _ | refine blk_drew ?_ | refine blk_alloc ?_ _)); refine blk_put (cs := #[.int .i64 t154, .int .i64 t155, .int .i64 t156, .int .i64 t157, .slice Ao28 t158.length co28, .string x152005_1, .slice none 0 0]) ?_ 5 _ rfl; (with_reducible repeat (first | refine blk_drewN ?_ _ | refine blk_drew ?_ | refine blk_alloc ?_ _)); refine blk_put (cs := #[.int .i64 t154, .int .i64 t155, .int .i64 t156, .int .i64 t157, .slice none 0 0, .string x152005_1, .slice none 0 0]) ?_ 4 _ rfl; (with_reducible repeat (first | refine blk_drewN ?_ _ | refine blk_drew ?_ | refine blk_alloc ?_ _)); refine blk_put (cs := #[.int .i64 t154, .int .i64 t155, .int .i64 t156, .int .i64 x152003_1, .slice none 0 0, .string x152005_1, .slice none 0 0]) ?_ 3 _ rfl; (with_reducible repeat (first | refine blk_drewN ?_ _ | refine blk_drew ?_ | refine blk_alloc ?_ _)); refine blk_put (cs := #[.int .i64 t154, .int .i64 t155, .int .i64 x152002_1, .int .i64 x152003_1, .slice none 0 0, .string x152005_1, .slice none 0 0]) ?_ 2 _ rfl; (with_reducible repeat (first | refine blk_drewN ?_ _ | refine blk_drew ?_ | refine blk_alloc ?_ _)); refine blk_put (cs := #[.int .i64 t154, .int .i64 x152001_1, .int .i64 x152002_1, .int .i64 x152003_1, .slice none 0 0, .string x152005_1, .slice none 0 0]) ?_ 1 _ rfl; (with_reducible repeat (first | refine blk_drewN ?_ _ | refine blk_drew ?_ | refine blk_alloc ?_ _)); refine blk_put (cs := #[.int .i64 x152000_1, .int .i64 x152001_1, .int .i64 x152002_1, .int .i64 x152003_1, .slice none 0 0, .string x152005_1, .slice none 0 0]) ?_ 0 _ rfl; (with_reducible repeat (first | refine blk_drewN ?_ _ | refine blk_drew ?_ | refine blk_alloc ?_ _)); exact BK151.out) Try.underlying26 rfl (by kernel_rfl)) rfl ?_
        exact ⟨_, _, by first | rfl | (simp [errW_none, errW_some] <;> rfl) | (simp [*, errW_none, errW_some] <;> rfl), by (with_reducible repeat (first | apply Kd.R_alloc | apply Kd.R_drewN | apply Kd.R_drew)); exact Kd.R_mono (Kd.R_far (p := ⟨gb151, 6, none⟩) (Kd.R_far (p := ⟨gb151, 5, none⟩) (Kd.R_far (p := ⟨gb151, 4, none⟩) (Kd.R_far (p := ⟨gb151, 3, none⟩) (Kd.R_far (p := ⟨gb151, 2, none⟩) (Kd.R_far (p := ⟨gb151, 1, none⟩) (Kd.R_far (p := ⟨gb151, 0, none⟩) (Kd.R_types HO160.out BK151.out (by decide)) (fun _ hk => hk.2) (.int .i64 t154)) (fun _ hk => hk.2) (.int .i64 t155)) (fun _ hk => hk.2) (.int .i64 t156)) (fun _ hk => hk.2) (.int .i64 t157)) (fun _ hk => hk.2) (.slice Ao28 t158.length co28)) (fun _ hk => hk.2) (.string t161)) (fun _ hk => hk.2) (.slice Ao29 t162.length co29)) (fun _ hk => hk.1.1), by (with_reducible repeat (first | apply Kd.R_alloc | apply Kd.R_drewN | apply Kd.R_drew)); exact Kd.R_mono (Kd.R_far (p := ⟨gb151, 6, none⟩) (Kd.R_far (p := ⟨gb151, 5, none⟩) (Kd.R_far (p := ⟨gb151, 4, none⟩) (Kd.R_far (p := ⟨gb151, 3, none⟩) (Kd.R_far (p := ⟨gb151, 2, none⟩) (Kd.R_far (p := ⟨gb151, 1, none⟩) (Kd.R_far (p := ⟨gb151, 0, none⟩) (Kd.R_mono HO164.out (fun k_ hk => (⟨hk, hk.2⟩ : _ ∧ k_ ≠ gb151))) (fun _ hk => hk.2) (.int .i64 t154)) (fun _ hk => hk.2) (.int .i64 t155)) (fun _ hk => hk.2) (.int .i64 t156)) (fun _ hk => hk.2) (.int .i64 t157)) (fun _ hk => hk.2) (.slice Ao28 t158.length co28)) (fun _ hk => hk.2) (.string t161)) (fun _ hk => hk.2) (.slice Ao29 t162.length co29)) (fun _ hk => ⟨hk.1.1.1.1, hk.1.1.1.2⟩), by repeat (first | (with_reducible first | exact HB.out | apply below_alloc | apply pw_below_drewN | apply below_drew1 | refine below_set ?_ GE150.out | refine below_set ?_ GE151.out) | exact HB.out)⟩

end Go.Proofs.Ytfekpmbecoeijaa.Q
