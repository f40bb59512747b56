import Derived.Test.YtfekpmbecoeijaaQ0
namespace Go.Proofs.Ytfekpmbecoeijaa.Q
open Go.RowKit Go.Proofs.YtfekpmbecoeijaaW.PrintWords Go.Proofs.YtfekpmbecoeijaaW.PrintLast Go.Proofs.YtfekpmbecoeijaaW.PrintMore
attribute [local go_sem] max2_int min2_int max_two min_two max_three min_three max_four min_four   -- for this text's walks alone
set_option linter.unusedVariables false
set_option linter.unusedSimpArgs false
def arboristref42_Own.l0 : Nat → ByteArray → Int → Int → Int → Int → Int → List (S76) → ByteArray → List (S26) → Option (ByteArray)
 | 0, _, _, _, _, _, _, _, _, _ => none
 | k + 1, x3, x4, x326000, x326001, x326002, x326003, x326004, x326005, x326006 => if x4 < (x326004.length : Int) then (if 0 ≤ x4 then (if x3.size + ((rd_T76 x326004 x4).f2).size ≤ 9223372036854775807 then (arboristref42_Own.l0 k (x3 ++ ((rd_T76 x326004 x4).f2)) (wrap64 (x4 + 1)) x326000 x326001 x326002 x326003 x326004 x326005 x326006) else (none)) else (none)) else (if x3.size + x326005.size ≤ 9223372036854775807 then (some (x3 ++ x326005)) else (none))
def arboristref42_Own.f (k : Nat) (a0_0 : Int) (a0_1 : Int) (a0_2 : Int) (a0_3 : Int) (l0_4 : List (S76)) (a0_5 : ByteArray) (l0_6 : List (S26)) : Option (ByteArray) := if a0_0 < 0 then (some (⟨#[]⟩ : ByteArray)) else (arboristref42_Own.l0 k (⟨#[]⟩ : ByteArray) 0 a0_0 a0_1 a0_2 a0_3 l0_4 a0_5 l0_6)
theorem arboristref42_Own.mono_l : ∀ k, (∀ y0 y1 y2 y3 y4 y5 y6 y7 y8, LeO (arboristref42_Own.l0 k y0 y1 y2 y3 y4 y5 y6 y7 y8) (arboristref42_Own.l0 (k + 1) y0 y1 y2 y3 y4 y5 y6 y7 y8))
 | 0 => fun _ _ _ _ _ _ _ _ _ r h => by simp [arboristref42_Own.l0] at h
 | k + 1 => by
  have ih0 := arboristref42_Own.mono_l k
  ·intro y0 y1 y2 y3 y4 y5 y6 y7 y8
   unfold arboristref42_Own.l0
   repeat' first
   | (with_reducible exact ih0 _ _ _ _ _ _ _ _ _)
   | (with_reducible exact LeO.refl _)
   | (with_reducible exact LeO.none _)
   | (with_reducible refine LeO.ite ?_ ?_)
   | (with_reducible refine LeO.bind ?_ (fun _ => ?_))
   | exact ih0 _ _ _ _ _ _ _ _ _
   | exact LeO.none _
   | refine LeO.ite ?_ ?_
   | refine LeO.bind ?_ (fun _ => ?_)
theorem arboristref42_Own.mono : ∀ a0 a1 a2 a3 a4 a5 a6 k, LeO (arboristref42_Own.f k a0 a1 a2 a3 a4 a5 a6) (arboristref42_Own.f (k + 1) a0 a1 a2 a3 a4 a5 a6) := by
 intro a0 a1 a2 a3 a4 a5 a6 k
 have ih0 := arboristref42_Own.mono_l k
 unfold arboristref42_Own.f
 repeat' first
   | (with_reducible exact ih0 _ _ _ _ _ _ _ _ _)
   | (with_reducible exact LeO.refl _)
   | (with_reducible exact LeO.none _)
   | (with_reducible refine LeO.ite ?_ ?_)
   | (with_reducible refine LeO.bind ?_ (fun _ => ?_))
   | exact ih0 _ _ _ _ _ _ _ _ _
   | exact LeO.none _
   | refine LeO.ite ?_ ?_
   | refine LeO.bind ?_ (fun _ => ?_)
set_option maxHeartbeats 8000000 in
set_option maxRecDepth 100000 in
theorem arboristref42_Own.calls (k : Nat) (a0_0 : Int) (a0_1 : Int) (a0_2 : Int) (a0_3 : Int) (A0_4 : Option Addr) (c0_4 : Nat) (l0_4 : List (S76)) (a0_5 : ByteArray) (A0_6 : Option Addr) (c0_6 : Nat) (l0_6 : List (S26)) (r : ByteArray) (w : World) (hr0_4 : Kd.C k76 w A0_4 l0_4.length l0_4) (hc0_4 : l0_4.length ≤ c0_4) (hr0_6 : Kd.C k26 w A0_6 l0_6.length l0_6) (hc0_6 : l0_6.length ≤ c0_6) (h : arboristref42_Own.f k a0_0 a0_1 a0_2 a0_3 l0_4 a0_5 l0_6 = some r) :
  Calls Try.prog 27 #[.agg #[.int .i64 a0_0, .int .i64 a0_1, .int .i64 a0_2, .int .i64 a0_3, .slice A0_4 l0_4.length c0_4, .string a0_5, .slice A0_6 l0_6.length c0_6]] w fun e w' => e = .returned (.string r) ∧ Below w.heap.size w w' := by
 have hu26 := Try.underlying26
 have HR0_4 := Aside0.mk hr0_4
 have HC0_4 := Aside0.mk hc0_4
 clear hr0_4 hc0_4
 have HR0_6 := Aside0.mk hr0_6
 have HC0_6 := Aside0.mk hc0_6
 clear hr0_6 hc0_6
 have HB := Aside0.mk (Below.refl w.heap.size w)
 have H : (if a0_0 < 0 then (some (⟨#[]⟩ : ByteArray)) else (arboristref42_Own.l0 k (⟨#[]⟩ : ByteArray) 0 a0_0 a0_1 a0_2 a0_3 l0_4 a0_5 l0_6)) = some r := h
 clear h
 by_cases c2 : a0_0 < 0
 ·rw [if_pos c2] at H
  have c2b0 : decide (a0_0 < 0) = true := decide_eq_true c2
  clear c2
  obtain rfl := Option.some.inj H
  go_enter Try.func27, Try.ntmps27
  go_wp2_with (first | ((with_reducible refine gate_dst (N := 1) rfl ?_); refine box_event ?hg (N := 1) ?hd (cs := #[.int .i64 a0_0, .int .i64 a0_1, .int .i64 a0_2, .int .i64 a0_3, .slice A0_4 l0_4.length c0_4, .string a0_5, .slice A0_6 l0_6.length c0_6]) (t := 26) ?hr ?_; (case hd => rfl); (case hg => rfl); (case hr => first | (go_simp; done) | (go_simp; rfl)); intro gb325 hg w3 hbox hb; have n0_ := Aside0.mk (below_step (by repeat (first | (with_reducible first | exact HB.out | apply below_alloc | apply pw_below_drewN | apply below_drew1) | exact HB.out)) hb); have n1_ := Aside0.mk (hbox); have n2_ := Aside0.mk ((by rw [hg]; exact (below_size (by repeat (first | (with_reducible first | exact HB.out | apply below_alloc | apply pw_below_drewN | apply below_drew1) | exact HB.out))) : w.heap.size ≤ gb325)); have n3_ := Aside0.mk ((by rw [hg]; exact (below_size (by repeat (first | (with_reducible first | exact HB.out | apply below_alloc | apply pw_below_drewN | apply below_drew1) | exact HB.out))) : w.heap.size ≤ gb325)); clear HB; have HB := n0_; have BK325 := n1_; have GW325 := n2_; have GE325 := n3_; clear n0_ n1_ n2_ n3_; clear hb hbox hg; have hcz4_0 : w3.cell? ⟨gb325, 0, none⟩ = some (.int .i64 a0_0) := (blk_cell BK325.out 0).trans rfl; have hcz4_1 : w3.cell? ⟨gb325, 1, none⟩ = some (.int .i64 a0_1) := (blk_cell BK325.out 1).trans rfl; have hcz4_2 : w3.cell? ⟨gb325, 2, none⟩ = some (.int .i64 a0_2) := (blk_cell BK325.out 2).trans rfl; have hcz4_3 : w3.cell? ⟨gb325, 3, none⟩ = some (.int .i64 a0_3) := (blk_cell BK325.out 3).trans rfl; have hcz4_4 : w3.cell? ⟨gb325, 4, none⟩ = some (.slice A0_4 l0_4.length c0_4) := (blk_cell BK325.out 4).trans rfl; have hcz4_5 : w3.cell? ⟨gb325, 5, none⟩ = some (.string a0_5) := (blk_cell BK325.out 5).trans rfl; have hcz4_6 : w3.cell? ⟨gb325, 6, none⟩ = some (.slice A0_6 l0_6.length c0_6) := (blk_cell BK325.out 6).trans rfl; have hfz4_0 := blk_frozen BK325.out 0; have hfz4_1 := blk_frozen BK325.out 1; have hfz4_2 := blk_frozen BK325.out 2; have hfz4_3 := blk_frozen BK325.out 3; have hfz4_4 := blk_frozen BK325.out 4; have hfz4_5 := blk_frozen BK325.out 5; have hfz4_6 := blk_frozen BK325.out 6))
  go_ret
  exact ⟨by first | rfl | (simp [errW_none, errW_some] <;> rfl) | (simp [*, errW_none, errW_some] <;> rfl), by repeat (first | (with_reducible first | exact HB.out | apply below_alloc | apply pw_below_drewN | apply below_drew1 | refine below_set ?_ GE325.out) | exact HB.out)⟩
 ·rw [if_neg c2] at H
  have c2b0 : decide (a0_0 < 0) = false := decide_eq_false c2
  clear c2
  have H' := Aside0.mk H
  clear H
  go_enter Try.func27, Try.ntmps27
  go_wp2_with (first | ((with_reducible refine gate_dst (N := 1) rfl ?_); refine box_event ?hg (N := 1) ?hd (cs := #[.int .i64 a0_0, .int .i64 a0_1, .int .i64 a0_2, .int .i64 a0_3, .slice A0_4 l0_4.length c0_4, .string a0_5, .slice A0_6 l0_6.length c0_6]) (t := 26) ?hr ?_; (case hd => rfl); (case hg => rfl); (case hr => first | (go_simp; done) | (go_simp; rfl)); intro gb325 hg w5 hbox hb; have n0_ := Aside0.mk (below_step (by repeat (first | (with_reducible first | exact HB.out | apply below_alloc | apply pw_below_drewN | apply below_drew1) | exact HB.out)) hb); have n1_ := Aside0.mk (hbox); have n2_ := Aside0.mk ((by rw [hg]; exact (below_size (by repeat (first | (with_reducible first | exact HB.out | apply below_alloc | apply pw_below_drewN | apply below_drew1) | exact HB.out))) : w.heap.size ≤ gb325)); have n3_ := Aside0.mk ((by rw [hg]; exact (below_size (by repeat (first | (with_reducible first | exact HB.out | apply below_alloc | apply pw_below_drewN | apply below_drew1) | exact HB.out))) : w.heap.size ≤ gb325)); clear HB; have HB := n0_; have BK325 := n1_; have GW325 := n2_; have GE325 := n3_; clear n0_ n1_ n2_ n3_; clear hb hbox hg; have hcz6_0 : w5.cell? ⟨gb325, 0, none⟩ = some (.int .i64 a0_0) := (blk_cell BK325.out 0).trans rfl; have hcz6_1 : w5.cell? ⟨gb325, 1, none⟩ = some (.int .i64 a0_1) := (blk_cell BK325.out 1).trans rfl; have hcz6_2 : w5.cell? ⟨gb325, 2, none⟩ = some (.int .i64 a0_2) := (blk_cell BK325.out 2).trans rfl; have hcz6_3 : w5.cell? ⟨gb325, 3, none⟩ = some (.int .i64 a0_3) := (blk_cell BK325.out 3).trans rfl; have hcz6_4 : w5.cell? ⟨gb325, 4, none⟩ = some (.slice A0_4 l0_4.length c0_4) := (blk_cell BK325.out 4).trans rfl; have hcz6_5 : w5.cell? ⟨gb325, 5, none⟩ = some (.string a0_5) := (blk_cell BK325.out 5).trans rfl; have hcz6_6 : w5.cell? ⟨gb325, 6, none⟩ = some (.slice A0_6 l0_6.length c0_6) := (blk_cell BK325.out 6).trans rfl; have hfz6_0 := blk_frozen BK325.out 0; have hfz6_1 := blk_frozen BK325.out 1; have hfz6_2 := blk_frozen BK325.out 2; have hfz6_3 := blk_frozen BK325.out 3; have hfz6_4 := blk_frozen BK325.out 4; have hfz6_5 := blk_frozen BK325.out 5; have hfz6_6 := blk_frozen BK325.out 6))
  go_loopg [3, 4] k (fun kq v3 v4 w' => ∃ (x3_1 : ByteArray) (x4_1 : Int), v3 = .string x3_1 ∧ v4 = .int .i64 x4_1 ∧ Aside0 (arboristref42_Own.l0 kq x3_1 x4_1 a0_0 a0_1 a0_2 a0_3 l0_4 a0_5 l0_6 = some r) ∧ Aside0 (kq ≤ k) ∧ Aside0 (w'.heap[gb325]? = some (.cells #[.int .i64 a0_0, .int .i64 a0_1, .int .i64 a0_2, .int .i64 a0_3, (.slice A0_4 l0_4.length c0_4), .string a0_5, (.slice A0_6 l0_6.length c0_6)] 26 (0, 0))) ∧ Aside0 (Below w.heap.size w w'))
  case atStart => exact ⟨((⟨#[]⟩ : ByteArray)), (0), (by first | rfl | (simp; done) | (simp [*]; done) | (refine congrArg Value.bool ?_; exact (show ∀ l_ : List UInt8, (!l_.isEmpty) = (l_ != []) from fun l_ => by cases l_ <;> rfl) _)), (by first | rfl | (simp; done) | (simp [*]; done) | (refine congrArg Value.bool ?_; exact (show ∀ l_ : List UInt8, (!l_.isEmpty) = (l_ != []) from fun l_ => by cases l_ <;> rfl) _)), H', ⟨Nat.le_refl _⟩, ⟨by (with_reducible repeat (first | refine blk_drewN ?_ _ | refine blk_drew ?_ | refine blk_alloc ?_ _)); exact BK325.out⟩, ⟨by repeat (first | (with_reducible first | exact HB.out | apply below_alloc | apply pw_below_drewN | apply below_drew1 | refine below_set ?_ GE325.out) | exact HB.out)⟩⟩
  case round =>
   clear H'
   try clear c2
   try clear c2b0
   try clear p2
   try clear hcz4_0
   try clear hcz4_1
   try clear hcz4_2
   try clear hcz4_3
   try clear hcz4_4
   try clear hcz4_5
   try clear hcz4_6
   try clear hcz6_0
   try clear hcz6_1
   try clear hcz6_2
   try clear hcz6_3
   try clear hcz6_4
   try clear hcz6_5
   try clear hcz6_6
   try clear hfz4_0
   try clear hfz4_1
   try clear hfz4_2
   try clear hfz4_3
   try clear hfz4_4
   try clear hfz4_5
   try clear hfz4_6
   try clear hfz6_0
   try clear hfz6_1
   try clear hfz6_2
   try clear hfz6_3
   try clear hfz6_4
   try clear hfz6_5
   try clear hfz6_6
   obtain ⟨x3_1, x4_1, rfl, rfl, HA, HK1, BK325, HB⟩ := hrel
   cases gk with
   | zero => exact absurd HA.out (by simp [arboristref42_Own.l0])
   | succ k1 =>
    have H := HA.out
    clear HA
    simp only [arboristref42_Own.l0] at H
    by_cases c7 : x4_1 < (l0_4.length : Int)
    ·rw [if_pos c7] at H
     have c7b0 : decide (x4_1 < (l0_4.length : Int)) = true := decide_eq_true c7
     clear c7
     by_cases c8 : 0 ≤ x4_1
     ·rw [if_pos c8] at H
      have c8b0 : decide (0 ≤ x4_1) = true := decide_eq_true c8
      clear c8
      by_cases c9 : x3_1.size + ((rd_T76 l0_4 x4_1).f2).size ≤ 9223372036854775807
      ·rw [if_pos c9] at H
       have c9b0 := eq_true c9
       have c9b1 : decide (x3_1.size + ((rd_T76 l0_4 x4_1).f2).size ≤ 9223372036854775807) = true := decide_eq_true c9
       try have c9b2 : (9223372036854775807 < x3_1.size + ((rd_T76 l0_4 x4_1).f2).size) = False := eq_false (Nat.not_lt.2 c9)
       have H' := Aside0.mk H
       clear H
       have hcz10_0 : wr.cell? ⟨gb325, 0, none⟩ = some (.int .i64 a0_0) := (blk_cell BK325.out 0).trans rfl
       have hcz10_1 : wr.cell? ⟨gb325, 1, none⟩ = some (.int .i64 a0_1) := (blk_cell BK325.out 1).trans rfl
       have hcz10_2 : wr.cell? ⟨gb325, 2, none⟩ = some (.int .i64 a0_2) := (blk_cell BK325.out 2).trans rfl
       have hcz10_3 : wr.cell? ⟨gb325, 3, none⟩ = some (.int .i64 a0_3) := (blk_cell BK325.out 3).trans rfl
       have hcz10_4 : wr.cell? ⟨gb325, 4, none⟩ = some (.slice A0_4 l0_4.length c0_4) := (blk_cell BK325.out 4).trans rfl
       have hcz10_5 : wr.cell? ⟨gb325, 5, none⟩ = some (.string a0_5) := (blk_cell BK325.out 5).trans rfl
       have hcz10_6 : wr.cell? ⟨gb325, 6, none⟩ = some (.slice A0_6 l0_6.length c0_6) := (blk_cell BK325.out 6).trans rfl
       have hfz10_0 := blk_frozen BK325.out 0
       have hfz10_1 := blk_frozen BK325.out 1
       have hfz10_2 := blk_frozen BK325.out 2
       have hfz10_3 := blk_frozen BK325.out 3
       have hfz10_4 := blk_frozen BK325.out 4
       have hfz10_5 := blk_frozen BK325.out 5
       have hfz10_6 := blk_frozen BK325.out 6
       have p326 : 0 ≤ (x4_1 : Int) := of_decide_eq_true (by first | (with_reducible assumption) | assumption)
       have q326 : x4_1 < (l0_4.length : Int) := of_decide_eq_true (by first | (with_reducible assumption) | assumption)
       obtain ⟨ad326, e326, hx326_0, hx326_1, hx326_2⟩ := at_T76 HR0_4.out x4_1 p326 q326
       cases e326
       replace hx326_0 := (HB.out.cell (World.block_lt_of_cell? w _ hx326_0)).trans hx326_0
       replace hx326_1 := (HB.out.cell (World.block_lt_of_cell? w _ hx326_1)).trans hx326_1
       replace hx326_2 := (HB.out.cell (World.block_lt_of_cell? w _ hx326_2)).trans hx326_2
       replace p326 := eq_true p326
       replace q326 := eq_true q326
       go_wp2
       go_roundg k1
       case measure => have := HK1.out; omega
       case rel => exact ⟨(x3_1 ++ ((rd_T76 l0_4 x4_1).f2)), (wrap64 (x4_1 + 1)), (by first | rfl | (simp; done) | (simp [*]; done) | (refine congrArg Value.bool ?_; exact (show ∀ l_ : List UInt8, (!l_.isEmpty) = (l_ != []) from fun l_ => by cases l_ <;> rfl) _)), (by first | rfl | (simp; done) | (simp [*]; done) | (refine congrArg Value.bool ?_; exact (show ∀ l_ : List UInt8, (!l_.isEmpty) = (l_ != []) from fun l_ => by cases l_ <;> rfl) _)), H', ⟨by have := HK1.out; omega⟩, ⟨by (with_reducible repeat (first | refine blk_drewN ?_ _ | refine blk_drew ?_ | refine blk_alloc ?_ _)); exact BK325.out⟩, ⟨by repeat (first | (with_reducible first | exact HB.out | apply below_alloc | apply pw_below_drewN | apply below_drew1 | refine below_set ?_ GE325.out) | exact HB.out)⟩⟩
      ·rw [if_neg c9] at H
       exact absurd H (by simp)
     ·rw [if_neg c8] at H
      exact absurd H (by simp)
    ·rw [if_neg c7] at H
     have c7b0 : decide (x4_1 < (l0_4.length : Int)) = false := decide_eq_false c7
     clear c7
     by_cases c11 : x3_1.size + a0_5.size ≤ 9223372036854775807
     ·rw [if_pos c11] at H
      have c11b0 := eq_true c11
      have c11b1 : decide (x3_1.size + a0_5.size ≤ 9223372036854775807) = true := decide_eq_true c11
      try have c11b2 : (9223372036854775807 < x3_1.size + a0_5.size) = False := eq_false (Nat.not_lt.2 c11)
      obtain rfl := Option.some.inj H
      have hcz12_0 : wr.cell? ⟨gb325, 0, none⟩ = some (.int .i64 a0_0) := (blk_cell BK325.out 0).trans rfl
      have hcz12_1 : wr.cell? ⟨gb325, 1, none⟩ = some (.int .i64 a0_1) := (blk_cell BK325.out 1).trans rfl
      have hcz12_2 : wr.cell? ⟨gb325, 2, none⟩ = some (.int .i64 a0_2) := (blk_cell BK325.out 2).trans rfl
      have hcz12_3 : wr.cell? ⟨gb325, 3, none⟩ = some (.int .i64 a0_3) := (blk_cell BK325.out 3).trans rfl
      have hcz12_4 : wr.cell? ⟨gb325, 4, none⟩ = some (.slice A0_4 l0_4.length c0_4) := (blk_cell BK325.out 4).trans rfl
      have hcz12_5 : wr.cell? ⟨gb325, 5, none⟩ = some (.string a0_5) := (blk_cell BK325.out 5).trans rfl
      have hcz12_6 : wr.cell? ⟨gb325, 6, none⟩ = some (.slice A0_6 l0_6.length c0_6) := (blk_cell BK325.out 6).trans rfl
      have hfz12_0 := blk_frozen BK325.out 0
      have hfz12_1 := blk_frozen BK325.out 1
      have hfz12_2 := blk_frozen BK325.out 2
      have hfz12_3 := blk_frozen BK325.out 3
      have hfz12_4 := blk_frozen BK325.out 4
      have hfz12_5 := blk_frozen BK325.out 5
      have hfz12_6 := blk_frozen BK325.out 6
      go_wp2
      go_ret
      exact ⟨by first | rfl | (simp [errW_none, errW_some] <;> rfl) | (simp [*, errW_none, errW_some] <;> rfl), by repeat (first | (with_reducible first | exact HB.out | apply below_alloc | apply pw_below_drewN | apply below_drew1 | refine below_set ?_ GE325.out) | exact HB.out)⟩
     ·rw [if_neg c11] at H
      exact absurd H (by simp)
end Go.Proofs.Ytfekpmbecoeijaa.Q
