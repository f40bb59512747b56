import Derived.Test.YtgdbcogbbghjaaaQ0
import Derived.Test.YtgdbcogbbghjaaaQf32
namespace Go.Proofs.Ytgdbcogbbghjaaa.Q
open Go.RowKit Go.Proofs.YtgdbcogbbghjaaaW.PrintWords Go.Proofs.YtgdbcogbbghjaaaW.PrintLast Go.Proofs.YtgdbcogbbghjaaaW.PrintMore
attribute [local go_sem] max2_int min2_int max_two min_two max_three min_three max_four min_four   -- for this text's walks alone
set_option linter.unusedVariables false
set_option linter.unusedSimpArgs false
def arboristref46_Get.l0 : Nat → ByteArray → List (S65) → List (S32) → Int → Option ((List (S32)))
 | 0, _, _, _, _ => none
 | k + 1, x2, x7, x8, x9 => if x9 < (x7.length : Int) then (if x2.toList = ([] : List UInt8) then (arboristref46_Get.l0 k x2 x7 x8 (wrap64 (x9 + 1))) else (if 0 ≤ x9 then (if ((rd_T65 x7 x9).f2).toList = x2.toList then (if x8.length < 1466015503701 then (arboristref46_Get.l0 k x2 x7 (x8 ++ [(⟨(rd_T65 x7 x9).f0.f0, (rd_T65 x7 x9).f0.f1, (rd_T65 x7 x9).f0.f2, (rd_T65 x7 x9).f0.f3, (rd_T65 x7 x9).f0.f4, (rd_T65 x7 x9).f0.f5, (rd_T65 x7 x9).f0.f6⟩ : S32)]) (wrap64 (x9 + 1))) else (none)) else (arboristref46_Get.l0 k x2 x7 x8 (wrap64 (x9 + 1)))) else (none))) else (some x8)
def arboristref46_Get.f (k : Nat) (l0_0 : List ByteArray) (l0_1 : List ByteArray) (l0_2 : List Int) (l0_3 : List (S67)) (l0_4 : List (S78)) (a1_0 : Int) (a1_1 : Int) (a1_2 : Int) (a1_3 : Int) (l1_4 : List (S53)) (a1_5 : ByteArray) (l1_6 : List (S32)) (a2 : ByteArray) : Option ((List (S32))) := (arboristref46_All.f k l0_0 l0_1 l0_2 l0_3 l0_4 a1_0 a1_1 a1_2 a1_3 l1_4 a1_5 l1_6 ([] : List Int) (⟨#[]⟩ : ByteArray)).bind fun t277 => (arboristref46_Get.l0 k a2 t277 ([] : List (S32)) 0)
set_option maxHeartbeats 8000000 in
set_option maxRecDepth 100000 in
theorem arboristref46_Get.calls (k : Nat) (A0_0 : Option Addr) (c0_0 : Nat) (l0_0 : List ByteArray) (A0_1 : Option Addr) (c0_1 : Nat) (l0_1 : List ByteArray) (A0_2 : Option Addr) (c0_2 : Nat) (l0_2 : List Int) (A0_3 : Option Addr) (c0_3 : Nat) (l0_3 : List (S67)) (A0_4 : Option Addr) (c0_4 : Nat) (l0_4 : List (S78)) (a1_0 : Int) (a1_1 : Int) (a1_2 : Int) (a1_3 : Int) (A1_4 : Option Addr) (c1_4 : Nat) (l1_4 : List (S53)) (a1_5 : ByteArray) (P1_6_ : Nat → Prop) (A1_6 : Option Addr) (c1_6 : Nat) (l1_6 : List (S32)) (a2 : ByteArray) (r : List (S32)) (w : World) (hr0_0 : Kd.C Kd.string w A0_0 l0_0.length l0_0) (hc0_0 : l0_0.length ≤ c0_0) (hr0_1 : Kd.C Kd.string w A0_1 l0_1.length l0_1) (hc0_1 : l0_1.length ≤ c0_1) (hr0_2 : Kd.C (Kd.int .i64) w A0_2 l0_2.length l0_2) (hc0_2 : l0_2.length ≤ c0_2) (hr0_3 : Kd.C k67 w A0_3 l0_3.length l0_3) (hc0_3 : l0_3.length ≤ c0_3) (hr0_4 : Kd.C k78 w A0_4 l0_4.length l0_4) (hc0_4 : l0_4.length ≤ c0_4) (hr1_4 : Kd.C k53 w A1_4 l1_4.length l1_4) (hc1_4 : l1_4.length ≤ c1_4) (hs1_6 : Kd.V k32 32 w w.heap.size (fun k_ => P1_6_ k_) (.slice A1_6 l1_6.length c1_6) l1_6) (h : arboristref46_Get.f k l0_0 l0_1 l0_2 l0_3 l0_4 a1_0 a1_1 a1_2 a1_3 l1_4 a1_5 l1_6 a2 = some r) :
  Calls Try.prog 22 #[.agg #[.slice A0_0 l0_0.length c0_0, .slice A0_1 l0_1.length c0_1, .slice A0_2 l0_2.length c0_2, .slice A0_3 l0_3.length c0_3, .slice A0_4 l0_4.length c0_4], .agg #[.int .i64 a1_0, .int .i64 a1_1, .int .i64 a1_2, .int .i64 a1_3, .slice A1_4 l1_4.length c1_4, .string a1_5, .slice A1_6 l1_6.length c1_6], .string a2] w fun e w' => ∃ v0_ : Value, e = .returned (v0_) ∧ Kd.N k32 32 w' w.heap.size (fun k_ => (P1_6_ k_ ∨ w.heap.size ≤ k_)) v0_ r ∧ Below w.heap.size w w' := by
 have hu27 := Try.underlying27
 have hu32 := Try.underlying32
 have HR0_0 := Az.mk hr0_0
 have HC0_0 := Az.mk hc0_0
 clear hr0_0 hc0_0
 have HR0_1 := Az.mk hr0_1
 have HC0_1 := Az.mk hc0_1
 clear hr0_1 hc0_1
 have HR0_2 := Az.mk hr0_2
 have HC0_2 := Az.mk hc0_2
 clear hr0_2 hc0_2
 have HR0_3 := Az.mk hr0_3
 have HC0_3 := Az.mk hc0_3
 clear hr0_3 hc0_3
 have HR0_4 := Az.mk hr0_4
 have HC0_4 := Az.mk hc0_4
 clear hr0_4 hc0_4
 have HR1_4 := Az.mk hr1_4
 have HC1_4 := Az.mk hc1_4
 clear hr1_4 hc1_4
 have HO1_6 := Az.mk (show Kd.V k32 32 w w.heap.size (fun k_ => (P1_6_ k_ ∨ w.heap.size ≤ k_)) (.slice A1_6 l1_6.length c1_6) l1_6 from Kd.V_mono hs1_6 (fun k_ hk => .inl hk))
 have HB := Az.mk (Below.refl w.heap.size w)
 have H : ((arboristref46_All.f k l0_0 l0_1 l0_2 l0_3 l0_4 a1_0 a1_1 a1_2 a1_3 l1_4 a1_5 l1_6 ([] : List Int) (⟨#[]⟩ : ByteArray)).bind fun t277 => (arboristref46_Get.l0 k a2 t277 ([] : List (S32)) 0)) = some r := h
 clear h
 replace H := Option.bind_eq_some_iff.mp H
 obtain ⟨t277, A40, H⟩ := H
 replace H : (arboristref46_Get.l0 k a2 t277 ([] : List (S32)) 0) = some r := H
 have A4 := Az.mk A40
 clear A40
 have H' := Az.mk H
 clear H
 go_enter Try.func22, Try.ntmps22
 go_wp2_with (first | ((with_reducible refine gate_dst (N := 3) rfl ?_); refine box_event ?hg (N := 3) ?hd (cs := #[.slice A0_0 l0_0.length c0_0, .slice A0_1 l0_1.length c0_1, .slice A0_2 l0_2.length c0_2, .slice A0_3 l0_3.length c0_3, .slice A0_4 l0_4.length c0_4]) (t := 27) ?hr ?_; (case hd => rfl); (case hg => rfl); (case hr => first | (go_simp; done) | (go_simp; rfl)); intro gb275 hg w5 hbox hb; have n0_ := Az.mk (Kd.V_below (Kd.V_elderB (by (with_reducible repeat (first | apply Kd.V_alloc | apply Kd.V_drewN | apply Kd.V_drew)); exact HO1_6.out) gb275 (Nat.le_of_eq hg.symm)) hb); have n1_ := Az.mk (bT_ (by repeat (first | (with_reducible first | exact HB.out | apply bA_ | apply bN_ | apply bD_) | exact HB.out)) hb); have n2_ := Az.mk (hbox); have n3_ := Az.mk ((by rw [hg]; exact (bZ_ (by repeat (first | (with_reducible first | exact HB.out | apply bA_ | apply bN_ | apply bD_) | exact HB.out))) : w.heap.size ≤ gb275)); have n4_ := Az.mk ((by rw [hg]; exact (bZ_ (by repeat (first | (with_reducible first | exact HB.out | apply bA_ | apply bN_ | apply bD_) | exact HB.out))) : w.heap.size ≤ gb275)); clear HO1_6; clear HB; have HO1_6 := n0_; have HB := n1_; have BK275 := n2_; have GW275 := n3_; have GE275 := n4_; clear n0_ n1_ n2_ n3_ n4_; clear hb hbox hg) | ((with_reducible refine gate_dst (N := 4) rfl ?_); refine box_event ?hg (N := 4) ?hd (cs := #[.int .i64 a1_0, .int .i64 a1_1, .int .i64 a1_2, .int .i64 a1_3, .slice A1_4 l1_4.length c1_4, .string a1_5, .slice A1_6 l1_6.length c1_6]) (t := 32) ?hr ?_; (case hd => rfl); (case hg => rfl); (case hr => first | (go_simp; done) | (go_simp; rfl)); intro gb276 hg w6 hbox hb; have n0_ := Az.mk (Kd.V_below (Kd.V_elderB (by (with_reducible repeat (first | apply Kd.V_alloc | apply Kd.V_drewN | apply Kd.V_drew)); exact HO1_6.out) gb276 (Nat.le_of_eq hg.symm)) hb); have n1_ := Az.mk (kB_ (g := gb275) (o := .cells #[.slice A0_0 l0_0.length c0_0, .slice A0_1 l0_1.length c0_1, .slice A0_2 l0_2.length c0_2, .slice A0_3 l0_3.length c0_3, .slice A0_4 l0_4.length c0_4] 27 (0, 0)) (by (with_reducible repeat (first | refine kN_ ?_ _ | refine kD_ ?_ | refine kA_ ?_ _)); exact BK275.out) hb); have n2_ := Az.mk (bT_ (by repeat (first | (with_reducible first | exact HB.out | apply bA_ | apply bN_ | apply bD_ | refine bS_ ?_ GE275.out) | exact HB.out)) hb); have n3_ := Az.mk (hbox); have n4_ := Az.mk ((by rw [hg]; exact (bZ_ (by repeat (first | (with_reducible first | exact HB.out | apply bA_ | apply bN_ | apply bD_ | refine bS_ ?_ GE275.out) | exact HB.out))) : w.heap.size ≤ gb276)); have n5_ := Az.mk ((by rw [hg]; exact (bZ_ (by repeat (first | (with_reducible first | exact HB.out | apply bA_ | apply bN_ | apply bD_ | refine bS_ ?_ GE275.out) | exact HB.out))) : w.heap.size ≤ gb276)); have n6_ := Az.mk ((by rw [hg]; exact Nat.ne_of_lt (blk_lt (g := gb275) (o := .cells #[.slice A0_0 l0_0.length c0_0, .slice A0_1 l0_1.length c0_1, .slice A0_2 l0_2.length c0_2, .slice A0_3 l0_3.length c0_3, .slice A0_4 l0_4.length c0_4] 27 (0, 0)) (by (with_reducible repeat (first | refine kN_ ?_ _ | refine kD_ ?_ | refine kA_ ?_ _)); exact BK275.out)) : gb275 ≠ gb276)); have n7_ := Az.mk ((by rw [hg]; exact Nat.ne_of_gt (blk_lt (g := gb275) (o := .cells #[.slice A0_0 l0_0.length c0_0, .slice A0_1 l0_1.length c0_1, .slice A0_2 l0_2.length c0_2, .slice A0_3 l0_3.length c0_3, .slice A0_4 l0_4.length c0_4] 27 (0, 0)) (by (with_reducible repeat (first | refine kN_ ?_ _ | refine kD_ ?_ | refine kA_ ?_ _)); exact BK275.out)) : gb276 ≠ gb275)); clear HO1_6; clear BK275; clear HB; have HO1_6 := n0_; have BK275 := n1_; have HB := n2_; have BK276 := n3_; have GW276 := n4_; have GE276 := n5_; have NB275_276 := n6_; have NB276_275 := n7_; clear n0_ n1_ n2_ n3_ n4_ n5_ n6_ n7_; clear hb hbox hg; have hnb7 := NB275_276.out; have hnc7 := NB276_275.out; have hcz8_0 : w6.cell? ⟨gb275, 0, none⟩ = some (.slice A0_0 l0_0.length c0_0) := (bC_ BK275.out 0).trans rfl; have hcz8_1 : w6.cell? ⟨gb275, 1, none⟩ = some (.slice A0_1 l0_1.length c0_1) := (bC_ BK275.out 1).trans rfl; have hcz8_2 : w6.cell? ⟨gb275, 2, none⟩ = some (.slice A0_2 l0_2.length c0_2) := (bC_ BK275.out 2).trans rfl; have hcz8_3 : w6.cell? ⟨gb275, 3, none⟩ = some (.slice A0_3 l0_3.length c0_3) := (bC_ BK275.out 3).trans rfl; have hcz8_4 : w6.cell? ⟨gb275, 4, none⟩ = some (.slice A0_4 l0_4.length c0_4) := (bC_ BK275.out 4).trans rfl; have hfz8_0 := bF_ BK275.out 0; have hfz8_1 := bF_ BK275.out 1; have hfz8_2 := bF_ BK275.out 2; have hfz8_3 := bF_ BK275.out 3; have hfz8_4 := bF_ BK275.out 4; have hcz9_0 : w6.cell? ⟨gb276, 0, none⟩ = some (.int .i64 a1_0) := (bC_ BK276.out 0).trans rfl; have hcz9_1 : w6.cell? ⟨gb276, 1, none⟩ = some (.int .i64 a1_1) := (bC_ BK276.out 1).trans rfl; have hcz9_2 : w6.cell? ⟨gb276, 2, none⟩ = some (.int .i64 a1_2) := (bC_ BK276.out 2).trans rfl; have hcz9_3 : w6.cell? ⟨gb276, 3, none⟩ = some (.int .i64 a1_3) := (bC_ BK276.out 3).trans rfl; have hcz9_4 : w6.cell? ⟨gb276, 4, none⟩ = some (.slice A1_4 l1_4.length c1_4) := (bC_ BK276.out 4).trans rfl; have hcz9_5 : w6.cell? ⟨gb276, 5, none⟩ = some (.string a1_5) := (bC_ BK276.out 5).trans rfl; have hcz9_6 : w6.cell? ⟨gb276, 6, none⟩ = some (.slice A1_6 l1_6.length c1_6) := (bC_ BK276.out 6).trans rfl; have hfz9_0 := bF_ BK276.out 0; have hfz9_1 := bF_ BK276.out 1; have hfz9_2 := bF_ BK276.out 2; have hfz9_3 := bF_ BK276.out 3; have hfz9_4 := bF_ BK276.out 4; have hfz9_5 := bF_ BK276.out 5; have hfz9_6 := bF_ BK276.out 6) | ((with_reducible refine gate_callee (f := 32) rfl ?_); refine goesL_ (some 12) rfl rfl Try.func32 (by kernel_rfl) rfl #[.agg #[.slice A0_0 l0_0.length c0_0, .slice A0_1 l0_1.length c0_1, .slice A0_2 l0_2.length c0_2, .slice A0_3 l0_3.length c0_3, .slice A0_4 l0_4.length c0_4], .agg #[.int .i64 a1_0, .int .i64 a1_1, .int .i64 a1_2, .int .i64 a1_3, .slice A1_4 l1_4.length c1_4, .string a1_5, .slice A1_6 l1_6.length c1_6], .slice none 0 0, .string (⟨#[]⟩ : ByteArray)] rfl (by (try simp only [List.map_toArray, List.map_cons, List.map_nil]); first | done | rfl | (simp only [List.length_drop, List.length_take]; rfl)) ?_; (refine (arboristref46_All.calls k _ _ l0_0 _ _ l0_1 _ _ l0_2 _ _ l0_3 _ _ l0_4 a1_0 a1_1 a1_2 a1_3 _ _ l1_4 a1_5 (fun k_ => (((P1_6_ k_ ∨ w.heap.size ≤ k_) ∧ k_ ≠ gb275) ∧ k_ ≠ gb276)) _ _ l1_6 _ _ ([] : List Int) (⟨#[]⟩ : ByteArray) t277 _ ?side1 ?side2 ?side3 ?side4 ?side5 ?side6 ?side7 ?side8 ?side9 ?side10 ?side11 ?side12 ?side13 ?side14 ?side15 A4.out).mono ?_); (case side1 => repeat (first | exact (Kd.C_below HR0_0.out HB.out) | (with_reducible refine Kd.C_alloc ?_ _) | (with_reducible refine Kd.C_drewN ?_ _) | (with_reducible refine Kd.C_drew ?_))); (case side2 => exact HC0_0.out); (case side3 => repeat (first | exact (Kd.C_below HR0_1.out HB.out) | (with_reducible refine Kd.C_alloc ?_ _) | (with_reducible refine Kd.C_drewN ?_ _) | (with_reducible refine Kd.C_drew ?_))); (case side4 => exact HC0_1.out); (case side5 => repeat (first | exact (Kd.C_below HR0_2.out HB.out) | (with_reducible refine Kd.C_alloc ?_ _) | (with_reducible refine Kd.C_drewN ?_ _) | (with_reducible refine Kd.C_drew ?_))); (case side6 => exact HC0_2.out); (case side7 => repeat (first | exact (Kd.C_below HR0_3.out HB.out) | (with_reducible refine Kd.C_alloc ?_ _) | (with_reducible refine Kd.C_drewN ?_ _) | (with_reducible refine Kd.C_drew ?_))); (case side8 => exact HC0_3.out); (case side9 => repeat (first | exact (Kd.C_below HR0_4.out HB.out) | (with_reducible refine Kd.C_alloc ?_ _) | (with_reducible refine Kd.C_drewN ?_ _) | (with_reducible refine Kd.C_drew ?_))); (case side10 => exact HC0_4.out); (case side11 => repeat (first | exact (Kd.C_below HR1_4.out HB.out) | (with_reducible refine Kd.C_alloc ?_ _) | (with_reducible refine Kd.C_drewN ?_ _) | (with_reducible refine Kd.C_drew ?_))); (case side12 => exact HC1_4.out); (case side13 => exact HO1_6.out); (case side14 => exact Kd.C_nil _ _); (case side15 => exact Nat.le_refl _); rintro e w10 ⟨v278, rfl, ho0, hb⟩; refine ⟨_, rfl, ?_⟩; have n0_ := Az.mk (Kd.V_elder' (by (with_reducible repeat (first | apply Kd.V_alloc | apply Kd.V_drewN | apply Kd.V_drew)); exact HO1_6.out) (Kd.N_base ho0) hb); have n1_ := Az.mk (Kd.N_lower (Kd.N_mono (ok' := fun k_ => (P1_6_ k_ ∨ w.heap.size ≤ k_) ∧ k_ ≠ gb275 ∧ k_ ≠ gb276) ho0 (fun k_ hk_ => ⟨Or.elim hk_ (fun hs_ => hs_.1.1) (fun hn_ => (.inr (Nat.le_trans (bZ_ (by repeat (first | (with_reducible first | exact HB.out | apply bA_ | apply bN_ | apply bD_ | refine bS_ ?_ GE275.out | refine bS_ ?_ GE276.out) | exact HB.out))) hn_))), Or.elim hk_ (fun hs_ => hs_.1.2) (fun hn_ => (Kd.freshB (g := gb275) (o := .cells #[.slice A0_0 l0_0.length c0_0, .slice A0_1 l0_1.length c0_1, .slice A0_2 l0_2.length c0_2, .slice A0_3 l0_3.length c0_3, .slice A0_4 l0_4.length c0_4] 27 (0, 0)) (by (with_reducible repeat (first | refine kN_ ?_ _ | refine kD_ ?_ | refine kA_ ?_ _)); exact BK275.out) k_ hn_)), Or.elim hk_ (fun hs_ => hs_.2) (fun hn_ => (Kd.freshB (g := gb276) (o := .cells #[.int .i64 a1_0, .int .i64 a1_1, .int .i64 a1_2, .int .i64 a1_3, .slice A1_4 l1_4.length c1_4, .string a1_5, .slice A1_6 l1_6.length c1_6] 32 (0, 0)) (by (with_reducible repeat (first | refine kN_ ?_ _ | refine kD_ ?_ | refine kA_ ?_ _)); exact BK276.out) k_ hn_))⟩)) (bZ_ (by repeat (first | (with_reducible first | exact HB.out | apply bA_ | apply bN_ | apply bD_ | refine bS_ ?_ GE275.out | refine bS_ ?_ GE276.out) | exact HB.out)))); have n2_ := Az.mk (kB_ (g := gb275) (o := .cells #[.slice A0_0 l0_0.length c0_0, .slice A0_1 l0_1.length c0_1, .slice A0_2 l0_2.length c0_2, .slice A0_3 l0_3.length c0_3, .slice A0_4 l0_4.length c0_4] 27 (0, 0)) (by (with_reducible repeat (first | refine kN_ ?_ _ | refine kD_ ?_ | refine kA_ ?_ _)); exact BK275.out) hb); have n3_ := Az.mk (kB_ (g := gb276) (o := .cells #[.int .i64 a1_0, .int .i64 a1_1, .int .i64 a1_2, .int .i64 a1_3, .slice A1_4 l1_4.length c1_4, .string a1_5, .slice A1_6 l1_6.length c1_6] 32 (0, 0)) (by (with_reducible repeat (first | refine kN_ ?_ _ | refine kD_ ?_ | refine kA_ ?_ _)); exact BK276.out) hb); have n4_ := Az.mk (bT_ (by repeat (first | (with_reducible first | exact HB.out | apply bA_ | apply bN_ | apply bD_ | refine bS_ ?_ GE275.out | refine bS_ ?_ GE276.out) | exact HB.out)) hb); clear HO1_6; clear BK275; clear BK276; clear HB; have HO1_6 := n0_; have HO279 := n1_; have BK275 := n2_; have BK276 := n3_; have HB := n4_; clear n0_ n1_ n2_ n3_ n4_; (try clear hb); (try clear hb2); (try clear hk); (try clear hi); (try clear ho0)))
 go_loopg [8, 9] k (fun kq v8 v9 w' => ∃ (x8_1 : List (S32)) (x9_1 : Int), v9 = .int .i64 x9_1 ∧ Az (arboristref46_Get.l0 kq a2 t277 x8_1 x9_1 = some r) ∧ Az (kq ≤ k) ∧ Az (Kd.N k65 65 w' w.heap.size (fun k_ => (P1_6_ k_ ∨ w.heap.size ≤ k_) ∧ some k_ ≠ (v8 : Value).ownBlock ∧ k_ ≠ gb275 ∧ k_ ≠ gb276) v278 t277) ∧ Az (Kd.N k32 32 w' w.heap.size (fun k_ => (P1_6_ k_ ∨ w.heap.size ≤ k_) ∧ some k_ ≠ (v278 : Value).ownBlock ∧ k_ ≠ gb275 ∧ k_ ≠ gb276) v8 x8_1) ∧ Az (Kd.V k32 32 w' w.heap.size (fun k_ => (P1_6_ k_ ∨ w.heap.size ≤ k_) ∧ some k_ ≠ (v278 : Value).ownBlock ∧ some k_ ≠ (v8 : Value).ownBlock ∧ k_ ≠ gb275 ∧ k_ ≠ gb276) (.slice A1_6 l1_6.length c1_6) l1_6) ∧ Az (w'.heap[gb275]? = some (.cells #[(.slice A0_0 l0_0.length c0_0), (.slice A0_1 l0_1.length c0_1), (.slice A0_2 l0_2.length c0_2), (.slice A0_3 l0_3.length c0_3), (.slice A0_4 l0_4.length c0_4)] 27 (0, 0))) ∧ Az (w'.heap[gb276]? = some (.cells #[.int .i64 a1_0, .int .i64 a1_1, .int .i64 a1_2, .int .i64 a1_3, (.slice A1_4 l1_4.length c1_4), .string a1_5, (.slice A1_6 l1_6.length c1_6)] 32 (0, 0))) ∧ Az (Below w.heap.size w w'))
 case atStart => exact ⟨(([] : List (S32))), (0), (by first | rfl | (simp; done) | (simp [*]; done) | (refine congrArg Value.bool ?_; exact isE_ _)), H', ⟨Nat.le_refl _⟩, ⟨by (with_reducible repeat (first | apply Kd.N_alloc | apply Kd.N_drewN | apply Kd.N_drew)); exact Kd.N_mono HO279.out (fun _ hk => ⟨hk.1, ⟨(by simp [Value.ownBlock]), ⟨hk.2.1, hk.2.2⟩⟩⟩)⟩, ⟨by first | exact Kd.R_nil _ _ _ _ _ | exact Kd.N_nil _ _ _ _ _ | exact Kd.V_nil _ _ _ _ _ | exact Kd.Q_nil _ _ _ _ _ | exact Kd.S_nil _ _ _ _ _⟩, ⟨by (with_reducible repeat (first | apply Kd.V_alloc | apply Kd.V_drewN | apply Kd.V_drew)); exact Kd.V_mono HO1_6.out (fun _ hk => ⟨hk.1.1.1, ⟨hk.2, ⟨(by simp [Value.ownBlock]), ⟨hk.1.1.2, hk.1.2⟩⟩⟩⟩)⟩, ⟨by (with_reducible repeat (first | refine kN_ ?_ _ | refine kD_ ?_ | refine kA_ ?_ _)); exact BK275.out⟩, ⟨by (with_reducible repeat (first | refine kN_ ?_ _ | refine kD_ ?_ | refine kA_ ?_ _)); exact BK276.out⟩, ⟨by repeat (first | (with_reducible first | exact HB.out | apply bA_ | apply bN_ | apply bD_ | refine bS_ ?_ GE275.out | refine bS_ ?_ GE276.out) | exact HB.out)⟩⟩
 case round =>
  clear H'
  try clear c1
  try clear c2
  try clear p2
  try clear c3
  try clear c7
  try clear hcz8_0
  try clear hcz8_1
  try clear hcz8_2
  try clear hcz8_3
  try clear hcz8_4
  try clear hcz9_0
  try clear hcz9_1
  try clear hcz9_2
  try clear hcz9_3
  try clear hcz9_4
  try clear hcz9_5
  try clear hcz9_6
  try clear hfz8_0
  try clear hfz8_1
  try clear hfz8_2
  try clear hfz8_3
  try clear hfz8_4
  try clear hfz9_0
  try clear hfz9_1
  try clear hfz9_2
  try clear hfz9_3
  try clear hfz9_4
  try clear hfz9_5
  try clear hfz9_6
  obtain ⟨x8_1, x9_1, rfl, HA, HK1, HO_7, HO_8, HO_277006, BK275, BK276, HB⟩ := hrel
  cases gk with
  | zero => exact absurd HA.out (by simp [arboristref46_Get.l0])
  | succ k1 =>
   have H := HA.out
   clear HA
   simp only [arboristref46_Get.l0] at H
   by_cases c11 : x9_1 < (t277.length : Int)
   ·rw [if_pos c11] at H
    have c11b0 : decide (x9_1 < (t277.length : Int)) = true := decide_eq_true c11
    clear c11
    by_cases c12 : a2.toList = ([] : List UInt8)
    ·rw [if_pos c12] at H
     have c12b0 : (a2.toList == ([] : List UInt8)) = true := beq_iff_eq.mpr c12
     have c12b2 : (a2.toList).isEmpty = true := (show ∀ l_ : List UInt8, (l_ == []) = true → l_.isEmpty = true from fun l_ h_ => by cases l_ <;> first | rfl | cases h_) _ c12b0
     have c12b3 : (!(a2.toList).isEmpty) = false := by rw [c12b2]; rfl
     have c12b1 : (a2.toList != ([] : List UInt8)) = false := bne_eq_false_iff_eq.mpr c12
     clear c12
     have H' := Az.mk H
     clear H
     obtain ⟨Ao13, co13, eo13⟩ := Kd.N_slice HO_7.out
     subst eo13
     go_wp2
     go_roundg k1
     case measure => have := HK1.out; omega
     case rel => exact ⟨(x8_1), (wrap64 (x9_1 + 1)), (by first | rfl | (simp; done) | (simp [*]; done) | (refine congrArg Value.bool ?_; exact isE_ _)), H', ⟨by have := HK1.out; omega⟩, ⟨by (with_reducible repeat (first | apply Kd.N_alloc | apply Kd.N_drewN | apply Kd.N_drew)); exact HO_7.out⟩, ⟨by (with_reducible repeat (first | apply Kd.N_alloc | apply Kd.N_drewN | apply Kd.N_drew)); exact HO_8.out⟩, ⟨by (with_reducible repeat (first | apply Kd.V_alloc | apply Kd.V_drewN | apply Kd.V_drew)); exact HO_277006.out⟩, ⟨by (with_reducible repeat (first | refine kN_ ?_ _ | refine kD_ ?_ | refine kA_ ?_ _)); exact BK275.out⟩, ⟨by (with_reducible repeat (first | refine kN_ ?_ _ | refine kD_ ?_ | refine kA_ ?_ _)); exact BK276.out⟩, ⟨by repeat (first | (with_reducible first | exact HB.out | apply bA_ | apply bN_ | apply bD_ | refine bS_ ?_ GE275.out | refine bS_ ?_ GE276.out) | exact HB.out)⟩⟩
    ·rw [if_neg c12] at H
     have c12b0 : (a2.toList == ([] : List UInt8)) = false := beq_eq_false_iff_ne.mpr c12
     have c12b2 : (a2.toList).isEmpty = false := (show ∀ l_ : List UInt8, (l_ == []) = false → l_.isEmpty = false from fun l_ h_ => by cases l_ <;> first | rfl | cases h_) _ c12b0
     have c12b3 : (!(a2.toList).isEmpty) = true := by rw [c12b2]; rfl
     have c12b1 : (a2.toList != ([] : List UInt8)) = true := bne_iff_ne.mpr c12
     by_cases c14 : 0 ≤ x9_1
     ·rw [if_pos c14] at H
      have c14b0 : decide (0 ≤ x9_1) = true := decide_eq_true c14
      clear c14
      by_cases c15 : ((rd_T65 t277 x9_1).f2).toList = a2.toList
      ·rw [if_pos c15] at H
       have c15b0 : (((rd_T65 t277 x9_1).f2).toList == a2.toList) = true := beq_iff_eq.mpr c15
       have c15b1 : (((rd_T65 t277 x9_1).f2).toList != a2.toList) = false := bne_eq_false_iff_eq.mpr c15
       clear c15
       by_cases c16 : x8_1.length < 1466015503701
       ·rw [if_pos c16] at H
        have LMc16 := Az.mk c16
        clear c16
        obtain ⟨y282, hy282⟩ : ∃ y_ : List (S32), y_ = (x8_1 ++ [(⟨(rd_T65 t277 x9_1).f0.f0, (rd_T65 t277 x9_1).f0.f1, (rd_T65 t277 x9_1).f0.f2, (rd_T65 t277 x9_1).f0.f3, (rd_T65 t277 x9_1).f0.f4, (rd_T65 t277 x9_1).f0.f5, (rd_T65 t277 x9_1).f0.f6⟩ : S32)]) := ⟨_, rfl⟩
        replace H : (arboristref46_Get.l0 k1 a2 t277 y282 (wrap64 (x9_1 + 1))) = some r := by first | (rw [hy282]; with_reducible exact H) | (have H2_ := (Option.bind_some _ _).symm.trans H; rw [hy282]; with_reducible exact H2_) | (have H2_ := (Option.bind_some _ _).symm.trans H; with_reducible exact H2_) | with_reducible exact H | (rw [hy282]; exact H) | exact H
        have Ny282 := Az.mk hy282
        clear hy282
        have H' := Az.mk H
        clear H
        obtain ⟨Ao17, co17, eo17⟩ := Kd.N_slice HO_7.out
        subst eo17
        have p280 : 0 ≤ (x9_1 : Int) := of_decide_eq_true (by first | (with_reducible assumption) | assumption)
        have q280 : x9_1 < (t277.length : Int) := of_decide_eq_true (by first | (with_reducible assumption) | assumption)
        obtain ⟨ad280, A280_4, c280_4, A280_6, c280_6, A280_7, c280_7, e280, hx280_0, hx280_1, hx280_2, hx280_3, hx280_4, hx280_5, hx280_6, hx280_7, hx280_8, hl280_4, hi280_4, hl280_6, hi280_6, hl280_7, hi280_7⟩ := at_T65 (Kd.N_reads' HO_7.out).2.2 x9_1 p280 q280
        cases e280
        obtain ⟨ce280, hce280, hMe280, hcc280⟩ := Kd.N_get HO_7.out z65 x9_1 p280 (by first | exact q280 | exact of_decide_eq_true (by first | (with_reducible assumption) | assumption) | (have e_ := (Kd.N_reads' HO_7.out).1; omega))
        obtain ⟨ua280_4, uc280_4, ua280_6, uc280_6, ua280_7, uc280_7, rfl, ul280_4, ge280_4, ul280_6, ge280_6, ul280_7, ge280_7⟩ := k65_openF hMe280
        have hv280_4 := hcc280 4 _ rfl
        rw [add_field _ _ 4 (by omega)] at hv280_4
        replace hv280_4 := Option.some.inj (hv280_4.symm.trans hx280_4)
        injection hv280_4 with hva_ hvn_ hvc_
        rw [hva_] at ge280_4
        rw [hvc_] at ul280_4
        have HL280_4 := Az.mk (show Kd.V k53 53 _ w.heap.size _ _ ((rd_T65 t277 x9_1).f0.f4) from Kd.V_mk ul280_4 ge280_4)
        clear hva_ hvn_ hvc_ ge280_4 ul280_4
        have hv280_6 := hcc280 6 _ rfl
        rw [add_field _ _ 6 (by omega)] at hv280_6
        replace hv280_6 := Option.some.inj (hv280_6.symm.trans hx280_6)
        injection hv280_6 with hva_ hvn_ hvc_
        rw [hva_] at ge280_6
        rw [hvc_] at ul280_6
        have HL280_6 := Az.mk (show Kd.V k32 32 _ w.heap.size _ _ ((rd_T65 t277 x9_1).f0.f6) from Kd.V_mk ul280_6 ge280_6)
        clear hva_ hvn_ hvc_ ge280_6 ul280_6
        have hv280_7 := hcc280 7 _ rfl
        rw [add_field _ _ 7 (by omega)] at hv280_7
        replace hv280_7 := Option.some.inj (hv280_7.symm.trans hx280_7)
        injection hv280_7 with hva_ hvn_ hvc_
        rw [hva_] at ge280_7
        rw [hvc_] at ul280_7
        have HL280_7 := Az.mk (show Kd.V (Kd.int .i64) 3 _ w.heap.size _ _ ((rd_T65 t277 x9_1).f1) from Kd.V_mk ul280_7 ge280_7)
        clear hva_ hvn_ hvc_ ge280_7 ul280_7
        clear hcc280 hce280
        have HR280_4 := Az.mk hi280_4
        have HC280_4 := Az.mk hl280_4
        clear hi280_4 hl280_4
        have HR280_6 := Az.mk hi280_6
        have HC280_6 := Az.mk hl280_6
        clear hi280_6 hl280_6
        have HR280_7 := Az.mk hi280_7
        have HC280_7 := Az.mk hl280_7
        clear hi280_7 hl280_7
        replace p280 := eq_true p280
        replace q280 := eq_true q280
        have p281 : 0 ≤ (x9_1 : Int) := of_decide_eq_true (by first | (with_reducible assumption) | assumption)
        have q281 : x9_1 < (t277.length : Int) := of_decide_eq_true (by first | (with_reducible assumption) | assumption)
        obtain ⟨ad281, A281_4, c281_4, A281_6, c281_6, A281_7, c281_7, e281, hx281_0, hx281_1, hx281_2, hx281_3, hx281_4, hx281_5, hx281_6, hx281_7, hx281_8, hl281_4, hi281_4, hl281_6, hi281_6, hl281_7, hi281_7⟩ := at_T65 (Kd.N_reads' HO_7.out).2.2 x9_1 p281 q281
        obtain rfl : ad280 = ad281 := (by injection e281)
        obtain ⟨ce281, hce281, hMe281, hcc281⟩ := Kd.N_get HO_7.out z65 x9_1 p281 (by first | exact q281 | exact of_decide_eq_true (by first | (with_reducible assumption) | assumption) | (have e_ := (Kd.N_reads' HO_7.out).1; omega))
        obtain ⟨ua281_4, uc281_4, ua281_6, uc281_6, ua281_7, uc281_7, rfl, ul281_4, ge281_4, ul281_6, ge281_6, ul281_7, ge281_7⟩ := k65_openF hMe281
        have hv281_4 := hcc281 4 _ rfl
        rw [add_field _ _ 4 (by omega)] at hv281_4
        replace hv281_4 := Option.some.inj (hv281_4.symm.trans hx281_4)
        injection hv281_4 with hva_ hvn_ hvc_
        rw [hva_] at ge281_4
        rw [hvc_] at ul281_4
        have HL281_4 := Az.mk (show Kd.V k53 53 _ w.heap.size _ _ ((rd_T65 t277 x9_1).f0.f4) from Kd.V_mk ul281_4 ge281_4)
        clear hva_ hvn_ hvc_ ge281_4 ul281_4
        have hv281_6 := hcc281 6 _ rfl
        rw [add_field _ _ 6 (by omega)] at hv281_6
        replace hv281_6 := Option.some.inj (hv281_6.symm.trans hx281_6)
        injection hv281_6 with hva_ hvn_ hvc_
        rw [hva_] at ge281_6
        rw [hvc_] at ul281_6
        have HL281_6 := Az.mk (show Kd.V k32 32 _ w.heap.size _ _ ((rd_T65 t277 x9_1).f0.f6) from Kd.V_mk ul281_6 ge281_6)
        clear hva_ hvn_ hvc_ ge281_6 ul281_6
        have hv281_7 := hcc281 7 _ rfl
        rw [add_field _ _ 7 (by omega)] at hv281_7
        replace hv281_7 := Option.some.inj (hv281_7.symm.trans hx281_7)
        injection hv281_7 with hva_ hvn_ hvc_
        rw [hva_] at ge281_7
        rw [hvc_] at ul281_7
        have HL281_7 := Az.mk (show Kd.V (Kd.int .i64) 3 _ w.heap.size _ _ ((rd_T65 t277 x9_1).f1) from Kd.V_mk ul281_7 ge281_7)
        clear hva_ hvn_ hvc_ ge281_7 ul281_7
        clear hcc281 hce281
        have HR281_4 := Az.mk hi281_4
        have HC281_4 := Az.mk hl281_4
        clear hi281_4 hl281_4
        have HR281_6 := Az.mk hi281_6
        have HC281_6 := Az.mk hl281_6
        clear hi281_6 hl281_6
        have HR281_7 := Az.mk hi281_7
        have HC281_7 := Az.mk hl281_7
        clear hi281_7 hl281_7
        replace p281 := eq_true p281
        replace q281 := eq_true q281
        have ea_ := Option.some.inj (hx280_4.symm.trans hx281_4)
        injection ea_ with ea_ en_ ec_
        subst ea_
        subst ec_
        clear en_
        have ea_ := Option.some.inj (hx280_6.symm.trans hx281_6)
        injection ea_ with ea_ en_ ec_
        subst ea_
        subst ec_
        clear en_
        have ea_ := Option.some.inj (hx280_7.symm.trans hx281_7)
        injection ea_ with ea_ en_ ec_
        subst ea_
        subst ec_
        clear en_
        go_wp2_with (first | ((with_reducible refine gate_builtin (b := .append) (xs := #[.tmp 30, .tmp 36]) rfl ?_); at_builtin; refine Kd.N_append k32 (w0 := w) w.heap.size rfl (.tmp 30) (.tmp 36) 30 32 (.agg #[(.int .i64 0), (.int .i64 0), (.int .i64 0), (.int .i64 0), (.slice none 0 0), (.string ⟨#[]⟩), (.slice none 0 0)]) 96 rfl Try.underlying30 info32 rfl (by decide) (by omega) u8 x8_1 (⟨(rd_T65 t277 x9_1).f0.f0, (rd_T65 t277 x9_1).f0.f1, (rd_T65 t277 x9_1).f0.f2, (rd_T65 t277 x9_1).f0.f3, (rd_T65 t277 x9_1).f0.f4, (rd_T65 t277 x9_1).f0.f5, (rd_T65 t277 x9_1).f0.f6⟩ : S32) [.int .i64 ((rd_T65 t277 x9_1).f0.f0), .int .i64 ((rd_T65 t277 x9_1).f0.f1), .int .i64 ((rd_T65 t277 x9_1).f0.f2), .int .i64 ((rd_T65 t277 x9_1).f0.f3), .slice A280_4 ((rd_T65 t277 x9_1).f0.f4).length c280_4, .string ((rd_T65 t277 x9_1).f0.f5), .slice A280_6 ((rd_T65 t277 x9_1).f0.f6).length c280_6] (fun k_ => (P1_6_ k_ ∨ w.heap.size ≤ k_) ∧ some k_ ≠ (.slice (some ad280) t277.length co17 : Value).ownBlock ∧ k_ ≠ gb275 ∧ k_ ≠ gb276) (fun k_ => ((fun k_ => (P1_6_ k_ ∨ w.heap.size ≤ k_) ∧ some k_ ≠ (.slice (some ad280) t277.length co17 : Value).ownBlock ∧ k_ ≠ gb275 ∧ k_ ≠ gb276)) k_ ∧ some k_ ≠ (u8 : Value).ownBlock) rfl rfl ?aP (fun _ hk => hk) ?aF ?aO ?aB ?aS ?aL ?_; (case aP => exact (k32_mkF _ _ (⟨(rd_T65 t277 x9_1).f0.f0, (rd_T65 t277 x9_1).f0.f1, (rd_T65 t277 x9_1).f0.f2, (rd_T65 t277 x9_1).f0.f3, (rd_T65 t277 x9_1).f0.f4, (rd_T65 t277 x9_1).f0.f5, (rd_T65 t277 x9_1).f0.f6⟩ : S32) (Kd.V_reads' (Kd.V_mono (ok' := (fun k_ => ((fun k_ => (P1_6_ k_ ∨ w.heap.size ≤ k_) ∧ some k_ ≠ (.slice (some ad280) t277.length co17 : Value).ownBlock ∧ k_ ≠ gb275 ∧ k_ ≠ gb276)) k_ ∧ some k_ ≠ (u8 : Value).ownBlock)) (HL281_4.out) (fun k_ hk => ⟨⟨hk.1.1, ⟨hk.2, ⟨hk.1.2.2.1, hk.1.2.2.2⟩⟩⟩, hk.1.2.1⟩))).2.1 (Kd.V_F (Kd.V_mono (ok' := (fun k_ => ((fun k_ => (P1_6_ k_ ∨ w.heap.size ≤ k_) ∧ some k_ ≠ (.slice (some ad280) t277.length co17 : Value).ownBlock ∧ k_ ≠ gb275 ∧ k_ ≠ gb276)) k_ ∧ some k_ ≠ (u8 : Value).ownBlock)) (HL281_4.out) (fun k_ hk => ⟨⟨hk.1.1, ⟨hk.2, ⟨hk.1.2.2.1, hk.1.2.2.2⟩⟩⟩, hk.1.2.1⟩))) (Kd.V_reads' (Kd.V_mono (ok' := (fun k_ => ((fun k_ => (P1_6_ k_ ∨ w.heap.size ≤ k_) ∧ some k_ ≠ (.slice (some ad280) t277.length co17 : Value).ownBlock ∧ k_ ≠ gb275 ∧ k_ ≠ gb276)) k_ ∧ some k_ ≠ (u8 : Value).ownBlock)) (HL281_6.out) (fun k_ hk => ⟨⟨hk.1.1, ⟨hk.2, ⟨hk.1.2.2.1, hk.1.2.2.2⟩⟩⟩, hk.1.2.1⟩))).2.1 (Kd.V_F (Kd.V_mono (ok' := (fun k_ => ((fun k_ => (P1_6_ k_ ∨ w.heap.size ≤ k_) ∧ some k_ ≠ (.slice (some ad280) t277.length co17 : Value).ownBlock ∧ k_ ≠ gb275 ∧ k_ ≠ gb276)) k_ ∧ some k_ ≠ (u8 : Value).ownBlock)) (HL281_6.out) (fun k_ hk => ⟨⟨hk.1.1, ⟨hk.2, ⟨hk.1.2.2.1, hk.1.2.2.2⟩⟩⟩, hk.1.2.1⟩))))); (case aB => exact (by repeat (first | (with_reducible first | exact HB.out | apply bA_ | apply bN_ | apply bD_ | refine bS_ ?_ GE275.out | refine bS_ ?_ GE276.out) | exact HB.out))); (case aF => exact (fun k_ hk => ⟨(.inr (Nat.le_trans (bZ_ (by repeat (first | (with_reducible first | exact HB.out | apply bA_ | apply bN_ | apply bD_ | refine bS_ ?_ GE275.out | refine bS_ ?_ GE276.out) | exact HB.out))) hk)), Kd.fresh' (Kd.N_lt (by (with_reducible repeat (first | apply Kd.N_alloc | apply Kd.N_drewN | apply Kd.N_drew)); exact HO_7.out)) k_ hk, Kd.freshB (g := gb275) (o := .cells #[.slice A0_0 l0_0.length c0_0, .slice A0_1 l0_1.length c0_1, .slice A0_2 l0_2.length c0_2, .slice A0_3 l0_3.length c0_3, .slice A0_4 l0_4.length c0_4] 27 (0, 0)) (by (with_reducible repeat (first | refine kN_ ?_ _ | refine kD_ ?_ | refine kA_ ?_ _)); exact BK275.out) k_ hk, Kd.freshB (g := gb276) (o := .cells #[.int .i64 a1_0, .int .i64 a1_1, .int .i64 a1_2, .int .i64 a1_3, .slice A1_4 l1_4.length c1_4, .string a1_5, .slice A1_6 l1_6.length c1_6] 32 (0, 0)) (by (with_reducible repeat (first | refine kN_ ?_ _ | refine kD_ ?_ | refine kA_ ?_ _)); exact BK276.out) k_ hk⟩)); (case aO => exact (by (with_reducible repeat (first | apply Kd.N_alloc | apply Kd.N_drewN | apply Kd.N_drew)); exact HO_8.out)); (case aS => exact (bZ_ (by repeat (first | (with_reducible first | exact HB.out | apply bA_ | apply bN_ | apply bD_ | refine bS_ ?_ GE275.out | refine bS_ ?_ GE276.out) | exact HB.out)))); (case aL => have := LMc16.out; omega); intro v283 w18 ho hb hg hat; rw [← Ny282.out] at ho; have n0_ := Az.mk (Kd.N_afterv (ok := (fun k_ => (P1_6_ k_ ∨ w.heap.size ≤ k_) ∧ k_ ≠ gb275 ∧ k_ ≠ gb276)) (by (with_reducible repeat (first | apply Kd.N_alloc | apply Kd.N_drewN | apply Kd.N_drew)); exact Kd.N_mono HO_7.out (fun _ hk => ⟨⟨hk.1, ⟨hk.2.2.1, hk.2.2.2⟩⟩, hk.2.1⟩)) hg hat); have n1_ := Az.mk (Kd.V_afterv (ok := (fun k_ => (P1_6_ k_ ∨ w.heap.size ≤ k_) ∧ some k_ ≠ (.slice (some ad280) t277.length co17 : Value).ownBlock ∧ k_ ≠ gb275 ∧ k_ ≠ gb276)) (by (with_reducible repeat (first | apply Kd.V_alloc | apply Kd.V_drewN | apply Kd.V_drew)); exact Kd.V_mono HO_277006.out (fun _ hk => ⟨⟨hk.1, ⟨hk.2.1, ⟨hk.2.2.2.1, hk.2.2.2.2⟩⟩⟩, hk.2.2.1⟩)) hg hat); have n2_ := Az.mk (blk_grown (g := gb275) (o := .cells #[.slice A0_0 l0_0.length c0_0, .slice A0_1 l0_1.length c0_1, .slice A0_2 l0_2.length c0_2, .slice A0_3 l0_3.length c0_3, .slice A0_4 l0_4.length c0_4] 27 (0, 0)) (by (with_reducible repeat (first | refine kN_ ?_ _ | refine kD_ ?_ | refine kA_ ?_ _)); exact BK275.out) hg (Kd.N_ne HO_8.out BK275.out (by decide))); have n3_ := Az.mk (blk_grown (g := gb276) (o := .cells #[.int .i64 a1_0, .int .i64 a1_1, .int .i64 a1_2, .int .i64 a1_3, .slice A1_4 l1_4.length c1_4, .string a1_5, .slice A1_6 l1_6.length c1_6] 32 (0, 0)) (by (with_reducible repeat (first | refine kN_ ?_ _ | refine kD_ ?_ | refine kA_ ?_ _)); exact BK276.out) hg (Kd.N_away HO_8.out (fun _ hk => hk.2.2.2))); have n4_ := Az.mk (Kd.V_afterv (ok := (fun k_ => (P1_6_ k_ ∨ w.heap.size ≤ k_) ∧ some k_ ≠ (.slice (some ad280) t277.length co17 : Value).ownBlock ∧ k_ ≠ gb275 ∧ k_ ≠ gb276)) (by (with_reducible repeat (first | apply Kd.V_alloc | apply Kd.V_drewN | apply Kd.V_drew)); exact Kd.V_mono HL280_4.out (fun _ hk => ⟨⟨hk.1.1, ⟨hk.2, ⟨hk.1.2.2.1, hk.1.2.2.2⟩⟩⟩, hk.1.2.1⟩)) hg hat); have n5_ := Az.mk (Kd.V_afterv (ok := (fun k_ => (P1_6_ k_ ∨ w.heap.size ≤ k_) ∧ some k_ ≠ (.slice (some ad280) t277.length co17 : Value).ownBlock ∧ k_ ≠ gb275 ∧ k_ ≠ gb276)) (by (with_reducible repeat (first | apply Kd.V_alloc | apply Kd.V_drewN | apply Kd.V_drew)); exact Kd.V_mono HL280_6.out (fun _ hk => ⟨⟨hk.1.1, ⟨hk.2, ⟨hk.1.2.2.1, hk.1.2.2.2⟩⟩⟩, hk.1.2.1⟩)) hg hat); have n6_ := Az.mk (Kd.V_afterv (ok := (fun k_ => (P1_6_ k_ ∨ w.heap.size ≤ k_) ∧ some k_ ≠ (.slice (some ad280) t277.length co17 : Value).ownBlock ∧ k_ ≠ gb275 ∧ k_ ≠ gb276)) (by (with_reducible repeat (first | apply Kd.V_alloc | apply Kd.V_drewN | apply Kd.V_drew)); exact Kd.V_mono HL280_7.out (fun _ hk => ⟨⟨hk.1.1, ⟨hk.2, ⟨hk.1.2.2.1, hk.1.2.2.2⟩⟩⟩, hk.1.2.1⟩)) hg hat); have n7_ := Az.mk (Kd.V_afterv (ok := (fun k_ => (P1_6_ k_ ∨ w.heap.size ≤ k_) ∧ some k_ ≠ (.slice (some ad280) t277.length co17 : Value).ownBlock ∧ k_ ≠ gb275 ∧ k_ ≠ gb276)) (by (with_reducible repeat (first | apply Kd.V_alloc | apply Kd.V_drewN | apply Kd.V_drew)); exact Kd.V_mono HL281_4.out (fun _ hk => ⟨⟨hk.1.1, ⟨hk.2, ⟨hk.1.2.2.1, hk.1.2.2.2⟩⟩⟩, hk.1.2.1⟩)) hg hat); have n8_ := Az.mk (Kd.V_afterv (ok := (fun k_ => (P1_6_ k_ ∨ w.heap.size ≤ k_) ∧ some k_ ≠ (.slice (some ad280) t277.length co17 : Value).ownBlock ∧ k_ ≠ gb275 ∧ k_ ≠ gb276)) (by (with_reducible repeat (first | apply Kd.V_alloc | apply Kd.V_drewN | apply Kd.V_drew)); exact Kd.V_mono HL281_6.out (fun _ hk => ⟨⟨hk.1.1, ⟨hk.2, ⟨hk.1.2.2.1, hk.1.2.2.2⟩⟩⟩, hk.1.2.1⟩)) hg hat); have n9_ := Az.mk (Kd.V_afterv (ok := (fun k_ => (P1_6_ k_ ∨ w.heap.size ≤ k_) ∧ some k_ ≠ (.slice (some ad280) t277.length co17 : Value).ownBlock ∧ k_ ≠ gb275 ∧ k_ ≠ gb276)) (by (with_reducible repeat (first | apply Kd.V_alloc | apply Kd.V_drewN | apply Kd.V_drew)); exact Kd.V_mono HL281_7.out (fun _ hk => ⟨⟨hk.1.1, ⟨hk.2, ⟨hk.1.2.2.1, hk.1.2.2.2⟩⟩⟩, hk.1.2.1⟩)) hg hat); have n10_ := Az.mk (hb); have n11_ := Az.mk (ho); clear HO_7; clear HO_277006; clear BK275; clear BK276; clear HL280_4; clear HL280_6; clear HL280_7; clear HL281_4; clear HL281_6; clear HL281_7; clear HB; clear HO_8; have HO_7 := n0_; have HO_277006 := n1_; have BK275 := n2_; have BK276 := n3_; have HL280_4 := n4_; have HL280_6 := n5_; have HL280_7 := n6_; have HL281_4 := n7_; have HL281_6 := n8_; have HL281_7 := n9_; have HB := n10_; have HO284 := n11_; clear n0_ n1_ n2_ n3_ n4_ n5_ n6_ n7_ n8_ n9_ n10_ n11_; clear ho hb hg hat))
        go_roundg k1
        case measure => have := HK1.out; omega
        case rel => exact ⟨(y282), (wrap64 (x9_1 + 1)), (by first | rfl | (simp; done) | (simp [*]; done) | (refine congrArg Value.bool ?_; exact isE_ _)), H', ⟨by have := HK1.out; omega⟩, ⟨by (with_reducible repeat (first | apply Kd.N_alloc | apply Kd.N_drewN | apply Kd.N_drew)); exact Kd.N_mono HO_7.out (fun _ hk => ⟨hk.1.1, ⟨hk.2, ⟨hk.1.2.1, hk.1.2.2⟩⟩⟩)⟩, ⟨by (with_reducible repeat (first | apply Kd.N_alloc | apply Kd.N_drewN | apply Kd.N_drew)); exact HO284.out⟩, ⟨by (with_reducible repeat (first | apply Kd.V_alloc | apply Kd.V_drewN | apply Kd.V_drew)); exact Kd.V_mono HO_277006.out (fun _ hk => ⟨hk.1.1, ⟨hk.1.2.1, ⟨hk.2, ⟨hk.1.2.2.1, hk.1.2.2.2⟩⟩⟩⟩)⟩, ⟨by (with_reducible repeat (first | refine kN_ ?_ _ | refine kD_ ?_ | refine kA_ ?_ _)); exact BK275.out⟩, ⟨by (with_reducible repeat (first | refine kN_ ?_ _ | refine kD_ ?_ | refine kA_ ?_ _)); exact BK276.out⟩, ⟨by repeat (first | (with_reducible first | exact HB.out | apply bA_ | apply bN_ | apply bD_ | refine bS_ ?_ GE275.out | refine bS_ ?_ GE276.out) | exact HB.out)⟩⟩
       ·rw [if_neg c16] at H
        exact absurd H (by simp)
      ·rw [if_neg c15] at H
       have c15b0 : (((rd_T65 t277 x9_1).f2).toList == a2.toList) = false := beq_eq_false_iff_ne.mpr c15
       have c15b1 : (((rd_T65 t277 x9_1).f2).toList != a2.toList) = true := bne_iff_ne.mpr c15
       have H' := Az.mk H
       clear H
       obtain ⟨Ao19, co19, eo19⟩ := Kd.N_slice HO_7.out
       subst eo19
       have p280 : 0 ≤ (x9_1 : Int) := of_decide_eq_true (by first | (with_reducible assumption) | assumption)
       have q280 : x9_1 < (t277.length : Int) := of_decide_eq_true (by first | (with_reducible assumption) | assumption)
       obtain ⟨ad280, A280_4, c280_4, A280_6, c280_6, A280_7, c280_7, e280, hx280_0, hx280_1, hx280_2, hx280_3, hx280_4, hx280_5, hx280_6, hx280_7, hx280_8, hl280_4, hi280_4, hl280_6, hi280_6, hl280_7, hi280_7⟩ := at_T65 (Kd.N_reads' HO_7.out).2.2 x9_1 p280 q280
       cases e280
       obtain ⟨ce280, hce280, hMe280, hcc280⟩ := Kd.N_get HO_7.out z65 x9_1 p280 (by first | exact q280 | exact of_decide_eq_true (by first | (with_reducible assumption) | assumption) | (have e_ := (Kd.N_reads' HO_7.out).1; omega))
       obtain ⟨ua280_4, uc280_4, ua280_6, uc280_6, ua280_7, uc280_7, rfl, ul280_4, ge280_4, ul280_6, ge280_6, ul280_7, ge280_7⟩ := k65_openF hMe280
       have hv280_4 := hcc280 4 _ rfl
       rw [add_field _ _ 4 (by omega)] at hv280_4
       replace hv280_4 := Option.some.inj (hv280_4.symm.trans hx280_4)
       injection hv280_4 with hva_ hvn_ hvc_
       rw [hva_] at ge280_4
       rw [hvc_] at ul280_4
       have HL280_4 := Az.mk (show Kd.V k53 53 _ w.heap.size _ _ ((rd_T65 t277 x9_1).f0.f4) from Kd.V_mk ul280_4 ge280_4)
       clear hva_ hvn_ hvc_ ge280_4 ul280_4
       have hv280_6 := hcc280 6 _ rfl
       rw [add_field _ _ 6 (by omega)] at hv280_6
       replace hv280_6 := Option.some.inj (hv280_6.symm.trans hx280_6)
       injection hv280_6 with hva_ hvn_ hvc_
       rw [hva_] at ge280_6
       rw [hvc_] at ul280_6
       have HL280_6 := Az.mk (show Kd.V k32 32 _ w.heap.size _ _ ((rd_T65 t277 x9_1).f0.f6) from Kd.V_mk ul280_6 ge280_6)
       clear hva_ hvn_ hvc_ ge280_6 ul280_6
       have hv280_7 := hcc280 7 _ rfl
       rw [add_field _ _ 7 (by omega)] at hv280_7
       replace hv280_7 := Option.some.inj (hv280_7.symm.trans hx280_7)
       injection hv280_7 with hva_ hvn_ hvc_
       rw [hva_] at ge280_7
       rw [hvc_] at ul280_7
       have HL280_7 := Az.mk (show Kd.V (Kd.int .i64) 3 _ w.heap.size _ _ ((rd_T65 t277 x9_1).f1) from Kd.V_mk ul280_7 ge280_7)
       clear hva_ hvn_ hvc_ ge280_7 ul280_7
       clear hcc280 hce280
       have HR280_4 := Az.mk hi280_4
       have HC280_4 := Az.mk hl280_4
       clear hi280_4 hl280_4
       have HR280_6 := Az.mk hi280_6
       have HC280_6 := Az.mk hl280_6
       clear hi280_6 hl280_6
       have HR280_7 := Az.mk hi280_7
       have HC280_7 := Az.mk hl280_7
       clear hi280_7 hl280_7
       replace p280 := eq_true p280
       replace q280 := eq_true q280
       go_wp2
       go_roundg k1
       case measure => have := HK1.out; omega
       case rel => exact ⟨(x8_1), (wrap64 (x9_1 + 1)), (by first | rfl | (simp; done) | (simp [*]; done) | (refine congrArg Value.bool ?_; exact isE_ _)), H', ⟨by have := HK1.out; omega⟩, ⟨by (with_reducible repeat (first | apply Kd.N_alloc | apply Kd.N_drewN | apply Kd.N_drew)); exact HO_7.out⟩, ⟨by (with_reducible repeat (first | apply Kd.N_alloc | apply Kd.N_drewN | apply Kd.N_drew)); exact HO_8.out⟩, ⟨by (with_reducible repeat (first | apply Kd.V_alloc | apply Kd.V_drewN | apply Kd.V_drew)); exact HO_277006.out⟩, ⟨by (with_reducible repeat (first | refine kN_ ?_ _ | refine kD_ ?_ | refine kA_ ?_ _)); exact BK275.out⟩, ⟨by (with_reducible repeat (first | refine kN_ ?_ _ | refine kD_ ?_ | refine kA_ ?_ _)); exact BK276.out⟩, ⟨by repeat (first | (with_reducible first | exact HB.out | apply bA_ | apply bN_ | apply bD_ | refine bS_ ?_ GE275.out | refine bS_ ?_ GE276.out) | exact HB.out)⟩⟩
     ·rw [if_neg c14] at H
      exact absurd H (by simp)
   ·rw [if_neg c11] at H
    have c11b0 : decide (x9_1 < (t277.length : Int)) = false := decide_eq_false c11
    clear c11
    obtain rfl := Option.some.inj H
    obtain ⟨Ao20, co20, eo20⟩ := Kd.N_slice HO_7.out
    subst eo20
    go_wp2
    go_ret
    exact ⟨_, by first | rfl | (simp [errW_none, errW_some] <;> rfl) | (simp [*, errW_none, errW_some] <;> rfl), by (with_reducible repeat (first | apply Kd.N_alloc | apply Kd.N_drewN | apply Kd.N_drew)); exact Kd.N_mono HO_8.out (fun _ hk => hk.1), by repeat (first | (with_reducible first | exact HB.out | apply bA_ | apply bN_ | apply bD_ | refine bS_ ?_ GE275.out | refine bS_ ?_ GE276.out) | exact HB.out)⟩
end Go.Proofs.Ytgdbcogbbghjaaa.Q
