import Derived.Test.YtgdbcogbbghjaaaQ0
import Derived.Test.YtgdbcogbbghjaaaQf10
import Derived.Test.YtgdbcogbbghjaaaQf11
import Derived.Test.YtgdbcogbbghjaaaQf16
import Derived.Test.YtgdbcogbbghjaaaQf19
import Derived.Test.YtgdbcogbbghjaaaQf23
import Derived.Test.YtgdbcogbbghjaaaQf24
import Derived.Test.YtgdbcogbbghjaaaQf25
import Derived.Test.YtgdbcogbbghjaaaQf8
import Derived.Test.YtgdbcogbbghjaaaQf9
namespace Go.Proofs.Ytgdbcogbbghjaaa.Q
open Go.RowKit Go.Proofs.YtgdbcogbbghjaaaW.PrintWords Go.Proofs.YtgdbcogbbghjaaaW.PrintLast Go.Proofs.YtgdbcogbbghjaaaW.PrintMore
attribute [local go_sem] max2_int min2_int max_two min_two max_three min_three max_four min_four   -- for this text's walks alone
set_option linter.unusedVariables false
set_option linter.unusedSimpArgs false
mutual
def arboristlaw46_FieldsAlong_.j0 : Nat → Bool → List ByteArray → List ByteArray → List Int → List (S67) → List (S78) → Int → Int → Int → Int → List (S53) → ByteArray → List (S32) → Option (Bool)
 | 0, _, _, _, _, _, _, _, _, _, _, _, _, _ => none
 | k + 1, x18, x313000, x313001, x313002, x313003, x313004, x314000, x314001, x314002, x314003, x314004, x314005, x314006 => if x18 = true then ((arboristlaw46_knows.f k).bind fun t316 => (some t316)) else ((fields_Kids.f k x313000 x313001 x313002 x313003 x313004 x314000 x314001 x314002 x314003 x314004 x314005 x314006).bind fun t317 => ((fields_Paths.f k x313000 x313001 x313002 x313003 x313004 x314000 x314001 x314002 x314003 x314004 x314005 x314006).bind fun t320 => ((fields_Fields.f k x313000 x313001 x313002 x313003 x313004 x314000 x314001 x314002 x314003 x314004 x314005 x314006).bind fun t323 => (if (t317.length : Int) = (t320.length : Int) then (arboristlaw46_FieldsAlong_.j1 k t317 t320 ((t317.length : Int) != (t323.length : Int)) x313000 x313001 x313002 x313003 x313004 x314000 x314001 x314002 x314003 x314004 x314005 x314006) else (arboristlaw46_FieldsAlong_.j1 k t317 t320 true x313000 x313001 x313002 x313003 x313004 x314000 x314001 x314002 x314003 x314004 x314005 x314006)))))
def arboristlaw46_FieldsAlong_.j1 : Nat → List (S32) → List (List Int) → Bool → List ByteArray → List ByteArray → List Int → List (S67) → List (S78) → Int → Int → Int → Int → List (S53) → ByteArray → List (S32) → Option (Bool)
 | 0, _, _, _, _, _, _, _, _, _, _, _, _, _, _, _ => none
 | k + 1, x5, x6, x40, x313000, x313001, x313002, x313003, x313004, x314000, x314001, x314002, x314003, x314004, x314005, x314006 => if x40 = true then (some false) else (arboristlaw46_FieldsAlong_.l0 k x5 x6 0 x313000 x313001 x313002 x313003 x313004 x314000 x314001 x314002 x314003 x314004 x314005 x314006)
def arboristlaw46_FieldsAlong_.l0 : Nat → List (S32) → List (List Int) → Int → List ByteArray → List ByteArray → List Int → List (S67) → List (S78) → Int → Int → Int → Int → List (S53) → ByteArray → List (S32) → Option (Bool)
 | 0, _, _, _, _, _, _, _, _, _, _, _, _, _, _, _ => none
 | k + 1, x5, x6, x8, x313000, x313001, x313002, x313003, x313004, x314000, x314001, x314002, x314003, x314004, x314005, x314006 => if x8 < (x6.length : Int) then (if 0 ≤ x8 then ((arboristlaw46_get.f k x314000 x314001 x314002 x314003 x314004 x314005 x314006 (rd_L1 x6 x8)).bind fun bt328 => (if bt328.2.2.2.2.2.2.2 = true then (if ((rd_L1 x6 x8).length : Int) = 0 then (some false) else (if x8 < (x5.length : Int) then ((arboristref46_Dissolves.f x313000 x313001 x313002 x313003 x313004 ((rd_T32 x5 x8).f0) ((rd_T32 x5 x8).f1) ((rd_T32 x5 x8).f2) ((rd_T32 x5 x8).f3) ((rd_T32 x5 x8).f4) ((rd_T32 x5 x8).f5) ((rd_T32 x5 x8).f6)).bind fun t343 => (if t343 = true then (some false) else ((arboristref42_Same.f k bt328.1 bt328.2.1 bt328.2.2.1 bt328.2.2.2.1 bt328.2.2.2.2.1 bt328.2.2.2.2.2.1 bt328.2.2.2.2.2.2.1 ((rd_T32 x5 x8).f0) ((rd_T32 x5 x8).f1) ((rd_T32 x5 x8).f2) ((rd_T32 x5 x8).f3) ((rd_T32 x5 x8).f4) ((rd_T32 x5 x8).f5) ((rd_T32 x5 x8).f6)).bind fun t345 => (if t345 = true then (arboristlaw46_FieldsAlong_.l0 k x5 x6 (wrap64 (x8 + 1)) x313000 x313001 x313002 x313003 x313004 x314000 x314001 x314002 x314003 x314004 x314005 x314006) else (some false))))) else (none))) else (some false))) else (none)) else ((arboristlaw46_knows.f k).bind fun t326 => (some t326))
end
def arboristlaw46_FieldsAlong_.f (k : Nat) (l0_0 : List ByteArray) (l0_1 : List ByteArray) (l0_2 : List Int) (l0_3 : List (S67)) (l0_4 : List (S78)) (a1_0 : Int) (a1_1 : Int) (a1_2 : Int) (a1_3 : Int) (l1_4 : List (S53)) (a1_5 : ByteArray) (l1_6 : List (S32)) : Option (Bool) := (arboristlaw46_fewGram.f k l0_0 l0_1 l0_2 l0_3 l0_4).bind fun t314 => (if t314 = true then ((arboristlaw46_Nodes.f k a1_0 a1_1 a1_2 a1_3 l1_4 a1_5 l1_6 300).bind fun t315 => (arboristlaw46_FieldsAlong_.j0 k (decide (t315 ≥ 300)) l0_0 l0_1 l0_2 l0_3 l0_4 a1_0 a1_1 a1_2 a1_3 l1_4 a1_5 l1_6)) else (arboristlaw46_FieldsAlong_.j0 k true l0_0 l0_1 l0_2 l0_3 l0_4 a1_0 a1_1 a1_2 a1_3 l1_4 a1_5 l1_6))
def arboristlaw46_FieldsAlong_.T3 : Bool × List (List Nat × List Nat) := (true, [([], []), ([], []), ([0, 1], [0, 1]), ([], []), ([], []), ([3, 4, 2], [3, 4]), ([], []), ([], []), ([6, 7, 5], [6, 7]), ([2, 8, 0, 1, 2], [2]), ([5, 9, 0, 1, 2, 3, 4, 5, 9], [5]), ([8, 10, 0, 1, 2, 3, 4, 5, 6, 7, 8, 9, 10], [8])])
def arboristlaw46_FieldsAlong_.B3 : List Nat := [0, 0, 3, 0, 0, 31, 0, 0, 255, 511, 1023, 2047]
theorem arboristlaw46_FieldsAlong_.tab3 : rtab .any (opsOf Try.f5 3) = arboristlaw46_FieldsAlong_.T3 := by kernel_rfl
theorem arboristlaw46_FieldsAlong_.bits3 : waitsOk arboristlaw46_FieldsAlong_.T3.2 arboristlaw46_FieldsAlong_.B3 = true := by kernel_rfl
def arboristlaw46_FieldsAlong_.T9 : Bool × List (List Nat × List Nat) := (true, [([], []), ([], []), ([], []), ([1, 2], [1, 2]), ([3], [3]), ([0, 4], [0, 4]), ([5], [5]), ([6], [6]), ([6], [6]), ([], []), ([9, 7, 5, 0, 1, 2, 3, 4, 5, 6, 7, 9], [7, 9]), ([8, 10, 0, 1, 2, 3, 4, 5, 6, 7, 8, 9, 10], [8])])
def arboristlaw46_FieldsAlong_.B9 : List Nat := [0, 0, 0, 6, 14, 31, 63, 127, 127, 0, 767, 2047]
theorem arboristlaw46_FieldsAlong_.tab9 : rtab .any (opsOf Try.f5 9) = arboristlaw46_FieldsAlong_.T9 := by kernel_rfl
theorem arboristlaw46_FieldsAlong_.bits9 : waitsOk arboristlaw46_FieldsAlong_.T9.2 arboristlaw46_FieldsAlong_.B9 = true := by kernel_rfl
def arboristlaw46_FieldsAlong_.T10 : Bool × List (List Nat × List Nat) := (true, [([], []), ([0], [0]), ([1], [1]), ([2], [2]), ([2], [2]), ([3, 4, 2], [2, 3, 4]), ([5, 2], [2, 5]), ([6, 2], [2, 6]), ([7, 2], [2, 7]), ([2, 8], [2, 8]), ([9, 2], [9]), ([10], [10]), ([10], [10]), ([10], [10]), ([12, 13, 10], [10, 12, 13]), ([14, 10], [10, 14]), ([11, 15, 10, 10], [10, 11, 15]), ([10, 16], [10, 16]), ([17, 16], [17]), ([18], [18]), ([18], [18]), ([18], [18]), ([20, 21, 18], [18, 20, 21]), ([22, 18], [18, 22]), ([19, 23, 18, 18], [18, 19, 23]), ([24, 18], [18, 24]), ([18, 25], [18, 25])])
def arboristlaw46_FieldsAlong_.B10 : List Nat := [0, 1, 3, 7, 7, 31, 63, 127, 255, 511, 1023, 2047, 2047, 2047, 14335, 30719, 65535, 131071, 262143, 524287, 524287, 524287, 3670015, 7864319, 16777215, 33554431, 67108863]
theorem arboristlaw46_FieldsAlong_.tab10 : rtab .any (opsOf Try.f5 10) = arboristlaw46_FieldsAlong_.T10 := by kernel_rfl
theorem arboristlaw46_FieldsAlong_.bits10 : waitsOk arboristlaw46_FieldsAlong_.T10.2 arboristlaw46_FieldsAlong_.B10 = true := by kernel_rfl
set_option maxHeartbeats 8000000 in
set_option maxRecDepth 100000 in
theorem arboristlaw46_FieldsAlong_.calls (k : Nat) (A0_0 : Option Addr) (c0_0 : Nat) (l0_0 : List ByteArray) (A0_1 : Option Addr) (c0_1 : Nat) (l0_1 : List ByteArray) (A0_2 : Option Addr) (c0_2 : Nat) (l0_2 : List Int) (A0_3 : Option Addr) (c0_3 : Nat) (l0_3 : List (S67)) (A0_4 : Option Addr) (c0_4 : Nat) (l0_4 : List (S78)) (a1_0 : Int) (a1_1 : Int) (a1_2 : Int) (a1_3 : Int) (A1_4 : Option Addr) (c1_4 : Nat) (l1_4 : List (S53)) (a1_5 : ByteArray) (A1_6 : Option Addr) (c1_6 : Nat) (l1_6 : List (S32)) (r : Bool) (w : World) (hT : r = true) (hr0_0 : Kd.C Kd.string w A0_0 l0_0.length l0_0) (hc0_0 : l0_0.length ≤ c0_0) (hr0_1 : Kd.C Kd.string w A0_1 l0_1.length l0_1) (hc0_1 : l0_1.length ≤ c0_1) (hr0_2 : Kd.C (Kd.int .i64) w A0_2 l0_2.length l0_2) (hc0_2 : l0_2.length ≤ c0_2) (hr0_3 : Kd.C k67 w A0_3 l0_3.length l0_3) (hc0_3 : l0_3.length ≤ c0_3) (hr0_4 : Kd.C k78 w A0_4 l0_4.length l0_4) (hc0_4 : l0_4.length ≤ c0_4) (hr1_4 : Kd.C k53 w A1_4 l1_4.length l1_4) (hc1_4 : l1_4.length ≤ c1_4) (hr1_6 : Kd.C k32 w A1_6 l1_6.length l1_6) (hc1_6 : l1_6.length ≤ c1_6) (h : arboristlaw46_FieldsAlong_.f k l0_0 l0_1 l0_2 l0_3 l0_4 a1_0 a1_1 a1_2 a1_3 l1_4 a1_5 l1_6 = some r) :
  Calls Try.prog 5 #[.agg #[.slice A0_0 l0_0.length c0_0, .slice A0_1 l0_1.length c0_1, .slice A0_2 l0_2.length c0_2, .slice A0_3 l0_3.length c0_3, .slice A0_4 l0_4.length c0_4], .agg #[.int .i64 a1_0, .int .i64 a1_1, .int .i64 a1_2, .int .i64 a1_3, .slice A1_4 l1_4.length c1_4, .string a1_5, .slice A1_6 l1_6.length c1_6]] w fun e w' => e = .returned (.bool r) ∧ Below w.heap.size w w' := by
 have hu27 := Try.underlying27
 have hu32 := Try.underlying32
 have HT := Az.mk hT
 clear hT
 have HR0_0 := Az.mk hr0_0
 have HC0_0 := Az.mk hc0_0
 clear hr0_0 hc0_0
 have HR0_1 := Az.mk hr0_1
 have HC0_1 := Az.mk hc0_1
 clear hr0_1 hc0_1
 have HR0_2 := Az.mk hr0_2
 have HC0_2 := Az.mk hc0_2
 clear hr0_2 hc0_2
 have HR0_3 := Az.mk hr0_3
 have HC0_3 := Az.mk hc0_3
 clear hr0_3 hc0_3
 have HR0_4 := Az.mk hr0_4
 have HC0_4 := Az.mk hc0_4
 clear hr0_4 hc0_4
 have HR1_4 := Az.mk hr1_4
 have HC1_4 := Az.mk hc1_4
 clear hr1_4 hc1_4
 have HR1_6 := Az.mk hr1_6
 have HC1_6 := Az.mk hc1_6
 clear hr1_6 hc1_6
 have HB := Az.mk (Below.refl w.heap.size w)
 have H : ((arboristlaw46_fewGram.f k l0_0 l0_1 l0_2 l0_3 l0_4).bind fun t314 => (if t314 = true then ((arboristlaw46_Nodes.f k a1_0 a1_1 a1_2 a1_3 l1_4 a1_5 l1_6 300).bind fun t315 => (arboristlaw46_FieldsAlong_.j0 k (decide (t315 ≥ 300)) l0_0 l0_1 l0_2 l0_3 l0_4 a1_0 a1_1 a1_2 a1_3 l1_4 a1_5 l1_6)) else (arboristlaw46_FieldsAlong_.j0 k true l0_0 l0_1 l0_2 l0_3 l0_4 a1_0 a1_1 a1_2 a1_3 l1_4 a1_5 l1_6))) = some r := h
 clear h
 have HC3 := Az.mk H
 clear H
 go_enter Try.func5, Try.ntmps5
 go_upto_region 1 with (first | ((with_reducible refine gate_dst (N := 2) rfl ?_); (try (refine gate_guard (by rfl) ?_; dsimp only)); refine box_event ?hg (N := 2) ?hd (cs := #[.slice A0_0 l0_0.length c0_0, .slice A0_1 l0_1.length c0_1, .slice A0_2 l0_2.length c0_2, .slice A0_3 l0_3.length c0_3, .slice A0_4 l0_4.length c0_4]) (t := 27) ?hr ?_; (case hd => rfl); (case hg => rfl); (case hr => first | (go_simp; done) | (go_simp; rfl)); intro gb312 hg w4 hbox hb; have n0_ := Az.mk (bT_ (by repeat (first | (with_reducible first | exact HB.out | apply bA_ | apply bN_ | apply bD_) | exact HB.out)) hb); have n1_ := Az.mk (hbox); have n2_ := Az.mk ((by rw [hg]; exact (bZ_ (by repeat (first | (with_reducible first | exact HB.out | apply bA_ | apply bN_ | apply bD_) | exact HB.out))) : w.heap.size ≤ gb312)); have n3_ := Az.mk ((by rw [hg]; exact (bZ_ (by repeat (first | (with_reducible first | exact HB.out | apply bA_ | apply bN_ | apply bD_) | exact HB.out))) : w.heap.size ≤ gb312)); clear HB; have HB := n0_; have BK312 := n1_; have GW312 := n2_; have GE312 := n3_; clear n0_ n1_ n2_ n3_; clear hb hbox hg) | ((with_reducible refine gate_dst (N := 3) rfl ?_); (try (refine gate_guard (by rfl) ?_; dsimp only)); refine box_event ?hg (N := 3) ?hd (cs := #[.int .i64 a1_0, .int .i64 a1_1, .int .i64 a1_2, .int .i64 a1_3, .slice A1_4 l1_4.length c1_4, .string a1_5, .slice A1_6 l1_6.length c1_6]) (t := 32) ?hr ?_; (case hd => rfl); (case hg => rfl); (case hr => first | (go_simp; done) | (go_simp; rfl)); intro gb313 hg w5 hbox hb; have n0_ := Az.mk (kB_ (g := gb312) (o := .cells #[.slice A0_0 l0_0.length c0_0, .slice A0_1 l0_1.length c0_1, .slice A0_2 l0_2.length c0_2, .slice A0_3 l0_3.length c0_3, .slice A0_4 l0_4.length c0_4] 27 (0, 0)) (by (with_reducible repeat (first | refine kN_ ?_ _ | refine kD_ ?_ | refine kA_ ?_ _)); exact BK312.out) hb); have n1_ := Az.mk (bT_ (by repeat (first | (with_reducible first | exact HB.out | apply bA_ | apply bN_ | apply bD_ | refine bS_ ?_ GE312.out) | exact HB.out)) hb); have n2_ := Az.mk (hbox); have n3_ := Az.mk ((by rw [hg]; exact (bZ_ (by repeat (first | (with_reducible first | exact HB.out | apply bA_ | apply bN_ | apply bD_ | refine bS_ ?_ GE312.out) | exact HB.out))) : w.heap.size ≤ gb313)); have n4_ := Az.mk ((by rw [hg]; exact (bZ_ (by repeat (first | (with_reducible first | exact HB.out | apply bA_ | apply bN_ | apply bD_ | refine bS_ ?_ GE312.out) | exact HB.out))) : w.heap.size ≤ gb313)); have n5_ := Az.mk ((by rw [hg]; exact Nat.ne_of_lt (blk_lt (g := gb312) (o := .cells #[.slice A0_0 l0_0.length c0_0, .slice A0_1 l0_1.length c0_1, .slice A0_2 l0_2.length c0_2, .slice A0_3 l0_3.length c0_3, .slice A0_4 l0_4.length c0_4] 27 (0, 0)) (by (with_reducible repeat (first | refine kN_ ?_ _ | refine kD_ ?_ | refine kA_ ?_ _)); exact BK312.out)) : gb312 ≠ gb313)); have n6_ := Az.mk ((by rw [hg]; exact Nat.ne_of_gt (blk_lt (g := gb312) (o := .cells #[.slice A0_0 l0_0.length c0_0, .slice A0_1 l0_1.length c0_1, .slice A0_2 l0_2.length c0_2, .slice A0_3 l0_3.length c0_3, .slice A0_4 l0_4.length c0_4] 27 (0, 0)) (by (with_reducible repeat (first | refine kN_ ?_ _ | refine kD_ ?_ | refine kA_ ?_ _)); exact BK312.out)) : gb313 ≠ gb312)); clear BK312; clear HB; have BK312 := n0_; have HB := n1_; have BK313 := n2_; have GW313 := n3_; have GE313 := n4_; have NB312_313 := n5_; have NB313_312 := n6_; clear n0_ n1_ n2_ n3_ n4_ n5_ n6_; clear hb hbox hg))
 (try simp only [Act.put, List.setIfInBounds_toArray, List.set_cons_zero, List.set_cons_succ])
 go_cut [18] (fun v18 wc => ∃ (kq : Nat) (x18_2 : Bool), v18 = .bool x18_2 ∧ Az (arboristlaw46_FieldsAlong_.j0 kq x18_2 l0_0 l0_1 l0_2 l0_3 l0_4 a1_0 a1_1 a1_2 a1_3 l1_4 a1_5 l1_6 = some r) ∧ Az (kq ≤ k) ∧ Az (wc.heap[gb312]? = some (.cells #[(.slice A0_0 l0_0.length c0_0), (.slice A0_1 l0_1.length c0_1), (.slice A0_2 l0_2.length c0_2), (.slice A0_3 l0_3.length c0_3), (.slice A0_4 l0_4.length c0_4)] 27 (0, 0))) ∧ Az (wc.heap[gb313]? = some (.cells #[.int .i64 a1_0, .int .i64 a1_1, .int .i64 a1_2, .int .i64 a1_3, (.slice A1_4 l1_4.length c1_4), .string a1_5, (.slice A1_6 l1_6.length c1_6)] 32 (0, 0))) ∧ Az (Below w.heap.size w wc))
 case first =>
  have H := HC3.out
  clear HC3
  replace H := Option.bind_eq_some_iff.mp H
  obtain ⟨t314, A60, H⟩ := H
  replace H : (if t314 = true then ((arboristlaw46_Nodes.f k a1_0 a1_1 a1_2 a1_3 l1_4 a1_5 l1_6 300).bind fun t315 => (arboristlaw46_FieldsAlong_.j0 k (decide (t315 ≥ 300)) l0_0 l0_1 l0_2 l0_3 l0_4 a1_0 a1_1 a1_2 a1_3 l1_4 a1_5 l1_6)) else (arboristlaw46_FieldsAlong_.j0 k true l0_0 l0_1 l0_2 l0_3 l0_4 a1_0 a1_1 a1_2 a1_3 l1_4 a1_5 l1_6)) = some r := H
  have A6 := Az.mk A60
  clear A60
  by_cases c7 : t314 = true
  ·subst c7
   have H1 : ((arboristlaw46_Nodes.f k a1_0 a1_1 a1_2 a1_3 l1_4 a1_5 l1_6 300).bind fun t315 => (arboristlaw46_FieldsAlong_.j0 k (decide (t315 ≥ 300)) l0_0 l0_1 l0_2 l0_3 l0_4 a1_0 a1_1 a1_2 a1_3 l1_4 a1_5 l1_6)) = some r := by rw [if_pos rfl] at H; exact H
   clear H
   have H := H1
   clear H1
   replace H := Option.bind_eq_some_iff.mp H
   obtain ⟨t315, A80, H⟩ := H
   replace H : (arboristlaw46_FieldsAlong_.j0 k (decide (t315 ≥ 300)) l0_0 l0_1 l0_2 l0_3 l0_4 a1_0 a1_1 a1_2 a1_3 l1_4 a1_5 l1_6) = some r := H
   have A8 := Az.mk A80
   clear A80
   have H' := Az.mk H
   clear H
   have hnb9 := NB312_313.out
   have hnc9 := NB313_312.out
   have hcz10_0 : w5.cell? ⟨gb312, 0, none⟩ = some (.slice A0_0 l0_0.length c0_0) := (bC_ BK312.out 0).trans rfl
   have hcz10_1 : w5.cell? ⟨gb312, 1, none⟩ = some (.slice A0_1 l0_1.length c0_1) := (bC_ BK312.out 1).trans rfl
   have hcz10_2 : w5.cell? ⟨gb312, 2, none⟩ = some (.slice A0_2 l0_2.length c0_2) := (bC_ BK312.out 2).trans rfl
   have hcz10_3 : w5.cell? ⟨gb312, 3, none⟩ = some (.slice A0_3 l0_3.length c0_3) := (bC_ BK312.out 3).trans rfl
   have hcz10_4 : w5.cell? ⟨gb312, 4, none⟩ = some (.slice A0_4 l0_4.length c0_4) := (bC_ BK312.out 4).trans rfl
   have hfz10_0 := bF_ BK312.out 0
   have hfz10_1 := bF_ BK312.out 1
   have hfz10_2 := bF_ BK312.out 2
   have hfz10_3 := bF_ BK312.out 3
   have hfz10_4 := bF_ BK312.out 4
   go_wp2_with (first | ((with_reducible refine gate_callee (f := 8) rfl ?_); refine goesL_ (some 12) rfl rfl Try.func8 (by kernel_rfl) rfl #[.agg #[.slice A0_0 l0_0.length c0_0, .slice A0_1 l0_1.length c0_1, .slice A0_2 l0_2.length c0_2, .slice A0_3 l0_3.length c0_3, .slice A0_4 l0_4.length c0_4]] rfl (by (try simp only [List.map_toArray, List.map_cons, List.map_nil]); first | done | rfl | (simp only [List.length_drop, List.length_take]; rfl)) ?_; (with_reducible refine (arboristlaw46_fewGram.calls k _ _ l0_0 _ _ l0_1 _ _ l0_2 _ _ l0_3 _ _ l0_4 true _ ?side1 ?side2 ?side3 ?side4 ?side5 ?side6 ?side7 ?side8 ?side9 ?side10 A6.out).mono ?_); (case side1 => repeat (first | exact (Kd.C_below HR0_0.out HB.out) | (with_reducible refine Kd.C_alloc ?_ _) | (with_reducible refine Kd.C_drewN ?_ _) | (with_reducible refine Kd.C_drew ?_))); (case side2 => exact HC0_0.out); (case side3 => repeat (first | exact (Kd.C_below HR0_1.out HB.out) | (with_reducible refine Kd.C_alloc ?_ _) | (with_reducible refine Kd.C_drewN ?_ _) | (with_reducible refine Kd.C_drew ?_))); (case side4 => exact HC0_1.out); (case side5 => repeat (first | exact (Kd.C_below HR0_2.out HB.out) | (with_reducible refine Kd.C_alloc ?_ _) | (with_reducible refine Kd.C_drewN ?_ _) | (with_reducible refine Kd.C_drew ?_))); (case side6 => exact HC0_2.out); (case side7 => repeat (first | exact (Kd.C_below HR0_3.out HB.out) | (with_reducible refine Kd.C_alloc ?_ _) | (with_reducible refine Kd.C_drewN ?_ _) | (with_reducible refine Kd.C_drew ?_))); (case side8 => exact HC0_3.out); (case side9 => repeat (first | exact (Kd.C_below HR0_4.out HB.out) | (with_reducible refine Kd.C_alloc ?_ _) | (with_reducible refine Kd.C_drewN ?_ _) | (with_reducible refine Kd.C_drew ?_))); (case side10 => exact HC0_4.out); rintro e w11 ⟨rfl, hb⟩; refine ⟨_, rfl, ?_⟩; have n0_ := Az.mk (kB_ (g := gb312) (o := .cells #[.slice A0_0 l0_0.length c0_0, .slice A0_1 l0_1.length c0_1, .slice A0_2 l0_2.length c0_2, .slice A0_3 l0_3.length c0_3, .slice A0_4 l0_4.length c0_4] 27 (0, 0)) (by (with_reducible repeat (first | refine kN_ ?_ _ | refine kD_ ?_ | refine kA_ ?_ _)); exact BK312.out) hb); have n1_ := Az.mk (kB_ (g := gb313) (o := .cells #[.int .i64 a1_0, .int .i64 a1_1, .int .i64 a1_2, .int .i64 a1_3, .slice A1_4 l1_4.length c1_4, .string a1_5, .slice A1_6 l1_6.length c1_6] 32 (0, 0)) (by (with_reducible repeat (first | refine kN_ ?_ _ | refine kD_ ?_ | refine kA_ ?_ _)); exact BK313.out) hb); have n2_ := Az.mk (bT_ (by repeat (first | (with_reducible first | exact HB.out | apply bA_ | apply bN_ | apply bD_ | refine bS_ ?_ GE312.out | refine bS_ ?_ GE313.out) | exact HB.out)) hb); clear BK312; clear BK313; clear HB; have BK312 := n0_; have BK313 := n1_; have HB := n2_; clear n0_ n1_ n2_; (try clear hb); (try clear hb2); (try clear hk); (try clear hi); have hcz12_0 : w11.cell? ⟨gb313, 0, none⟩ = some (.int .i64 a1_0) := (bC_ BK313.out 0).trans rfl; have hcz12_1 : w11.cell? ⟨gb313, 1, none⟩ = some (.int .i64 a1_1) := (bC_ BK313.out 1).trans rfl; have hcz12_2 : w11.cell? ⟨gb313, 2, none⟩ = some (.int .i64 a1_2) := (bC_ BK313.out 2).trans rfl; have hcz12_3 : w11.cell? ⟨gb313, 3, none⟩ = some (.int .i64 a1_3) := (bC_ BK313.out 3).trans rfl; have hcz12_4 : w11.cell? ⟨gb313, 4, none⟩ = some (.slice A1_4 l1_4.length c1_4) := (bC_ BK313.out 4).trans rfl; have hcz12_5 : w11.cell? ⟨gb313, 5, none⟩ = some (.string a1_5) := (bC_ BK313.out 5).trans rfl; have hcz12_6 : w11.cell? ⟨gb313, 6, none⟩ = some (.slice A1_6 l1_6.length c1_6) := (bC_ BK313.out 6).trans rfl; have hfz12_0 := bF_ BK313.out 0; have hfz12_1 := bF_ BK313.out 1; have hfz12_2 := bF_ BK313.out 2; have hfz12_3 := bF_ BK313.out 3; have hfz12_4 := bF_ BK313.out 4; have hfz12_5 := bF_ BK313.out 5; have hfz12_6 := bF_ BK313.out 6) | (go_at_call 9; (with_reducible refine (arboristlaw46_Nodes.calls k a1_0 a1_1 a1_2 a1_3 _ _ l1_4 a1_5 _ _ l1_6 300 t315 _ ?side1 ?side2 ?side3 ?side4 A8.out).mono ?_); (case side1 => repeat (first | exact (Kd.C_below HR1_4.out HB.out) | (with_reducible refine Kd.C_alloc ?_ _) | (with_reducible refine Kd.C_drewN ?_ _) | (with_reducible refine Kd.C_drew ?_))); (case side2 => exact HC1_4.out); (case side3 => repeat (first | exact (Kd.C_below HR1_6.out HB.out) | (with_reducible refine Kd.C_alloc ?_ _) | (with_reducible refine Kd.C_drewN ?_ _) | (with_reducible refine Kd.C_drew ?_))); (case side4 => exact HC1_6.out); rintro e w13 ⟨rfl, hb⟩; have n0_ := Az.mk (kB_ (g := gb312) (o := .cells #[.slice A0_0 l0_0.length c0_0, .slice A0_1 l0_1.length c0_1, .slice A0_2 l0_2.length c0_2, .slice A0_3 l0_3.length c0_3, .slice A0_4 l0_4.length c0_4] 27 (0, 0)) (by (with_reducible repeat (first | refine kN_ ?_ _ | refine kD_ ?_ | refine kA_ ?_ _)); exact BK312.out) hb); have n1_ := Az.mk (kB_ (g := gb313) (o := .cells #[.int .i64 a1_0, .int .i64 a1_1, .int .i64 a1_2, .int .i64 a1_3, .slice A1_4 l1_4.length c1_4, .string a1_5, .slice A1_6 l1_6.length c1_6] 32 (0, 0)) (by (with_reducible repeat (first | refine kN_ ?_ _ | refine kD_ ?_ | refine kA_ ?_ _)); exact BK313.out) hb); have n2_ := Az.mk (bT_ (by repeat (first | (with_reducible first | exact HB.out | apply bA_ | apply bN_ | apply bD_ | refine bS_ ?_ GE312.out | refine bS_ ?_ GE313.out) | exact HB.out)) hb); clear BK312; clear BK313; clear HB; have BK312 := n0_; have BK313 := n1_; have HB := n2_; clear n0_ n1_ n2_; (try clear hb); (try clear hb2); (try clear hk); (try clear hi)))
   go_meet
   case rel => exact ⟨_, (decide (t315 ≥ 300)), (by first | rfl | (simp; done) | (simp [*]; done) | (refine congrArg Value.bool ?_; exact isE_ _)), H', ⟨by first | omega | exact Nat.le_refl _⟩, ⟨by (with_reducible repeat (first | refine kN_ ?_ _ | refine kD_ ?_ | refine kA_ ?_ _)); exact BK312.out⟩, ⟨by (with_reducible repeat (first | refine kN_ ?_ _ | refine kD_ ?_ | refine kA_ ?_ _)); exact BK313.out⟩, ⟨by repeat (first | (with_reducible first | exact HB.out | apply bA_ | apply bN_ | apply bD_ | refine bS_ ?_ GE312.out | refine bS_ ?_ GE313.out) | exact HB.out)⟩⟩
  ·replace c7 := Bool.eq_false_iff.mpr c7
   subst c7
   have H1 : (arboristlaw46_FieldsAlong_.j0 k true l0_0 l0_1 l0_2 l0_3 l0_4 a1_0 a1_1 a1_2 a1_3 l1_4 a1_5 l1_6) = some r := by rw [if_neg (show ¬ (false = true) by decide)] at H; exact H
   clear H
   have H := H1
   clear H1
   have H' := Az.mk H
   clear H
   have hnb14 := NB312_313.out
   have hnc14 := NB313_312.out
   have hcz15_0 : w5.cell? ⟨gb312, 0, none⟩ = some (.slice A0_0 l0_0.length c0_0) := (bC_ BK312.out 0).trans rfl
   have hcz15_1 : w5.cell? ⟨gb312, 1, none⟩ = some (.slice A0_1 l0_1.length c0_1) := (bC_ BK312.out 1).trans rfl
   have hcz15_2 : w5.cell? ⟨gb312, 2, none⟩ = some (.slice A0_2 l0_2.length c0_2) := (bC_ BK312.out 2).trans rfl
   have hcz15_3 : w5.cell? ⟨gb312, 3, none⟩ = some (.slice A0_3 l0_3.length c0_3) := (bC_ BK312.out 3).trans rfl
   have hcz15_4 : w5.cell? ⟨gb312, 4, none⟩ = some (.slice A0_4 l0_4.length c0_4) := (bC_ BK312.out 4).trans rfl
   have hfz15_0 := bF_ BK312.out 0
   have hfz15_1 := bF_ BK312.out 1
   have hfz15_2 := bF_ BK312.out 2
   have hfz15_3 := bF_ BK312.out 3
   have hfz15_4 := bF_ BK312.out 4
   go_wp2_with (first | ((with_reducible refine gate_callee (f := 8) rfl ?_); refine goesL_ (some 12) rfl rfl Try.func8 (by kernel_rfl) rfl #[.agg #[.slice A0_0 l0_0.length c0_0, .slice A0_1 l0_1.length c0_1, .slice A0_2 l0_2.length c0_2, .slice A0_3 l0_3.length c0_3, .slice A0_4 l0_4.length c0_4]] rfl (by (try simp only [List.map_toArray, List.map_cons, List.map_nil]); first | done | rfl | (simp only [List.length_drop, List.length_take]; rfl)) ?_; (with_reducible refine (arboristlaw46_fewGram.calls k _ _ l0_0 _ _ l0_1 _ _ l0_2 _ _ l0_3 _ _ l0_4 false _ ?side1 ?side2 ?side3 ?side4 ?side5 ?side6 ?side7 ?side8 ?side9 ?side10 A6.out).mono ?_); (case side1 => repeat (first | exact (Kd.C_below HR0_0.out HB.out) | (with_reducible refine Kd.C_alloc ?_ _) | (with_reducible refine Kd.C_drewN ?_ _) | (with_reducible refine Kd.C_drew ?_))); (case side2 => exact HC0_0.out); (case side3 => repeat (first | exact (Kd.C_below HR0_1.out HB.out) | (with_reducible refine Kd.C_alloc ?_ _) | (with_reducible refine Kd.C_drewN ?_ _) | (with_reducible refine Kd.C_drew ?_))); (case side4 => exact HC0_1.out); (case side5 => repeat (first | exact (Kd.C_below HR0_2.out HB.out) | (with_reducible refine Kd.C_alloc ?_ _) | (with_reducible refine Kd.C_drewN ?_ _) | (with_reducible refine Kd.C_drew ?_))); (case side6 => exact HC0_2.out); (case side7 => repeat (first | exact (Kd.C_below HR0_3.out HB.out) | (with_reducible refine Kd.C_alloc ?_ _) | (with_reducible refine Kd.C_drewN ?_ _) | (with_reducible refine Kd.C_drew ?_))); (case side8 => exact HC0_3.out); (case side9 => repeat (first | exact (Kd.C_below HR0_4.out HB.out) | (with_reducible refine Kd.C_alloc ?_ _) | (with_reducible refine Kd.C_drewN ?_ _) | (with_reducible refine Kd.C_drew ?_))); (case side10 => exact HC0_4.out); rintro e w16 ⟨rfl, hb⟩; refine ⟨_, rfl, ?_⟩; have n0_ := Az.mk (kB_ (g := gb312) (o := .cells #[.slice A0_0 l0_0.length c0_0, .slice A0_1 l0_1.length c0_1, .slice A0_2 l0_2.length c0_2, .slice A0_3 l0_3.length c0_3, .slice A0_4 l0_4.length c0_4] 27 (0, 0)) (by (with_reducible repeat (first | refine kN_ ?_ _ | refine kD_ ?_ | refine kA_ ?_ _)); exact BK312.out) hb); have n1_ := Az.mk (kB_ (g := gb313) (o := .cells #[.int .i64 a1_0, .int .i64 a1_1, .int .i64 a1_2, .int .i64 a1_3, .slice A1_4 l1_4.length c1_4, .string a1_5, .slice A1_6 l1_6.length c1_6] 32 (0, 0)) (by (with_reducible repeat (first | refine kN_ ?_ _ | refine kD_ ?_ | refine kA_ ?_ _)); exact BK313.out) hb); have n2_ := Az.mk (bT_ (by repeat (first | (with_reducible first | exact HB.out | apply bA_ | apply bN_ | apply bD_ | refine bS_ ?_ GE312.out | refine bS_ ?_ GE313.out) | exact HB.out)) hb); clear BK312; clear BK313; clear HB; have BK312 := n0_; have BK313 := n1_; have HB := n2_; clear n0_ n1_ n2_; (try clear hb); (try clear hb2); (try clear hk); (try clear hi)))
   go_meet
   case rel => exact ⟨_, (true), (by first | rfl | (simp; done) | (simp [*]; done) | (refine congrArg Value.bool ?_; exact isE_ _)), H', ⟨by first | omega | exact Nat.le_refl _⟩, ⟨by (with_reducible repeat (first | refine kN_ ?_ _ | refine kD_ ?_ | refine kA_ ?_ _)); exact BK312.out⟩, ⟨by (with_reducible repeat (first | refine kN_ ?_ _ | refine kD_ ?_ | refine kA_ ?_ _)); exact BK313.out⟩, ⟨by repeat (first | (with_reducible first | exact HB.out | apply bA_ | apply bN_ | apply bD_ | refine bS_ ?_ GE312.out | refine bS_ ?_ GE313.out) | exact HB.out)⟩⟩
 case rest =>
  clear HC3
  try clear c1
  try clear p2
  try clear c5
  try clear c7
  try clear c8
  try clear c9
  try clear c14
  try clear hcz10_0
  try clear hcz10_1
  try clear hcz10_2
  try clear hcz10_3
  try clear hcz10_4
  try clear hcz12_0
  try clear hcz12_1
  try clear hcz12_2
  try clear hcz12_3
  try clear hcz12_4
  try clear hcz12_5
  try clear hcz12_6
  try clear hcz15_0
  try clear hcz15_1
  try clear hcz15_2
  try clear hcz15_3
  try clear hcz15_4
  try clear hfz10_0
  try clear hfz10_1
  try clear hfz10_2
  try clear hfz10_3
  try clear hfz10_4
  try clear hfz12_0
  try clear hfz12_1
  try clear hfz12_2
  try clear hfz12_3
  try clear hfz12_4
  try clear hfz12_5
  try clear hfz12_6
  try clear hfz15_0
  try clear hfz15_1
  try clear hfz15_2
  try clear hfz15_3
  try clear hfz15_4
  obtain ⟨kq, x18_2, rfl, HA, HJ2, BK312, BK313, HB⟩ := hcut
  cases kq with
  | zero => exact absurd HA.out (by simp [arboristlaw46_FieldsAlong_.j0])
  | succ kj2 =>
   have H := HA.out
   clear HA
   simp only [arboristlaw46_FieldsAlong_.j0] at H
   by_cases c17 : x18_2 = true
   ·subst c17
    have H1 : ((arboristlaw46_knows.f kj2).bind fun t316 => (some t316)) = some r := by rw [if_pos rfl] at H; exact H
    clear H
    have H := H1
    clear H1
    replace H := Option.bind_eq_some_iff.mp H
    obtain ⟨t316, A180, H⟩ := H
    replace H : (some t316) = some r := H
    have A18 := Az.mk A180
    clear A180
    obtain rfl := Option.some.inj H
    go_wp2_with (first | ((with_reducible refine gate_callee (f := 10) rfl ?_); refine goesL_ (some 19) rfl rfl Try.func10 (by kernel_rfl) rfl #[] rfl (by (try simp only [List.map_toArray, List.map_cons, List.map_nil]); first | done | rfl | (simp only [List.length_drop, List.length_take]; rfl)) ?_; (with_reducible refine (arboristlaw46_knows.calls kj2  t316 _ A18.out).mono ?_); rintro e w19 ⟨rfl, hb⟩; refine ⟨_, rfl, ?_⟩; have n0_ := Az.mk (kB_ (g := gb312) (o := .cells #[.slice A0_0 l0_0.length c0_0, .slice A0_1 l0_1.length c0_1, .slice A0_2 l0_2.length c0_2, .slice A0_3 l0_3.length c0_3, .slice A0_4 l0_4.length c0_4] 27 (0, 0)) (by (with_reducible repeat (first | refine kN_ ?_ _ | refine kD_ ?_ | refine kA_ ?_ _)); exact BK312.out) hb); have n1_ := Az.mk (kB_ (g := gb313) (o := .cells #[.int .i64 a1_0, .int .i64 a1_1, .int .i64 a1_2, .int .i64 a1_3, .slice A1_4 l1_4.length c1_4, .string a1_5, .slice A1_6 l1_6.length c1_6] 32 (0, 0)) (by (with_reducible repeat (first | refine kN_ ?_ _ | refine kD_ ?_ | refine kA_ ?_ _)); exact BK313.out) hb); have n2_ := Az.mk (bT_ (by repeat (first | (with_reducible first | exact HB.out | apply bA_ | apply bN_ | apply bD_ | refine bS_ ?_ GE312.out | refine bS_ ?_ GE313.out) | exact HB.out)) hb); clear BK312; clear BK313; clear HB; have BK312 := n0_; have BK313 := n1_; have HB := n2_; clear n0_ n1_ n2_; (try clear hb); (try clear hb2); (try clear hk); (try clear hi)))
    go_ret
    exact ⟨by first | rfl | (simp [errW_none, errW_some] <;> rfl) | (simp [*, errW_none, errW_some] <;> rfl), by repeat (first | (with_reducible first | exact HB.out | apply bA_ | apply bN_ | apply bD_ | refine bS_ ?_ GE312.out | refine bS_ ?_ GE313.out) | exact HB.out)⟩
   ·replace c17 := Bool.eq_false_iff.mpr c17
    subst c17
    have H1 : ((fields_Kids.f kj2 l0_0 l0_1 l0_2 l0_3 l0_4 a1_0 a1_1 a1_2 a1_3 l1_4 a1_5 l1_6).bind fun t317 => ((fields_Paths.f kj2 l0_0 l0_1 l0_2 l0_3 l0_4 a1_0 a1_1 a1_2 a1_3 l1_4 a1_5 l1_6).bind fun t320 => ((fields_Fields.f kj2 l0_0 l0_1 l0_2 l0_3 l0_4 a1_0 a1_1 a1_2 a1_3 l1_4 a1_5 l1_6).bind fun t323 => (if (t317.length : Int) = (t320.length : Int) then (arboristlaw46_FieldsAlong_.j1 kj2 t317 t320 ((t317.length : Int) != (t323.length : Int)) l0_0 l0_1 l0_2 l0_3 l0_4 a1_0 a1_1 a1_2 a1_3 l1_4 a1_5 l1_6) else (arboristlaw46_FieldsAlong_.j1 kj2 t317 t320 true l0_0 l0_1 l0_2 l0_3 l0_4 a1_0 a1_1 a1_2 a1_3 l1_4 a1_5 l1_6))))) = some r := by rw [if_neg (show ¬ (false = true) by decide)] at H; exact H
    clear H
    have H := H1
    clear H1
    replace H := Option.bind_eq_some_iff.mp H
    obtain ⟨t317, A200, H⟩ := H
    replace H : ((fields_Paths.f kj2 l0_0 l0_1 l0_2 l0_3 l0_4 a1_0 a1_1 a1_2 a1_3 l1_4 a1_5 l1_6).bind fun t320 => ((fields_Fields.f kj2 l0_0 l0_1 l0_2 l0_3 l0_4 a1_0 a1_1 a1_2 a1_3 l1_4 a1_5 l1_6).bind fun t323 => (if (t317.length : Int) = (t320.length : Int) then (arboristlaw46_FieldsAlong_.j1 kj2 t317 t320 ((t317.length : Int) != (t323.length : Int)) l0_0 l0_1 l0_2 l0_3 l0_4 a1_0 a1_1 a1_2 a1_3 l1_4 a1_5 l1_6) else (arboristlaw46_FieldsAlong_.j1 kj2 t317 t320 true l0_0 l0_1 l0_2 l0_3 l0_4 a1_0 a1_1 a1_2 a1_3 l1_4 a1_5 l1_6)))) = some r := H
    have A20 := Az.mk A200
    clear A200
    replace H := Option.bind_eq_some_iff.mp H
    obtain ⟨t320, A210, H⟩ := H
    replace H : ((fields_Fields.f kj2 l0_0 l0_1 l0_2 l0_3 l0_4 a1_0 a1_1 a1_2 a1_3 l1_4 a1_5 l1_6).bind fun t323 => (if (t317.length : Int) = (t320.length : Int) then (arboristlaw46_FieldsAlong_.j1 kj2 t317 t320 ((t317.length : Int) != (t323.length : Int)) l0_0 l0_1 l0_2 l0_3 l0_4 a1_0 a1_1 a1_2 a1_3 l1_4 a1_5 l1_6) else (arboristlaw46_FieldsAlong_.j1 kj2 t317 t320 true l0_0 l0_1 l0_2 l0_3 l0_4 a1_0 a1_1 a1_2 a1_3 l1_4 a1_5 l1_6))) = some r := H
    have A21 := Az.mk A210
    clear A210
    replace H := Option.bind_eq_some_iff.mp H
    obtain ⟨t323, A220, H⟩ := H
    replace H : (if (t317.length : Int) = (t320.length : Int) then (arboristlaw46_FieldsAlong_.j1 kj2 t317 t320 ((t317.length : Int) != (t323.length : Int)) l0_0 l0_1 l0_2 l0_3 l0_4 a1_0 a1_1 a1_2 a1_3 l1_4 a1_5 l1_6) else (arboristlaw46_FieldsAlong_.j1 kj2 t317 t320 true l0_0 l0_1 l0_2 l0_3 l0_4 a1_0 a1_1 a1_2 a1_3 l1_4 a1_5 l1_6)) = some r := H
    have A22 := Az.mk A220
    clear A220
    have HC23 := Az.mk H
    clear H
    try go_wp2
    have n0_ := Az.mk (kD_ BK312.out)
    have n1_ := Az.mk (kD_ BK313.out)
    have n2_ := Az.mk (bD_ HB.out)
    clear BK312
    clear BK313
    clear HB
    have BK312 := n0_
    have BK313 := n1_
    have HB := n2_
    clear n0_ n1_ n2_
    refine start_ (n := 12) (S := fun w' => w'.cell? ⟨gb312, 0, none⟩ = some (.slice A0_0 l0_0.length c0_0) ∧ w'.cell? ⟨gb312, 1, none⟩ = some (.slice A0_1 l0_1.length c0_1) ∧ w'.cell? ⟨gb312, 2, none⟩ = some (.slice A0_2 l0_2.length c0_2) ∧ w'.cell? ⟨gb312, 3, none⟩ = some (.slice A0_3 l0_3.length c0_3) ∧ w'.cell? ⟨gb312, 4, none⟩ = some (.slice A0_4 l0_4.length c0_4) ∧ w'.cell? ⟨gb313, 0, none⟩ = some (.int .i64 a1_0) ∧ w'.cell? ⟨gb313, 1, none⟩ = some (.int .i64 a1_1) ∧ w'.cell? ⟨gb313, 2, none⟩ = some (.int .i64 a1_2) ∧ w'.cell? ⟨gb313, 3, none⟩ = some (.int .i64 a1_3) ∧ w'.cell? ⟨gb313, 4, none⟩ = some (.slice A1_4 l1_4.length c1_4) ∧ w'.cell? ⟨gb313, 5, none⟩ = some (.string a1_5) ∧ w'.cell? ⟨gb313, 6, none⟩ = some (.slice A1_6 l1_6.length c1_6)) (ds := []) #[false, false, false, false, false, false, false, false, false, false, false, false] (by kernel_rfl) rfl rfl ⟨(bC_ BK312.out 0).trans rfl, (bC_ BK312.out 1).trans rfl, (bC_ BK312.out 2).trans rfl, (bC_ BK312.out 3).trans rfl, (bC_ BK312.out 4).trans rfl, (bC_ BK313.out 0).trans rfl, (bC_ BK313.out 1).trans rfl, (bC_ BK313.out 2).trans rfl, (bC_ BK313.out 3).trans rfl, (bC_ BK313.out 4).trans rfl, (bC_ BK313.out 5).trans rfl, (bC_ BK313.out 6).trans rfl⟩ (fun hHeld => ?_); refine with_tabW arboristlaw46_FieldsAlong_.tab3 arboristlaw46_FieldsAlong_.bits3 (fun HT_ HW_ => ?_)
    generalize wc.drew = w24 at BK312 BK313 HB hHeld ⊢
    refine take_ (i := 0) (N := some 20) (v := ?_) (a' := ?_) #[true, false, false, false, false, false, false, false, false, false, false, false] rfl rfl (take_ofW HT_.out HW_.out (by kernel_rfl)) (fun _ _ _ h => h) (Or.inl ⟨by rfl, ?_⟩) hHeld ?_ ?_
    rotate_left
    ·rintro w' ⟨s0, s1, s2, s3, s4, s5, s6, s7, s8, s9, s10, s11⟩
     go_simp
     with_reducible rfl
    rotate_left
    ·simp only [Act.put, List.setIfInBounds_toArray, List.set_cons_zero, List.set_cons_succ, i64_w, i32_w]
     rfl
    refine take_ (i := 1) (N := some 21) (v := ?_) (a' := ?_) #[true, true, false, false, false, false, false, false, false, false, false, false] rfl rfl (take_ofW HT_.out HW_.out (by kernel_rfl)) (fun _ _ _ h => h) (Or.inl ⟨by rfl, ?_⟩) hHeld ?_ ?_
    rotate_left
    ·rintro w' ⟨s0, s1, s2, s3, s4, s5, s6, s7, s8, s9, s10, s11⟩
     go_simp
     with_reducible rfl
    rotate_left
    ·simp only [Act.put, List.setIfInBounds_toArray, List.set_cons_zero, List.set_cons_succ, i64_w, i32_w]
     rfl
    refine take_ (i := 3) (N := some 23) (v := ?_) (a' := ?_) #[true, true, false, true, false, false, false, false, false, false, false, false] rfl rfl (take_ofW HT_.out HW_.out (by kernel_rfl)) (fun _ _ _ h => h) (Or.inl ⟨by rfl, ?_⟩) hHeld ?_ ?_
    rotate_left
    ·rintro w' ⟨s0, s1, s2, s3, s4, s5, s6, s7, s8, s9, s10, s11⟩
     go_simp
     with_reducible rfl
    rotate_left
    ·simp only [Act.put, List.setIfInBounds_toArray, List.set_cons_zero, List.set_cons_succ, i64_w, i32_w]
     rfl
    refine take_ (i := 4) (N := some 24) (v := ?_) (a' := ?_) #[true, true, false, true, true, false, false, false, false, false, false, false] rfl rfl (take_ofW HT_.out HW_.out (by kernel_rfl)) (fun _ _ _ h => h) (Or.inl ⟨by rfl, ?_⟩) hHeld ?_ ?_
    rotate_left
    ·rintro w' ⟨s0, s1, s2, s3, s4, s5, s6, s7, s8, s9, s10, s11⟩
     go_simp
     with_reducible rfl
    rotate_left
    ·simp only [Act.put, List.setIfInBounds_toArray, List.set_cons_zero, List.set_cons_succ, i64_w, i32_w]
     rfl
    refine take_ (i := 6) (N := some 26) (v := ?_) (a' := ?_) #[true, true, false, true, true, false, true, false, false, false, false, false] rfl rfl (take_ofW HT_.out HW_.out (by kernel_rfl)) (fun _ _ _ h => h) (Or.inl ⟨by rfl, ?_⟩) hHeld ?_ ?_
    rotate_left
    ·rintro w' ⟨s0, s1, s2, s3, s4, s5, s6, s7, s8, s9, s10, s11⟩
     go_simp
     with_reducible rfl
    rotate_left
    ·simp only [Act.put, List.setIfInBounds_toArray, List.set_cons_zero, List.set_cons_succ, i64_w, i32_w]
     rfl
    refine take_ (i := 7) (N := some 27) (v := ?_) (a' := ?_) #[true, true, false, true, true, false, true, true, false, false, false, false] rfl rfl (take_ofW HT_.out HW_.out (by kernel_rfl)) (fun _ _ _ h => h) (Or.inl ⟨by rfl, ?_⟩) hHeld ?_ ?_
    rotate_left
    ·rintro w' ⟨s0, s1, s2, s3, s4, s5, s6, s7, s8, s9, s10, s11⟩
     go_simp
     with_reducible rfl
    rotate_left
    ·simp only [Act.put, List.setIfInBounds_toArray, List.set_cons_zero, List.set_cons_succ, i64_w, i32_w]
     rfl
    refine one_ (i := 2) (N := some 22) #[true, true, true, true, true, false, true, true, false, false, false, false] rfl rfl (one_of HT_.out (by kernel_rfl)) (by decide) (fun K hK => ?_)
    refine goes_ Try.func16 (by kernel_rfl) rfl #[.agg #[.slice A0_0 l0_0.length c0_0, .slice A0_1 l0_1.length c0_1, .slice A0_2 l0_2.length c0_2, .slice A0_3 l0_3.length c0_3, .slice A0_4 l0_4.length c0_4], .agg #[.int .i64 a1_0, .int .i64 a1_1, .int .i64 a1_2, .int .i64 a1_3, .slice A1_4 l1_4.length c1_4, .string a1_5, .slice A1_6 l1_6.length c1_6]] (by rfl) rfl rfl (by (try simp only [List.map_toArray, List.map_cons, List.map_nil]); first | done | rfl | (simp only [List.length_drop, List.length_take]; rfl)) ?_
    with_reducible refine (fields_Kids.calls kj2 _ _ l0_0 _ _ l0_1 _ _ l0_2 _ _ l0_3 _ _ l0_4 a1_0 a1_1 a1_2 a1_3 _ _ l1_4 a1_5 _ _ l1_6 t317 _ ?side1 ?side2 ?side3 ?side4 ?side5 ?side6 ?side7 ?side8 ?side9 ?side10 ?side11 ?side12 ?side13 ?side14 A20.out).mono ?_
    (case side1 => repeat (first | exact (Kd.C_below HR0_0.out HB.out) | (with_reducible refine Kd.C_alloc ?_ _) | (with_reducible refine Kd.C_drewN ?_ _) | (with_reducible refine Kd.C_drew ?_)))
    (case side2 => exact HC0_0.out)
    (case side3 => repeat (first | exact (Kd.C_below HR0_1.out HB.out) | (with_reducible refine Kd.C_alloc ?_ _) | (with_reducible refine Kd.C_drewN ?_ _) | (with_reducible refine Kd.C_drew ?_)))
    (case side4 => exact HC0_1.out)
    (case side5 => repeat (first | exact (Kd.C_below HR0_2.out HB.out) | (with_reducible refine Kd.C_alloc ?_ _) | (with_reducible refine Kd.C_drewN ?_ _) | (with_reducible refine Kd.C_drew ?_)))
    (case side6 => exact HC0_2.out)
    (case side7 => repeat (first | exact (Kd.C_below HR0_3.out HB.out) | (with_reducible refine Kd.C_alloc ?_ _) | (with_reducible refine Kd.C_drewN ?_ _) | (with_reducible refine Kd.C_drew ?_)))
    (case side8 => exact HC0_3.out)
    (case side9 => repeat (first | exact (Kd.C_below HR0_4.out HB.out) | (with_reducible refine Kd.C_alloc ?_ _) | (with_reducible refine Kd.C_drewN ?_ _) | (with_reducible refine Kd.C_drew ?_)))
    (case side10 => exact HC0_4.out)
    (case side11 => repeat (first | exact (Kd.C_below HR1_4.out HB.out) | (with_reducible refine Kd.C_alloc ?_ _) | (with_reducible refine Kd.C_drewN ?_ _) | (with_reducible refine Kd.C_drew ?_)))
    (case side12 => exact HC1_4.out)
    (case side13 => repeat (first | exact (Kd.C_below HR1_6.out HB.out) | (with_reducible refine Kd.C_alloc ?_ _) | (with_reducible refine Kd.C_drewN ?_ _) | (with_reducible refine Kd.C_drew ?_)))
    (case side14 => exact HC1_6.out)
    rintro e w25 ⟨v318, rfl, ho0, hb⟩
    refine ⟨_, rfl, ?_⟩
    have n0_ := Az.mk (Kd.R_lower (Kd.R_newB ho0 (g := gb313) (o := .cells #[.int .i64 a1_0, .int .i64 a1_1, .int .i64 a1_2, .int .i64 a1_3, .slice A1_4 l1_4.length c1_4, .string a1_5, .slice A1_6 l1_6.length c1_6] 32 (0, 0)) (by (with_reducible repeat (first | refine kN_ ?_ _ | refine kD_ ?_ | refine kA_ ?_ _)); exact BK313.out)) (bZ_ (by repeat (first | (with_reducible first | exact HB.out | apply bA_ | apply bN_ | apply bD_ | refine bS_ ?_ GE312.out | refine bS_ ?_ GE313.out) | exact HB.out))))
    have n1_ := Az.mk (kB_ (g := gb312) (o := .cells #[.slice A0_0 l0_0.length c0_0, .slice A0_1 l0_1.length c0_1, .slice A0_2 l0_2.length c0_2, .slice A0_3 l0_3.length c0_3, .slice A0_4 l0_4.length c0_4] 27 (0, 0)) (by (with_reducible repeat (first | refine kN_ ?_ _ | refine kD_ ?_ | refine kA_ ?_ _)); exact BK312.out) hb)
    have n2_ := Az.mk (kB_ (g := gb313) (o := .cells #[.int .i64 a1_0, .int .i64 a1_1, .int .i64 a1_2, .int .i64 a1_3, .slice A1_4 l1_4.length c1_4, .string a1_5, .slice A1_6 l1_6.length c1_6] 32 (0, 0)) (by (with_reducible repeat (first | refine kN_ ?_ _ | refine kD_ ?_ | refine kA_ ?_ _)); exact BK313.out) hb)
    have n3_ := Az.mk (bT_ (by repeat (first | (with_reducible first | exact HB.out | apply bA_ | apply bN_ | apply bD_ | refine bS_ ?_ GE312.out | refine bS_ ?_ GE313.out) | exact HB.out)) hb)
    clear BK312
    clear BK313
    clear HB
    have HO319 := n0_
    have BK312 := n1_
    have BK313 := n2_
    have HB := n3_
    clear n0_ n1_ n2_ n3_
    (try clear hb)
    (try clear hb2)
    (try clear hk)
    (try clear hi)
    (try clear ho0)
    refine hK.out _ _ ⟨(bC_ BK312.out 0).trans rfl, (bC_ BK312.out 1).trans rfl, (bC_ BK312.out 2).trans rfl, (bC_ BK312.out 3).trans rfl, (bC_ BK312.out 4).trans rfl, (bC_ BK313.out 0).trans rfl, (bC_ BK313.out 1).trans rfl, (bC_ BK313.out 2).trans rfl, (bC_ BK313.out 3).trans rfl, (bC_ BK313.out 4).trans rfl, (bC_ BK313.out 5).trans rfl, (bC_ BK313.out 6).trans rfl⟩ (fun hHeld => ?_)
    clear hK K
    refine norm_ (a' := ?_) ?_ ?_
    rotate_left
    ·show Act.put _ (some 22) _ = _
     simp only [Act.put, List.setIfInBounds_toArray, List.set_cons_zero, List.set_cons_succ, i64_w, i32_w]
     rfl
    refine one_ (i := 5) (N := some 25) #[true, true, true, true, true, true, true, true, false, false, false, false] rfl rfl (one_of HT_.out (by kernel_rfl)) (by decide) (fun K hK => ?_)
    refine goes_ Try.func11 (by kernel_rfl) rfl #[.agg #[.slice A0_0 l0_0.length c0_0, .slice A0_1 l0_1.length c0_1, .slice A0_2 l0_2.length c0_2, .slice A0_3 l0_3.length c0_3, .slice A0_4 l0_4.length c0_4], .agg #[.int .i64 a1_0, .int .i64 a1_1, .int .i64 a1_2, .int .i64 a1_3, .slice A1_4 l1_4.length c1_4, .string a1_5, .slice A1_6 l1_6.length c1_6]] (by rfl) rfl rfl (by (try simp only [List.map_toArray, List.map_cons, List.map_nil]); first | done | rfl | (simp only [List.length_drop, List.length_take]; rfl)) ?_
    with_reducible refine (fields_Paths.calls kj2 _ _ l0_0 _ _ l0_1 _ _ l0_2 _ _ l0_3 _ _ l0_4 a1_0 a1_1 a1_2 a1_3 _ _ l1_4 a1_5 _ _ l1_6 t320 _ ?side1 ?side2 ?side3 ?side4 ?side5 ?side6 ?side7 ?side8 ?side9 ?side10 ?side11 ?side12 ?side13 ?side14 A21.out).mono ?_
    (case side1 => repeat (first | exact (Kd.C_below HR0_0.out HB.out) | (with_reducible refine Kd.C_alloc ?_ _) | (with_reducible refine Kd.C_drewN ?_ _) | (with_reducible refine Kd.C_drew ?_)))
    (case side2 => exact HC0_0.out)
    (case side3 => repeat (first | exact (Kd.C_below HR0_1.out HB.out) | (with_reducible refine Kd.C_alloc ?_ _) | (with_reducible refine Kd.C_drewN ?_ _) | (with_reducible refine Kd.C_drew ?_)))
    (case side4 => exact HC0_1.out)
    (case side5 => repeat (first | exact (Kd.C_below HR0_2.out HB.out) | (with_reducible refine Kd.C_alloc ?_ _) | (with_reducible refine Kd.C_drewN ?_ _) | (with_reducible refine Kd.C_drew ?_)))
    (case side6 => exact HC0_2.out)
    (case side7 => repeat (first | exact (Kd.C_below HR0_3.out HB.out) | (with_reducible refine Kd.C_alloc ?_ _) | (with_reducible refine Kd.C_drewN ?_ _) | (with_reducible refine Kd.C_drew ?_)))
    (case side8 => exact HC0_3.out)
    (case side9 => repeat (first | exact (Kd.C_below HR0_4.out HB.out) | (with_reducible refine Kd.C_alloc ?_ _) | (with_reducible refine Kd.C_drewN ?_ _) | (with_reducible refine Kd.C_drew ?_)))
    (case side10 => exact HC0_4.out)
    (case side11 => repeat (first | exact (Kd.C_below HR1_4.out HB.out) | (with_reducible refine Kd.C_alloc ?_ _) | (with_reducible refine Kd.C_drewN ?_ _) | (with_reducible refine Kd.C_drew ?_)))
    (case side12 => exact HC1_4.out)
    (case side13 => repeat (first | exact (Kd.C_below HR1_6.out HB.out) | (with_reducible refine Kd.C_alloc ?_ _) | (with_reducible refine Kd.C_drewN ?_ _) | (with_reducible refine Kd.C_drew ?_)))
    (case side14 => exact HC1_6.out)
    rintro e w26 ⟨v321, rfl, ho0, hb⟩
    refine ⟨_, rfl, ?_⟩
    have n0_ := Az.mk (Kd.R_below (by (with_reducible repeat (first | apply Kd.R_alloc | apply Kd.R_drewN | apply Kd.R_drew)); exact HO319.out) hb)
    have n1_ := Az.mk (Kd.S_lower ho0 (bZ_ (by repeat (first | (with_reducible first | exact HB.out | apply bA_ | apply bN_ | apply bD_ | refine bS_ ?_ GE312.out | refine bS_ ?_ GE313.out) | exact HB.out))))
    have n2_ := Az.mk (kB_ (g := gb312) (o := .cells #[.slice A0_0 l0_0.length c0_0, .slice A0_1 l0_1.length c0_1, .slice A0_2 l0_2.length c0_2, .slice A0_3 l0_3.length c0_3, .slice A0_4 l0_4.length c0_4] 27 (0, 0)) (by (with_reducible repeat (first | refine kN_ ?_ _ | refine kD_ ?_ | refine kA_ ?_ _)); exact BK312.out) hb)
    have n3_ := Az.mk (kB_ (g := gb313) (o := .cells #[.int .i64 a1_0, .int .i64 a1_1, .int .i64 a1_2, .int .i64 a1_3, .slice A1_4 l1_4.length c1_4, .string a1_5, .slice A1_6 l1_6.length c1_6] 32 (0, 0)) (by (with_reducible repeat (first | refine kN_ ?_ _ | refine kD_ ?_ | refine kA_ ?_ _)); exact BK313.out) hb)
    have n4_ := Az.mk (bT_ (by repeat (first | (with_reducible first | exact HB.out | apply bA_ | apply bN_ | apply bD_ | refine bS_ ?_ GE312.out | refine bS_ ?_ GE313.out) | exact HB.out)) hb)
    clear HO319
    clear BK312
    clear BK313
    clear HB
    have HO319 := n0_
    have HO322 := n1_
    have BK312 := n2_
    have BK313 := n3_
    have HB := n4_
    clear n0_ n1_ n2_ n3_ n4_
    (try clear hb)
    (try clear hb2)
    (try clear hk)
    (try clear hi)
    (try clear ho0)
    refine hK.out _ _ ⟨(bC_ BK312.out 0).trans rfl, (bC_ BK312.out 1).trans rfl, (bC_ BK312.out 2).trans rfl, (bC_ BK312.out 3).trans rfl, (bC_ BK312.out 4).trans rfl, (bC_ BK313.out 0).trans rfl, (bC_ BK313.out 1).trans rfl, (bC_ BK313.out 2).trans rfl, (bC_ BK313.out 3).trans rfl, (bC_ BK313.out 4).trans rfl, (bC_ BK313.out 5).trans rfl, (bC_ BK313.out 6).trans rfl⟩ (fun hHeld => ?_)
    clear hK K
    refine norm_ (a' := ?_) ?_ ?_
    rotate_left
    ·show Act.put _ (some 25) _ = _
     simp only [Act.put, List.setIfInBounds_toArray, List.set_cons_zero, List.set_cons_succ, i64_w, i32_w]
     rfl
    refine one_ (i := 8) (N := some 28) #[true, true, true, true, true, true, true, true, true, false, false, false] rfl rfl (one_of HT_.out (by kernel_rfl)) (by decide) (fun K hK => ?_)
    refine goes_ Try.func19 (by kernel_rfl) rfl #[.agg #[.slice A0_0 l0_0.length c0_0, .slice A0_1 l0_1.length c0_1, .slice A0_2 l0_2.length c0_2, .slice A0_3 l0_3.length c0_3, .slice A0_4 l0_4.length c0_4], .agg #[.int .i64 a1_0, .int .i64 a1_1, .int .i64 a1_2, .int .i64 a1_3, .slice A1_4 l1_4.length c1_4, .string a1_5, .slice A1_6 l1_6.length c1_6]] (by rfl) rfl rfl (by (try simp only [List.map_toArray, List.map_cons, List.map_nil]); first | done | rfl | (simp only [List.length_drop, List.length_take]; rfl)) ?_
    with_reducible refine (fields_Fields.calls kj2 _ _ l0_0 _ _ l0_1 _ _ l0_2 _ _ l0_3 _ _ l0_4 a1_0 a1_1 a1_2 a1_3 _ _ l1_4 a1_5 _ _ l1_6 t323 _ ?side1 ?side2 ?side3 ?side4 ?side5 ?side6 ?side7 ?side8 ?side9 ?side10 ?side11 ?side12 ?side13 ?side14 A22.out).mono ?_
    (case side1 => repeat (first | exact (Kd.C_below HR0_0.out HB.out) | (with_reducible refine Kd.C_alloc ?_ _) | (with_reducible refine Kd.C_drewN ?_ _) | (with_reducible refine Kd.C_drew ?_)))
    (case side2 => exact HC0_0.out)
    (case side3 => repeat (first | exact (Kd.C_below HR0_1.out HB.out) | (with_reducible refine Kd.C_alloc ?_ _) | (with_reducible refine Kd.C_drewN ?_ _) | (with_reducible refine Kd.C_drew ?_)))
    (case side4 => exact HC0_1.out)
    (case side5 => repeat (first | exact (Kd.C_below HR0_2.out HB.out) | (with_reducible refine Kd.C_alloc ?_ _) | (with_reducible refine Kd.C_drewN ?_ _) | (with_reducible refine Kd.C_drew ?_)))
    (case side6 => exact HC0_2.out)
    (case side7 => repeat (first | exact (Kd.C_below HR0_3.out HB.out) | (with_reducible refine Kd.C_alloc ?_ _) | (with_reducible refine Kd.C_drewN ?_ _) | (with_reducible refine Kd.C_drew ?_)))
    (case side8 => exact HC0_3.out)
    (case side9 => repeat (first | exact (Kd.C_below HR0_4.out HB.out) | (with_reducible refine Kd.C_alloc ?_ _) | (with_reducible refine Kd.C_drewN ?_ _) | (with_reducible refine Kd.C_drew ?_)))
    (case side10 => exact HC0_4.out)
    (case side11 => repeat (first | exact (Kd.C_below HR1_4.out HB.out) | (with_reducible refine Kd.C_alloc ?_ _) | (with_reducible refine Kd.C_drewN ?_ _) | (with_reducible refine Kd.C_drew ?_)))
    (case side12 => exact HC1_4.out)
    (case side13 => repeat (first | exact (Kd.C_below HR1_6.out HB.out) | (with_reducible refine Kd.C_alloc ?_ _) | (with_reducible refine Kd.C_drewN ?_ _) | (with_reducible refine Kd.C_drew ?_)))
    (case side14 => exact HC1_6.out)
    rintro e w27 ⟨v324, rfl, ho0, hb⟩
    refine ⟨_, rfl, ?_⟩
    have n0_ := Az.mk (Kd.R_below (by (with_reducible repeat (first | apply Kd.R_alloc | apply Kd.R_drewN | apply Kd.R_drew)); exact HO319.out) hb)
    have n1_ := Az.mk (Kd.S_below (by (with_reducible repeat (first | apply Kd.S_alloc | apply Kd.S_drewN | apply Kd.S_drew)); exact HO322.out) hb)
    have n2_ := Az.mk (Kd.R_lower ho0 (bZ_ (by repeat (first | (with_reducible first | exact HB.out | apply bA_ | apply bN_ | apply bD_ | refine bS_ ?_ GE312.out | refine bS_ ?_ GE313.out) | exact HB.out))))
    have n3_ := Az.mk (kB_ (g := gb312) (o := .cells #[.slice A0_0 l0_0.length c0_0, .slice A0_1 l0_1.length c0_1, .slice A0_2 l0_2.length c0_2, .slice A0_3 l0_3.length c0_3, .slice A0_4 l0_4.length c0_4] 27 (0, 0)) (by (with_reducible repeat (first | refine kN_ ?_ _ | refine kD_ ?_ | refine kA_ ?_ _)); exact BK312.out) hb)
    have n4_ := Az.mk (kB_ (g := gb313) (o := .cells #[.int .i64 a1_0, .int .i64 a1_1, .int .i64 a1_2, .int .i64 a1_3, .slice A1_4 l1_4.length c1_4, .string a1_5, .slice A1_6 l1_6.length c1_6] 32 (0, 0)) (by (with_reducible repeat (first | refine kN_ ?_ _ | refine kD_ ?_ | refine kA_ ?_ _)); exact BK313.out) hb)
    have n5_ := Az.mk (bT_ (by repeat (first | (with_reducible first | exact HB.out | apply bA_ | apply bN_ | apply bD_ | refine bS_ ?_ GE312.out | refine bS_ ?_ GE313.out) | exact HB.out)) hb)
    clear HO319
    clear HO322
    clear BK312
    clear BK313
    clear HB
    have HO319 := n0_
    have HO322 := n1_
    have HO325 := n2_
    have BK312 := n3_
    have BK313 := n4_
    have HB := n5_
    clear n0_ n1_ n2_ n3_ n4_ n5_
    (try clear hb)
    (try clear hb2)
    (try clear hk)
    (try clear hi)
    (try clear ho0)
    refine hK.out _ _ ⟨(bC_ BK312.out 0).trans rfl, (bC_ BK312.out 1).trans rfl, (bC_ BK312.out 2).trans rfl, (bC_ BK312.out 3).trans rfl, (bC_ BK312.out 4).trans rfl, (bC_ BK313.out 0).trans rfl, (bC_ BK313.out 1).trans rfl, (bC_ BK313.out 2).trans rfl, (bC_ BK313.out 3).trans rfl, (bC_ BK313.out 4).trans rfl, (bC_ BK313.out 5).trans rfl, (bC_ BK313.out 6).trans rfl⟩ (fun hHeld => ?_)
    clear hK K
    refine norm_ (a' := ?_) ?_ ?_
    rotate_left
    ·show Act.put _ (some 28) _ = _
     simp only [Act.put, List.setIfInBounds_toArray, List.set_cons_zero, List.set_cons_succ, i64_w, i32_w]
     rfl
    refine pure_ (i := 9) (N := some 5) (v := ?_) (a' := ?_) #[true, true, true, true, true, true, true, true, true, true, false, false] rfl rfl (any_of HT_.out (by kernel_rfl)) (fun _ _ _ h => h) (Or.inl ⟨by rfl, ?_⟩) ?_ ?_
    rotate_left
    ·intro w'
     go_simp
     with_reducible rfl
    rotate_left
    ·simp only [Act.put, List.setIfInBounds_toArray, List.set_cons_zero, List.set_cons_succ, i64_w, i32_w]
     rfl
    refine pure_ (i := 10) (N := some 6) (v := ?_) (a' := ?_) #[true, true, true, true, true, true, true, true, true, true, true, false] rfl rfl (any_of HT_.out (by kernel_rfl)) (fun _ _ _ h => h) (Or.inl ⟨by rfl, ?_⟩) ?_ ?_
    rotate_left
    ·intro w'
     go_simp
     with_reducible rfl
    rotate_left
    ·simp only [Act.put, List.setIfInBounds_toArray, List.set_cons_zero, List.set_cons_succ, i64_w, i32_w]
     rfl
    refine pure_ (i := 11) (N := some 7) (v := ?_) (a' := ?_) #[true, true, true, true, true, true, true, true, true, true, true, true] rfl rfl (any_of HT_.out (by kernel_rfl)) (fun _ _ _ h => h) (Or.inl ⟨by rfl, ?_⟩) ?_ ?_
    rotate_left
    ·intro w'
     go_simp
     with_reducible rfl
    rotate_left
    ·simp only [Act.put, List.setIfInBounds_toArray, List.set_cons_zero, List.set_cons_succ, i64_w, i32_w]
     rfl
    refine done_ (done_of HT_.out (by kernel_rfl)) ?_
    go_upto_region 4 with (fail)
    go_cut [40] (fun v40 wc => ∃ (kq : Nat) (x40_22 : Bool), v40 = .bool x40_22 ∧ Az (arboristlaw46_FieldsAlong_.j1 kq t317 t320 x40_22 l0_0 l0_1 l0_2 l0_3 l0_4 a1_0 a1_1 a1_2 a1_3 l1_4 a1_5 l1_6 = some r) ∧ Az (kq ≤ kj2) ∧ Az (Kd.R k32 32 wc w.heap.size (fun k_ => k_ ≠ gb313) v318 t317) ∧ Az (Kd.S (Kd.slice 3 (Kd.int .i64)) 42 wc w.heap.size (fun _ => True) v321 t320) ∧ Az (wc.heap[gb312]? = some (.cells #[(.slice A0_0 l0_0.length c0_0), (.slice A0_1 l0_1.length c0_1), (.slice A0_2 l0_2.length c0_2), (.slice A0_3 l0_3.length c0_3), (.slice A0_4 l0_4.length c0_4)] 27 (0, 0))) ∧ Az (wc.heap[gb313]? = some (.cells #[.int .i64 a1_0, .int .i64 a1_1, .int .i64 a1_2, .int .i64 a1_3, (.slice A1_4 l1_4.length c1_4), .string a1_5, (.slice A1_6 l1_6.length c1_6)] 32 (0, 0))) ∧ Az (Below w.heap.size w wc))
    case first =>
     have H := HC23.out
     clear HC23
     by_cases c28 : (t317.length : Int) = (t320.length : Int)
     ·rw [if_pos c28] at H
      have c28b0 : ((t317.length : Int) == (t320.length : Int)) = true := beq_iff_eq.mpr c28
      have c28b1 : ((t317.length : Int) != (t320.length : Int)) = false := bne_eq_false_iff_eq.mpr c28
      have c28b2 : (t317.length == t320.length) = true := by first | simpa using c28 | (simp at c28 ⊢; omega)
      clear c28
      (first | rw [c28b0] | (simp only [i64_w, i32_w]; rw [c28b0]) | skip)
      have H' := Az.mk H
      clear H
      obtain ⟨Ao29, co29, eo29⟩ := Kd.R_slice HO319.out
      subst eo29
      obtain ⟨Ao30, co30, eo30⟩ := Kd.S_slice HO322.out
      subst eo30
      obtain ⟨Ao31, co31, eo31⟩ := Kd.R_slice HO325.out
      subst eo31
      go_wp2
      go_meet
      case rel => exact ⟨_, (((t317.length : Int) != (t323.length : Int))), (by first | rfl | (simp; done) | (simp [*]; done) | (refine congrArg Value.bool ?_; exact isE_ _)), H', ⟨by have := HJ2.out; first | omega | exact Nat.le_refl _⟩, ⟨by (with_reducible repeat (first | apply Kd.R_alloc | apply Kd.R_drewN | apply Kd.R_drew)); exact Kd.R_mono HO319.out (fun _ hk => hk.2)⟩, ⟨by (with_reducible repeat (first | apply Kd.S_alloc | apply Kd.S_drewN | apply Kd.S_drew)); exact HO322.out⟩, ⟨by (with_reducible repeat (first | refine kN_ ?_ _ | refine kD_ ?_ | refine kA_ ?_ _)); exact BK312.out⟩, ⟨by (with_reducible repeat (first | refine kN_ ?_ _ | refine kD_ ?_ | refine kA_ ?_ _)); exact BK313.out⟩, ⟨by repeat (first | (with_reducible first | exact HB.out | apply bA_ | apply bN_ | apply bD_ | refine bS_ ?_ GE312.out | refine bS_ ?_ GE313.out) | exact HB.out)⟩⟩
     ·rw [if_neg c28] at H
      have c28b0 : ((t317.length : Int) == (t320.length : Int)) = false := beq_eq_false_iff_ne.mpr c28
      have c28b1 : ((t317.length : Int) != (t320.length : Int)) = true := bne_iff_ne.mpr c28
      have c28b2 : (t317.length == t320.length) = false := by first | simpa using c28 | (simp at c28 ⊢; omega)
      (first | rw [c28b0] | (simp only [i64_w, i32_w]; rw [c28b0]) | skip)
      have H' := Az.mk H
      clear H
      obtain ⟨Ao32, co32, eo32⟩ := Kd.R_slice HO319.out
      subst eo32
      obtain ⟨Ao33, co33, eo33⟩ := Kd.S_slice HO322.out
      subst eo33
      go_wp2
      go_meet
      case rel => exact ⟨_, (true), (by first | rfl | (simp; done) | (simp [*]; done) | (refine congrArg Value.bool ?_; exact isE_ _)), H', ⟨by have := HJ2.out; first | omega | exact Nat.le_refl _⟩, ⟨by (with_reducible repeat (first | apply Kd.R_alloc | apply Kd.R_drewN | apply Kd.R_drew)); exact Kd.R_mono HO319.out (fun _ hk => hk.2)⟩, ⟨by (with_reducible repeat (first | apply Kd.S_alloc | apply Kd.S_drewN | apply Kd.S_drew)); exact HO322.out⟩, ⟨by (with_reducible repeat (first | refine kN_ ?_ _ | refine kD_ ?_ | refine kA_ ?_ _)); exact BK312.out⟩, ⟨by (with_reducible repeat (first | refine kN_ ?_ _ | refine kD_ ?_ | refine kA_ ?_ _)); exact BK313.out⟩, ⟨by repeat (first | (with_reducible first | exact HB.out | apply bA_ | apply bN_ | apply bD_ | refine bS_ ?_ GE312.out | refine bS_ ?_ GE313.out) | exact HB.out)⟩⟩
    case rest =>
     clear HC23
     try clear c1
     try clear c2
     try clear p2
     try clear c5
     try clear c7
     try clear c8
     try clear c9
     try clear c10
     try clear c11
     try clear c14
     try clear c16
     try clear c17
     try clear c19
     try clear c28
     try clear c28b0
     try clear c28b1
     try clear c28b2
     try clear hcz10_0
     try clear hcz10_1
     try clear hcz10_2
     try clear hcz10_3
     try clear hcz10_4
     try clear hcz12_0
     try clear hcz12_1
     try clear hcz12_2
     try clear hcz12_3
     try clear hcz12_4
     try clear hcz12_5
     try clear hcz12_6
     try clear hcz15_0
     try clear hcz15_1
     try clear hcz15_2
     try clear hcz15_3
     try clear hcz15_4
     try clear hfz10_0
     try clear hfz10_1
     try clear hfz10_2
     try clear hfz10_3
     try clear hfz10_4
     try clear hfz12_0
     try clear hfz12_1
     try clear hfz12_2
     try clear hfz12_3
     try clear hfz12_4
     try clear hfz12_5
     try clear hfz12_6
     try clear hfz15_0
     try clear hfz15_1
     try clear hfz15_2
     try clear hfz15_3
     try clear hfz15_4
     try clear p2
     obtain ⟨kq, x40_22, rfl, HA, HJ22, HO_5, HO_6, BK312, BK313, HB⟩ := hcut
     cases kq with
     | zero => exact absurd HA.out (by simp [arboristlaw46_FieldsAlong_.j1])
     | succ kj22 =>
      have H := HA.out
      clear HA
      simp only [arboristlaw46_FieldsAlong_.j1] at H
      by_cases c34 : x40_22 = true
      ·subst c34
       have H1 : (some false) = some r := by rw [if_pos rfl] at H; exact H
       clear H
       have H := H1
       clear H1
       exact absurd ((Option.some.inj H).trans HT.out) (by decide)
      ·replace c34 := Bool.eq_false_iff.mpr c34
       subst c34
       have H1 : (arboristlaw46_FieldsAlong_.l0 kj22 t317 t320 0 l0_0 l0_1 l0_2 l0_3 l0_4 a1_0 a1_1 a1_2 a1_3 l1_4 a1_5 l1_6) = some r := by rw [if_neg (show ¬ (false = true) by decide)] at H; exact H
       clear H
       have H := H1
       clear H1
       have H' := Az.mk H
       clear H
       go_wp2
       go_loopg [8] kj22 (fun kq v8 w' => ∃ (x8_3 : Int), v8 = .int .i64 x8_3 ∧ Az (arboristlaw46_FieldsAlong_.l0 kq t317 t320 x8_3 l0_0 l0_1 l0_2 l0_3 l0_4 a1_0 a1_1 a1_2 a1_3 l1_4 a1_5 l1_6 = some r) ∧ Az (kq ≤ kj22) ∧ Az (Kd.R k32 32 w' w.heap.size (fun k_ => k_ ≠ gb313) v318 t317) ∧ Az (Kd.S (Kd.slice 3 (Kd.int .i64)) 42 w' w.heap.size (fun _ => True) v321 t320) ∧ Az (w'.heap[gb312]? = some (.cells #[(.slice A0_0 l0_0.length c0_0), (.slice A0_1 l0_1.length c0_1), (.slice A0_2 l0_2.length c0_2), (.slice A0_3 l0_3.length c0_3), (.slice A0_4 l0_4.length c0_4)] 27 (0, 0))) ∧ Az (w'.heap[gb313]? = some (.cells #[.int .i64 a1_0, .int .i64 a1_1, .int .i64 a1_2, .int .i64 a1_3, (.slice A1_4 l1_4.length c1_4), .string a1_5, (.slice A1_6 l1_6.length c1_6)] 32 (0, 0))) ∧ Az (Below w.heap.size w w'))
       case atStart => exact ⟨(0), (by first | rfl | (simp; done) | (simp [*]; done) | (refine congrArg Value.bool ?_; exact isE_ _)), H', ⟨Nat.le_refl _⟩, ⟨by (with_reducible repeat (first | apply Kd.R_alloc | apply Kd.R_drewN | apply Kd.R_drew)); exact HO_5.out⟩, ⟨by (with_reducible repeat (first | apply Kd.S_alloc | apply Kd.S_drewN | apply Kd.S_drew)); exact HO_6.out⟩, ⟨by (with_reducible repeat (first | refine kN_ ?_ _ | refine kD_ ?_ | refine kA_ ?_ _)); exact BK312.out⟩, ⟨by (with_reducible repeat (first | refine kN_ ?_ _ | refine kD_ ?_ | refine kA_ ?_ _)); exact BK313.out⟩, ⟨by repeat (first | (with_reducible first | exact HB.out | apply bA_ | apply bN_ | apply bD_ | refine bS_ ?_ GE312.out | refine bS_ ?_ GE313.out) | exact HB.out)⟩⟩
       case round =>
        clear H'
        try clear c1
        try clear c2
        try clear p2
        try clear c3
        try clear c5
        try clear c7
        try clear c8
        try clear c9
        try clear c10
        try clear c11
        try clear c14
        try clear c16
        try clear c17
        try clear c19
        try clear c28
        try clear c28b0
        try clear c28b1
        try clear c28b2
        try clear c34
        try clear hcz10_0
        try clear hcz10_1
        try clear hcz10_2
        try clear hcz10_3
        try clear hcz10_4
        try clear hcz12_0
        try clear hcz12_1
        try clear hcz12_2
        try clear hcz12_3
        try clear hcz12_4
        try clear hcz12_5
        try clear hcz12_6
        try clear hcz15_0
        try clear hcz15_1
        try clear hcz15_2
        try clear hcz15_3
        try clear hcz15_4
        try clear hfz10_0
        try clear hfz10_1
        try clear hfz10_2
        try clear hfz10_3
        try clear hfz10_4
        try clear hfz12_0
        try clear hfz12_1
        try clear hfz12_2
        try clear hfz12_3
        try clear hfz12_4
        try clear hfz12_5
        try clear hfz12_6
        try clear hfz15_0
        try clear hfz15_1
        try clear hfz15_2
        try clear hfz15_3
        try clear hfz15_4
        try clear p2
        obtain ⟨x8_3, rfl, HA, HK3, HO_5, HO_6, BK312, BK313, HB⟩ := hrel
        cases gk with
        | zero => exact absurd HA.out (by simp [arboristlaw46_FieldsAlong_.l0])
        | succ k3 =>
         have H := HA.out
         clear HA
         simp only [arboristlaw46_FieldsAlong_.l0] at H
         by_cases c35 : x8_3 < (t320.length : Int)
         ·rw [if_pos c35] at H
          have c35b0 : decide (x8_3 < (t320.length : Int)) = true := decide_eq_true c35
          clear c35
          by_cases c36 : 0 ≤ x8_3
          ·rw [if_pos c36] at H
           have c36b0 : decide (0 ≤ x8_3) = true := decide_eq_true c36
           clear c36
           replace H := Option.bind_eq_some_iff.mp H
           obtain ⟨⟨t328, t329, t330, t331, t332, t335, t336, t339⟩, A370, H⟩ := H
           replace H : (if t339 = true then (if ((rd_L1 t320 x8_3).length : Int) = 0 then (some false) else (if x8_3 < (t317.length : Int) then ((arboristref46_Dissolves.f l0_0 l0_1 l0_2 l0_3 l0_4 ((rd_T32 t317 x8_3).f0) ((rd_T32 t317 x8_3).f1) ((rd_T32 t317 x8_3).f2) ((rd_T32 t317 x8_3).f3) ((rd_T32 t317 x8_3).f4) ((rd_T32 t317 x8_3).f5) ((rd_T32 t317 x8_3).f6)).bind fun t343 => (if t343 = true then (some false) else ((arboristref42_Same.f k3 t328 t329 t330 t331 t332 t335 t336 ((rd_T32 t317 x8_3).f0) ((rd_T32 t317 x8_3).f1) ((rd_T32 t317 x8_3).f2) ((rd_T32 t317 x8_3).f3) ((rd_T32 t317 x8_3).f4) ((rd_T32 t317 x8_3).f5) ((rd_T32 t317 x8_3).f6)).bind fun t345 => (if t345 = true then (arboristlaw46_FieldsAlong_.l0 k3 t317 t320 (wrap64 (x8_3 + 1)) l0_0 l0_1 l0_2 l0_3 l0_4 a1_0 a1_1 a1_2 a1_3 l1_4 a1_5 l1_6) else (some false))))) else (none))) else (some false)) = some r := H
           have A37 := Az.mk A370
           clear A370
           by_cases c38 : t339 = true
           ·subst c38
            have H1 : (if ((rd_L1 t320 x8_3).length : Int) = 0 then (some false) else (if x8_3 < (t317.length : Int) then ((arboristref46_Dissolves.f l0_0 l0_1 l0_2 l0_3 l0_4 ((rd_T32 t317 x8_3).f0) ((rd_T32 t317 x8_3).f1) ((rd_T32 t317 x8_3).f2) ((rd_T32 t317 x8_3).f3) ((rd_T32 t317 x8_3).f4) ((rd_T32 t317 x8_3).f5) ((rd_T32 t317 x8_3).f6)).bind fun t343 => (if t343 = true then (some false) else ((arboristref42_Same.f k3 t328 t329 t330 t331 t332 t335 t336 ((rd_T32 t317 x8_3).f0) ((rd_T32 t317 x8_3).f1) ((rd_T32 t317 x8_3).f2) ((rd_T32 t317 x8_3).f3) ((rd_T32 t317 x8_3).f4) ((rd_T32 t317 x8_3).f5) ((rd_T32 t317 x8_3).f6)).bind fun t345 => (if t345 = true then (arboristlaw46_FieldsAlong_.l0 k3 t317 t320 (wrap64 (x8_3 + 1)) l0_0 l0_1 l0_2 l0_3 l0_4 a1_0 a1_1 a1_2 a1_3 l1_4 a1_5 l1_6) else (some false))))) else (none))) = some r := by rw [if_pos rfl] at H; exact H
            clear H
            have H := H1
            clear H1
            by_cases c39 : ((rd_L1 t320 x8_3).length : Int) = 0
            ·rw [if_pos c39] at H
             have c39b0 : (((rd_L1 t320 x8_3).length : Int) == 0) = true := beq_iff_eq.mpr c39
             have c39b1 : (((rd_L1 t320 x8_3).length : Int) != 0) = false := bne_eq_false_iff_eq.mpr c39
             clear c39
             exact absurd ((Option.some.inj H).trans HT.out) (by decide)
            ·rw [if_neg c39] at H
             have c39b0 : (((rd_L1 t320 x8_3).length : Int) == 0) = false := beq_eq_false_iff_ne.mpr c39
             have c39b1 : (((rd_L1 t320 x8_3).length : Int) != 0) = true := bne_iff_ne.mpr c39
             have c39b2 : ¬ ((rd_L1 t320 x8_3) = []) := fun h_ => c39 (by rw [h_]; rfl)
             by_cases c40 : x8_3 < (t317.length : Int)
             ·rw [if_pos c40] at H
              have c40b0 : decide (x8_3 < (t317.length : Int)) = true := decide_eq_true c40
              clear c40
              replace H := Option.bind_eq_some_iff.mp H
              obtain ⟨t343, A410, H⟩ := H
              replace H : (if t343 = true then (some false) else ((arboristref42_Same.f k3 t328 t329 t330 t331 t332 t335 t336 ((rd_T32 t317 x8_3).f0) ((rd_T32 t317 x8_3).f1) ((rd_T32 t317 x8_3).f2) ((rd_T32 t317 x8_3).f3) ((rd_T32 t317 x8_3).f4) ((rd_T32 t317 x8_3).f5) ((rd_T32 t317 x8_3).f6)).bind fun t345 => (if t345 = true then (arboristlaw46_FieldsAlong_.l0 k3 t317 t320 (wrap64 (x8_3 + 1)) l0_0 l0_1 l0_2 l0_3 l0_4 a1_0 a1_1 a1_2 a1_3 l1_4 a1_5 l1_6) else (some false)))) = some r := H
              have A41 := Az.mk A410
              clear A410
              by_cases c42 : t343 = true
              ·subst c42
               have H1 : (some false) = some r := by rw [if_pos rfl] at H; exact H
               clear H
               have H := H1
               clear H1
               exact absurd ((Option.some.inj H).trans HT.out) (by decide)
              ·replace c42 := Bool.eq_false_iff.mpr c42
               subst c42
               have H1 : ((arboristref42_Same.f k3 t328 t329 t330 t331 t332 t335 t336 ((rd_T32 t317 x8_3).f0) ((rd_T32 t317 x8_3).f1) ((rd_T32 t317 x8_3).f2) ((rd_T32 t317 x8_3).f3) ((rd_T32 t317 x8_3).f4) ((rd_T32 t317 x8_3).f5) ((rd_T32 t317 x8_3).f6)).bind fun t345 => (if t345 = true then (arboristlaw46_FieldsAlong_.l0 k3 t317 t320 (wrap64 (x8_3 + 1)) l0_0 l0_1 l0_2 l0_3 l0_4 a1_0 a1_1 a1_2 a1_3 l1_4 a1_5 l1_6) else (some false))) = some r := by rw [if_neg (show ¬ (false = true) by decide)] at H; exact H
               clear H
               have H := H1
               clear H1
               replace H := Option.bind_eq_some_iff.mp H
               obtain ⟨t345, A430, H⟩ := H
               replace H : (if t345 = true then (arboristlaw46_FieldsAlong_.l0 k3 t317 t320 (wrap64 (x8_3 + 1)) l0_0 l0_1 l0_2 l0_3 l0_4 a1_0 a1_1 a1_2 a1_3 l1_4 a1_5 l1_6) else (some false)) = some r := H
               have A43 := Az.mk A430
               clear A430
               by_cases c44 : t345 = true
               ·subst c44
                have H1 : (arboristlaw46_FieldsAlong_.l0 k3 t317 t320 (wrap64 (x8_3 + 1)) l0_0 l0_1 l0_2 l0_3 l0_4 a1_0 a1_1 a1_2 a1_3 l1_4 a1_5 l1_6) = some r := by rw [if_pos rfl] at H; exact H
                clear H
                have H := H1
                clear H1
                have H' := Az.mk H
                clear H
                obtain ⟨Ao45, co45, eo45⟩ := Kd.S_slice HO_6.out
                subst eo45
                try go_wp2
                have n0_ := Az.mk (Kd.R_drew HO_5.out)
                have n1_ := Az.mk (Kd.S_drew HO_6.out)
                have n2_ := Az.mk (kD_ BK312.out)
                have n3_ := Az.mk (kD_ BK313.out)
                have n4_ := Az.mk (bD_ HB.out)
                clear HO_5
                clear HO_6
                clear BK312
                clear BK313
                clear HB
                have HO_5 := n0_
                have HO_6 := n1_
                have BK312 := n2_
                have BK313 := n3_
                have HB := n4_
                clear n0_ n1_ n2_ n3_ n4_
                have p327 : 0 ≤ (x8_3 : Int) := of_decide_eq_true (by first | (with_reducible assumption) | assumption)
                have q327 : x8_3 < (t320.length : Int) := of_decide_eq_true (by first | (with_reducible assumption) | assumption)
                obtain ⟨ad327, A327_0, c327_0, e327, hx327_0, hl327_0, hi327_0⟩ := at_L1 (Kd.S_reads' HO_6.out).2.2 x8_3 p327 q327
                cases e327
                obtain ⟨ce327, hce327, hMe327, hcc327⟩ := Kd.S_get HO_6.out [] x8_3 p327 (by first | exact q327 | exact of_decide_eq_true (by first | (with_reducible assumption) | assumption) | (have e_ := (Kd.S_reads' HO_6.out).1; omega))
                obtain ⟨ve327_0, rfl, ge327_0⟩ := hMe327
                have hv327_0 := hcc327 0 _ rfl
                rw [Nat.add_zero, show ((Kd.slice 3 (Kd.int .i64))).sz = 1 from rfl, Nat.mul_one] at hv327_0
                replace hv327_0 := Option.some.inj (hv327_0.symm.trans hx327_0)
                rw [hv327_0] at ge327_0
                have HL327_0 := Az.mk (show Kd.R (Kd.int .i64) 3 _ _ _ _ (rd_L1 t320 x8_3) from ge327_0)
                clear hv327_0 ge327_0
                clear hcc327 hce327
                have HR327_0 := Az.mk hi327_0
                have HC327_0 := Az.mk hl327_0
                clear hi327_0 hl327_0
                replace p327 := eq_true p327
                replace q327 := eq_true q327
                refine start_ (n := 12) (S := fun w' => w'.cell? ⟨gb313, 0, none⟩ = some (.int .i64 a1_0) ∧ w'.cell? ⟨gb313, 1, none⟩ = some (.int .i64 a1_1) ∧ w'.cell? ⟨gb313, 2, none⟩ = some (.int .i64 a1_2) ∧ w'.cell? ⟨gb313, 3, none⟩ = some (.int .i64 a1_3) ∧ w'.cell? ⟨gb313, 4, none⟩ = some (.slice A1_4 l1_4.length c1_4) ∧ w'.cell? ⟨gb313, 5, none⟩ = some (.string a1_5) ∧ w'.cell? ⟨gb313, 6, none⟩ = some (.slice A1_6 l1_6.length c1_6) ∧ w'.cell? (ad327.add (x8_3).toNat) = some (.slice A327_0 (rd_L1 t320 x8_3).length c327_0)) (ds := []) #[false, false, false, false, false, false, false, false, false, false, false, false] (by kernel_rfl) rfl rfl ⟨(bC_ BK313.out 0).trans rfl, (bC_ BK313.out 1).trans rfl, (bC_ BK313.out 2).trans rfl, (bC_ BK313.out 3).trans rfl, (bC_ BK313.out 4).trans rfl, (bC_ BK313.out 5).trans rfl, (bC_ BK313.out 6).trans rfl, hx327_0⟩ (fun hHeld => ?_); refine with_tabW arboristlaw46_FieldsAlong_.tab9 arboristlaw46_FieldsAlong_.bits9 (fun HT_ HW_ => ?_)
                generalize wr.drew = w46 at HO_5 HO_6 BK312 BK313 HB HL327_0 HR327_0 hx327_0 hHeld ⊢
                refine pure_ (i := 1) (N := some 49) (v := ?_) (a' := ?_) #[false, true, false, false, false, false, false, false, false, false, false, false] rfl rfl (any_of HT_.out (by kernel_rfl)) (fun _ _ _ h => h) (Or.inl ⟨by rfl, ?_⟩) ?_ ?_
                rotate_left
                ·intro w'
                 go_simp
                 with_reducible rfl
                rotate_left
                ·simp only [Act.put, List.setIfInBounds_toArray, List.set_cons_zero, List.set_cons_succ, i64_w, i32_w]
                 rfl
                refine pure_ (i := 2) (N := some 50) (v := ?_) (a' := ?_) #[false, true, true, false, false, false, false, false, false, false, false, false] rfl rfl (any_of HT_.out (by kernel_rfl)) (fun _ _ _ h => h) (Or.inl ⟨by rfl, ?_⟩) ?_ ?_
                rotate_left
                ·intro w'
                 go_simp
                 with_reducible rfl
                rotate_left
                ·simp only [Act.put, List.setIfInBounds_toArray, List.set_cons_zero, List.set_cons_succ, i64_w, i32_w]
                 rfl
                refine pure_ (i := 3) (N := some 51) (v := ?_) (a' := ?_) #[false, true, true, true, false, false, false, false, false, false, false, false] rfl rfl (any_of HT_.out (by kernel_rfl)) (fun _ _ _ h => h) (Or.inl ⟨by rfl, ?_⟩) ?_ ?_
                rotate_left
                ·intro w'
                 go_simp
                 with_reducible rfl
                rotate_left
                ·simp only [Act.put, List.setIfInBounds_toArray, List.set_cons_zero, List.set_cons_succ, i64_w, i32_w]
                 rfl
                refine take_ (i := 0) (N := some 48) (v := ?_) (a' := ?_) #[true, true, true, true, false, false, false, false, false, false, false, false] rfl rfl (take_ofW HT_.out HW_.out (by kernel_rfl)) (fun _ _ _ h => h) (Or.inl ⟨by rfl, ?_⟩) hHeld ?_ ?_
                rotate_left
                ·rintro w' ⟨s0, s1, s2, s3, s4, s5, s6, s7⟩
                 go_simp
                 with_reducible rfl
                rotate_left
                ·simp only [Act.put, List.setIfInBounds_toArray, List.set_cons_zero, List.set_cons_succ, i64_w, i32_w]
                 rfl
                refine take_ (i := 4) (N := some 52) (v := ?_) (a' := ?_) #[true, true, true, true, true, false, false, false, false, false, false, false] rfl rfl (take_ofW HT_.out HW_.out (by kernel_rfl)) (fun _ _ _ h => h) (Or.inl ⟨by rfl, ?_⟩) hHeld ?_ ?_
                rotate_left
                ·rintro w' ⟨s0, s1, s2, s3, s4, s5, s6, s7⟩
                 go_simp
                 with_reducible rfl
                rotate_left
                ·simp only [Act.put, List.setIfInBounds_toArray, List.set_cons_zero, List.set_cons_succ, i64_w, i32_w]
                 rfl
                refine join_ (σ := Value × Value × Nat) 2 #[true, true, true, true, true, true, true, true, true, true, false, false] (fun s_ => [(53, .tuple #[.agg #[.int .i64 t328, .int .i64 t329, .int .i64 t330, .int .i64 t331, s_.1, .string t335, s_.2.1], .bool true]), (9, .pointer (some ⟨s_.2.2, 0, none⟩)), (47, .tuple #[.agg #[.int .i64 t328, .int .i64 t329, .int .i64 t330, .int .i64 t331, s_.1, .string t335, s_.2.1], .bool true]), (54, .agg #[.int .i64 t328, .int .i64 t329, .int .i64 t330, .int .i64 t331, s_.1, .string t335, s_.2.1]), (55, .bool true)]) (fun s_ w' => (w'.cell? ⟨gb313, 0, none⟩ = some (.int .i64 a1_0) ∧ w'.cell? ⟨gb313, 1, none⟩ = some (.int .i64 a1_1) ∧ w'.cell? ⟨gb313, 2, none⟩ = some (.int .i64 a1_2) ∧ w'.cell? ⟨gb313, 3, none⟩ = some (.int .i64 a1_3) ∧ w'.cell? ⟨gb313, 4, none⟩ = some (.slice A1_4 l1_4.length c1_4) ∧ w'.cell? ⟨gb313, 5, none⟩ = some (.string a1_5) ∧ w'.cell? ⟨gb313, 6, none⟩ = some (.slice A1_6 l1_6.length c1_6) ∧ w'.cell? (ad327.add (x8_3).toNat) = some (.slice A327_0 (rd_L1 t320 x8_3).length c327_0)) ∧ (Kd.R (Kd.int .i64) 3 w' w.heap.size (fun k_ => some k_ ≠ (.slice (some ad327) t320.length co45 : Value).ownBlock) (.slice A327_0 (rd_L1 t320 x8_3).length c327_0) (rd_L1 t320 x8_3)) ∧ (Kd.V k53 53 w' w.heap.size (fun k_ => some k_ ≠ (v318 : Value).ownBlock ∧ some k_ ≠ (.slice (some ad327) t320.length co45 : Value).ownBlock ∧ k_ ≠ gb312 ∧ k_ ≠ gb313 ∧ k_ ≠ s_.2.2) s_.1 t332) ∧ (Kd.V k32 32 w' w.heap.size (fun k_ => some k_ ≠ (v318 : Value).ownBlock ∧ some k_ ≠ (.slice (some ad327) t320.length co45 : Value).ownBlock ∧ k_ ≠ gb312 ∧ k_ ≠ gb313 ∧ k_ ≠ s_.2.2) s_.2.1 t336) ∧ (Kd.R k32 32 w' w.heap.size (fun k_ => k_ ≠ gb313 ∧ k_ ≠ s_.2.2) v318 t317) ∧ (Kd.S (Kd.slice 3 (Kd.int .i64)) 42 w' w.heap.size (fun _ => True) (.slice (some ad327) t320.length co45) t320) ∧ (w'.heap[gb312]? = some (.cells #[.slice A0_0 l0_0.length c0_0, .slice A0_1 l0_1.length c0_1, .slice A0_2 l0_2.length c0_2, .slice A0_3 l0_3.length c0_3, .slice A0_4 l0_4.length c0_4] 27 (0, 0))) ∧ (w'.heap[gb313]? = some (.cells #[.int .i64 a1_0, .int .i64 a1_1, .int .i64 a1_2, .int .i64 a1_3, .slice A1_4 l1_4.length c1_4, .string a1_5, .slice A1_6 l1_6.length c1_6] 32 (0, 0))) ∧ (w'.heap[s_.2.2]? = some (.cells #[.int .i64 0, .int .i64 0, .int .i64 0, .int .i64 0, .slice none 0 0, .string (⟨#[]⟩ : ByteArray), .slice none 0 0] 32 (0, 0))) ∧ (w.heap.size ≤ s_.2.2) ∧ (w.heap.size ≤ s_.2.2) ∧ (gb312 ≠ s_.2.2) ∧ (s_.2.2 ≠ gb312) ∧ (gb313 ≠ s_.2.2) ∧ (s_.2.2 ≠ gb313) ∧ (Below w.heap.size w w')) ?_ ?_
                rotate_left
                ·intro hCont
                 refine two_ (i := 5) (j := 9) (Ni := some 53) (Nj := some 9) #[true, true, true, true, true, true, false, false, false, false, false, false] #[true, true, true, true, true, false, false, false, false, true, false, false] rfl rfl rfl rfl (two_of HT_.out (by kernel_rfl)) (by decide) (by decide) (fun K hK => ?_) (fun K hK => ?_)
                 ·skip
                  refine goes_ Try.func23 (by kernel_rfl) rfl #[.agg #[.int .i64 a1_0, .int .i64 a1_1, .int .i64 a1_2, .int .i64 a1_3, .slice A1_4 l1_4.length c1_4, .string a1_5, .slice A1_6 l1_6.length c1_6], .slice A327_0 (rd_L1 t320 x8_3).length c327_0] (by rfl) rfl rfl (by (try simp only [List.map_toArray, List.map_cons, List.map_nil]); first | done | rfl | (simp only [List.length_drop, List.length_take]; rfl)) ?_
                  with_reducible refine (arboristlaw46_get.calls k3 a1_0 a1_1 a1_2 a1_3 (fun k_ => k_ < w.heap.size) _ _ l1_4 a1_5 (fun k_ => k_ < w.heap.size) _ _ l1_6 _ _ (rd_L1 t320 x8_3) t328 t329 t330 t331 t332 t335 t336 true _ ?side1 ?side2 ?side3 ?side4 A37.out).mono ?_
                  (case side1 => exact Kd.V_mk HC1_4.out (Kd.F_below (Kd.C_F k53_heap HR1_4.out) (by repeat (first | (with_reducible first | exact HB.out | apply bA_ | apply bN_ | apply bD_ | refine bS_ ?_ GE312.out | refine bS_ ?_ GE313.out) | exact HB.out))))
                  (case side2 => exact Kd.V_mk HC1_6.out (Kd.F_below (Kd.C_F k32_heap HR1_6.out) (by repeat (first | (with_reducible first | exact HB.out | apply bA_ | apply bN_ | apply bD_ | refine bS_ ?_ GE312.out | refine bS_ ?_ GE313.out) | exact HB.out))))
                  (case side3 => repeat (first | exact (by repeat (first | (with_reducible exact HR327_0.out) | (with_reducible refine Kd.C_alloc ?_ _) | (with_reducible refine Kd.C_drewN ?_ _) | (with_reducible refine Kd.C_drew ?_) | exact HR327_0.out)) | (with_reducible refine Kd.C_alloc ?_ _) | (with_reducible refine Kd.C_drewN ?_ _) | (with_reducible refine Kd.C_drew ?_)))
                  (case side4 => exact HC327_0.out)
                  rintro e w47 ⟨v333, v337, rfl, ho0, ho1, hb⟩
                  have HS7_ := (hb.cell (World.block_lt_of_cell? _ _ (hHeld.2.2.2.2.2.2.2))).trans (hHeld.2.2.2.2.2.2.2)
                  refine ⟨_, rfl, ?_⟩
                  have n0_ := Az.mk (Kd.R_below (by (with_reducible repeat (first | apply Kd.R_alloc | apply Kd.R_drewN | apply Kd.R_drew)); exact HO_5.out) hb)
                  have n1_ := Az.mk (Kd.S_below (by (with_reducible repeat (first | apply Kd.S_alloc | apply Kd.S_drewN | apply Kd.S_drew)); exact HO_6.out) hb)
                  have n2_ := Az.mk (Kd.R_below (by (with_reducible repeat (first | apply Kd.R_alloc | apply Kd.R_drewN | apply Kd.R_drew)); exact HL327_0.out) hb)
                  have n3_ := Az.mk (Kd.V_lower (Kd.V_mono (ok' := fun k_ => some k_ ≠ (v318 : Value).ownBlock ∧ some k_ ≠ (.slice (some ad327) t320.length co45 : Value).ownBlock ∧ k_ ≠ gb312 ∧ k_ ≠ gb313) ho0 (fun k_ hk_ => ⟨Or.elim hk_ (fun hs_ => Or.elim hs_ (fun hs_ => fun e_ => Nat.not_le.2 hs_ (Kd.R_base HO_5.out k_ e_.symm)) (fun hs_ => fun e_ => Nat.not_le.2 hs_ (Kd.R_base HO_5.out k_ e_.symm))) (fun hn_ => (Kd.fresh' (Kd.R_lt (by (with_reducible repeat (first | apply Kd.R_alloc | apply Kd.R_drewN | apply Kd.R_drew)); exact HO_5.out)) k_ hn_)), Or.elim hk_ (fun hs_ => Or.elim hs_ (fun hs_ => fun e_ => Nat.not_le.2 hs_ (Kd.S_base HO_6.out k_ e_.symm)) (fun hs_ => fun e_ => Nat.not_le.2 hs_ (Kd.S_base HO_6.out k_ e_.symm))) (fun hn_ => (Kd.fresh' (Kd.S_lt (by (with_reducible repeat (first | apply Kd.S_alloc | apply Kd.S_drewN | apply Kd.S_drew)); exact HO_6.out)) k_ hn_)), Or.elim hk_ (fun hs_ => Or.elim hs_ (fun hs_ => fun e_ => Nat.not_le.2 hs_ (by rw [e_]; exact GW312.out)) (fun hs_ => fun e_ => Nat.not_le.2 hs_ (by rw [e_]; exact GW312.out))) (fun hn_ => (Kd.freshB (g := gb312) (o := .cells #[.slice A0_0 l0_0.length c0_0, .slice A0_1 l0_1.length c0_1, .slice A0_2 l0_2.length c0_2, .slice A0_3 l0_3.length c0_3, .slice A0_4 l0_4.length c0_4] 27 (0, 0)) (by (with_reducible repeat (first | refine kN_ ?_ _ | refine kD_ ?_ | refine kA_ ?_ _)); exact BK312.out) k_ hn_)), Or.elim hk_ (fun hs_ => Or.elim hs_ (fun hs_ => fun e_ => Nat.not_le.2 hs_ (by rw [e_]; exact GW313.out)) (fun hs_ => fun e_ => Nat.not_le.2 hs_ (by rw [e_]; exact GW313.out))) (fun hn_ => (Kd.freshB (g := gb313) (o := .cells #[.int .i64 a1_0, .int .i64 a1_1, .int .i64 a1_2, .int .i64 a1_3, .slice A1_4 l1_4.length c1_4, .string a1_5, .slice A1_6 l1_6.length c1_6] 32 (0, 0)) (by (with_reducible repeat (first | refine kN_ ?_ _ | refine kD_ ?_ | refine kA_ ?_ _)); exact BK313.out) k_ hn_))⟩)) (bZ_ (by repeat (first | (with_reducible first | exact HB.out | apply bA_ | apply bN_ | apply bD_ | refine bS_ ?_ GE312.out | refine bS_ ?_ GE313.out) | exact HB.out))))
                  have n4_ := Az.mk (Kd.V_lower (Kd.V_mono (ok' := fun k_ => some k_ ≠ (v318 : Value).ownBlock ∧ some k_ ≠ (.slice (some ad327) t320.length co45 : Value).ownBlock ∧ k_ ≠ gb312 ∧ k_ ≠ gb313) ho1 (fun k_ hk_ => ⟨Or.elim hk_ (fun hs_ => Or.elim hs_ (fun hs_ => fun e_ => Nat.not_le.2 hs_ (Kd.R_base HO_5.out k_ e_.symm)) (fun hs_ => fun e_ => Nat.not_le.2 hs_ (Kd.R_base HO_5.out k_ e_.symm))) (fun hn_ => (Kd.fresh' (Kd.R_lt (by (with_reducible repeat (first | apply Kd.R_alloc | apply Kd.R_drewN | apply Kd.R_drew)); exact HO_5.out)) k_ hn_)), Or.elim hk_ (fun hs_ => Or.elim hs_ (fun hs_ => fun e_ => Nat.not_le.2 hs_ (Kd.S_base HO_6.out k_ e_.symm)) (fun hs_ => fun e_ => Nat.not_le.2 hs_ (Kd.S_base HO_6.out k_ e_.symm))) (fun hn_ => (Kd.fresh' (Kd.S_lt (by (with_reducible repeat (first | apply Kd.S_alloc | apply Kd.S_drewN | apply Kd.S_drew)); exact HO_6.out)) k_ hn_)), Or.elim hk_ (fun hs_ => Or.elim hs_ (fun hs_ => fun e_ => Nat.not_le.2 hs_ (by rw [e_]; exact GW312.out)) (fun hs_ => fun e_ => Nat.not_le.2 hs_ (by rw [e_]; exact GW312.out))) (fun hn_ => (Kd.freshB (g := gb312) (o := .cells #[.slice A0_0 l0_0.length c0_0, .slice A0_1 l0_1.length c0_1, .slice A0_2 l0_2.length c0_2, .slice A0_3 l0_3.length c0_3, .slice A0_4 l0_4.length c0_4] 27 (0, 0)) (by (with_reducible repeat (first | refine kN_ ?_ _ | refine kD_ ?_ | refine kA_ ?_ _)); exact BK312.out) k_ hn_)), Or.elim hk_ (fun hs_ => Or.elim hs_ (fun hs_ => fun e_ => Nat.not_le.2 hs_ (by rw [e_]; exact GW313.out)) (fun hs_ => fun e_ => Nat.not_le.2 hs_ (by rw [e_]; exact GW313.out))) (fun hn_ => (Kd.freshB (g := gb313) (o := .cells #[.int .i64 a1_0, .int .i64 a1_1, .int .i64 a1_2, .int .i64 a1_3, .slice A1_4 l1_4.length c1_4, .string a1_5, .slice A1_6 l1_6.length c1_6] 32 (0, 0)) (by (with_reducible repeat (first | refine kN_ ?_ _ | refine kD_ ?_ | refine kA_ ?_ _)); exact BK313.out) k_ hn_))⟩)) (bZ_ (by repeat (first | (with_reducible first | exact HB.out | apply bA_ | apply bN_ | apply bD_ | refine bS_ ?_ GE312.out | refine bS_ ?_ GE313.out) | exact HB.out))))
                  have n5_ := Az.mk (kB_ (g := gb312) (o := .cells #[.slice A0_0 l0_0.length c0_0, .slice A0_1 l0_1.length c0_1, .slice A0_2 l0_2.length c0_2, .slice A0_3 l0_3.length c0_3, .slice A0_4 l0_4.length c0_4] 27 (0, 0)) (by (with_reducible repeat (first | refine kN_ ?_ _ | refine kD_ ?_ | refine kA_ ?_ _)); exact BK312.out) hb)
                  have n6_ := Az.mk (kB_ (g := gb313) (o := .cells #[.int .i64 a1_0, .int .i64 a1_1, .int .i64 a1_2, .int .i64 a1_3, .slice A1_4 l1_4.length c1_4, .string a1_5, .slice A1_6 l1_6.length c1_6] 32 (0, 0)) (by (with_reducible repeat (first | refine kN_ ?_ _ | refine kD_ ?_ | refine kA_ ?_ _)); exact BK313.out) hb)
                  have n7_ := Az.mk (Kd.C_below (by repeat (first | (with_reducible exact HR327_0.out) | (with_reducible refine Kd.C_alloc ?_ _) | (with_reducible refine Kd.C_drewN ?_ _) | (with_reducible refine Kd.C_drew ?_) | exact HR327_0.out)) hb)
                  have n8_ := Az.mk (bT_ (by repeat (first | (with_reducible first | exact HB.out | apply bA_ | apply bN_ | apply bD_ | refine bS_ ?_ GE312.out | refine bS_ ?_ GE313.out) | exact HB.out)) hb)
                  clear HO_5
                  clear HO_6
                  clear HL327_0
                  clear BK312
                  clear BK313
                  clear HR327_0
                  clear HB
                  have HO_5 := n0_
                  have HO_6 := n1_
                  have HL327_0 := n2_
                  have HO334 := n3_
                  have HO338 := n4_
                  have BK312 := n5_
                  have BK313 := n6_
                  have HR327_0 := n7_
                  have HB := n8_
                  clear n0_ n1_ n2_ n3_ n4_ n5_ n6_ n7_ n8_
                  (try clear hb)
                  (try clear hb2)
                  (try clear hk)
                  (try clear hi)
                  (try clear ho0)
                  (try clear ho1)
                  refine hK.out _ _ ⟨(bC_ BK313.out 0).trans rfl, (bC_ BK313.out 1).trans rfl, (bC_ BK313.out 2).trans rfl, (bC_ BK313.out 3).trans rfl, (bC_ BK313.out 4).trans rfl, (bC_ BK313.out 5).trans rfl, (bC_ BK313.out 6).trans rfl, HS7_⟩ (fun hHeld => ?_)
                  clear hK K
                  refine norm_ (a' := ?_) ?_ ?_
                  rotate_left
                  ·show Act.put _ (some 53) _ = _
                   simp only [Act.put, List.setIfInBounds_toArray, List.set_cons_zero, List.set_cons_succ, i64_w, i32_w]
                   rfl
                  refine pure_ (i := 6) (N := some 47) (v := ?_) (a' := ?_) #[true, true, true, true, true, true, true, false, false, false, false, false] rfl rfl (any_of HT_.out (by kernel_rfl)) (fun _ _ _ h => h) (Or.inl ⟨by rfl, ?_⟩) ?_ ?_
                  rotate_left
                  ·intro w'
                   go_simp
                   with_reducible rfl
                  rotate_left
                  ·simp only [Act.put, List.setIfInBounds_toArray, List.set_cons_zero, List.set_cons_succ, i64_w, i32_w]
                   rfl
                  refine pure_ (i := 7) (N := some 54) (v := ?_) (a' := ?_) #[true, true, true, true, true, true, true, true, false, false, false, false] rfl rfl (any_of HT_.out (by kernel_rfl)) (fun _ _ _ h => h) (Or.inl ⟨by rfl, ?_⟩) ?_ ?_
                  rotate_left
                  ·intro w'
                   go_simp
                   with_reducible rfl
                  rotate_left
                  ·simp only [Act.put, List.setIfInBounds_toArray, List.set_cons_zero, List.set_cons_succ, i64_w, i32_w]
                   rfl
                  refine pure_ (i := 8) (N := some 55) (v := ?_) (a' := ?_) #[true, true, true, true, true, true, true, true, true, false, false, false] rfl rfl (any_of HT_.out (by kernel_rfl)) (fun _ _ _ h => h) (Or.inl ⟨by rfl, ?_⟩) ?_ ?_
                  rotate_left
                  ·intro w'
                   go_simp
                   with_reducible rfl
                  rotate_left
                  ·simp only [Act.put, List.setIfInBounds_toArray, List.set_cons_zero, List.set_cons_succ, i64_w, i32_w]
                   rfl
                  refine one_ (i := 9) (N := some 9) #[true, true, true, true, true, true, true, true, true, true, false, false] rfl rfl (one_of HT_.out (by kernel_rfl)) (by decide) (fun K hK => ?_)
                  refine box_step ?hg (N := 9) ?hd (cs := #[.int .i64 0, .int .i64 0, .int .i64 0, .int .i64 0, .slice none 0 0, .string (⟨#[]⟩ : ByteArray), .slice none 0 0]) (t := 32) ?hr ?_; (case hd => rfl); (case hg => rfl); (case hr => first | (go_simp; done) | (go_simp; rfl))
                  intro gb340 hg w48 hbox hb
                  have HS7_ := (hb.cell (World.block_lt_of_cell? _ _ (hHeld.2.2.2.2.2.2.2))).trans (hHeld.2.2.2.2.2.2.2)
                  have n0_ := Az.mk (Kd.R_below (Kd.R_elderB (by (with_reducible repeat (first | apply Kd.R_alloc | apply Kd.R_drewN | apply Kd.R_drew)); exact HO_5.out) gb340 (Nat.le_of_eq hg.symm)) hb)
                  have n1_ := Az.mk (Kd.S_below (by (with_reducible repeat (first | apply Kd.S_alloc | apply Kd.S_drewN | apply Kd.S_drew)); exact HO_6.out) hb)
                  have n2_ := Az.mk (Kd.R_below (by (with_reducible repeat (first | apply Kd.R_alloc | apply Kd.R_drewN | apply Kd.R_drew)); exact HL327_0.out) hb)
                  have n3_ := Az.mk (Kd.V_below (Kd.V_elderB (by (with_reducible repeat (first | apply Kd.V_alloc | apply Kd.V_drewN | apply Kd.V_drew)); exact HO334.out) gb340 (Nat.le_of_eq hg.symm)) hb)
                  have n4_ := Az.mk (Kd.V_below (Kd.V_elderB (by (with_reducible repeat (first | apply Kd.V_alloc | apply Kd.V_drewN | apply Kd.V_drew)); exact HO338.out) gb340 (Nat.le_of_eq hg.symm)) hb)
                  have n5_ := Az.mk (kB_ (g := gb312) (o := .cells #[.slice A0_0 l0_0.length c0_0, .slice A0_1 l0_1.length c0_1, .slice A0_2 l0_2.length c0_2, .slice A0_3 l0_3.length c0_3, .slice A0_4 l0_4.length c0_4] 27 (0, 0)) (by (with_reducible repeat (first | refine kN_ ?_ _ | refine kD_ ?_ | refine kA_ ?_ _)); exact BK312.out) hb)
                  have n6_ := Az.mk (kB_ (g := gb313) (o := .cells #[.int .i64 a1_0, .int .i64 a1_1, .int .i64 a1_2, .int .i64 a1_3, .slice A1_4 l1_4.length c1_4, .string a1_5, .slice A1_6 l1_6.length c1_6] 32 (0, 0)) (by (with_reducible repeat (first | refine kN_ ?_ _ | refine kD_ ?_ | refine kA_ ?_ _)); exact BK313.out) hb)
                  have n7_ := Az.mk (Kd.C_below (by repeat (first | (with_reducible exact HR327_0.out) | (with_reducible refine Kd.C_alloc ?_ _) | (with_reducible refine Kd.C_drewN ?_ _) | (with_reducible refine Kd.C_drew ?_) | exact HR327_0.out)) hb)
                  have n8_ := Az.mk (bT_ (by repeat (first | (with_reducible first | exact HB.out | apply bA_ | apply bN_ | apply bD_ | refine bS_ ?_ GE312.out | refine bS_ ?_ GE313.out) | exact HB.out)) hb)
                  have n9_ := Az.mk (hbox)
                  have n10_ := Az.mk ((by rw [hg]; exact (bZ_ (by repeat (first | (with_reducible first | exact HB.out | apply bA_ | apply bN_ | apply bD_ | refine bS_ ?_ GE312.out | refine bS_ ?_ GE313.out) | exact HB.out))) : w.heap.size ≤ gb340))
                  have n11_ := Az.mk ((by rw [hg]; exact (bZ_ (by repeat (first | (with_reducible first | exact HB.out | apply bA_ | apply bN_ | apply bD_ | refine bS_ ?_ GE312.out | refine bS_ ?_ GE313.out) | exact HB.out))) : w.heap.size ≤ gb340))
                  have n12_ := Az.mk ((by rw [hg]; exact Nat.ne_of_lt (blk_lt (g := gb312) (o := .cells #[.slice A0_0 l0_0.length c0_0, .slice A0_1 l0_1.length c0_1, .slice A0_2 l0_2.length c0_2, .slice A0_3 l0_3.length c0_3, .slice A0_4 l0_4.length c0_4] 27 (0, 0)) (by (with_reducible repeat (first | refine kN_ ?_ _ | refine kD_ ?_ | refine kA_ ?_ _)); exact BK312.out)) : gb312 ≠ gb340))
                  have n13_ := Az.mk ((by rw [hg]; exact Nat.ne_of_gt (blk_lt (g := gb312) (o := .cells #[.slice A0_0 l0_0.length c0_0, .slice A0_1 l0_1.length c0_1, .slice A0_2 l0_2.length c0_2, .slice A0_3 l0_3.length c0_3, .slice A0_4 l0_4.length c0_4] 27 (0, 0)) (by (with_reducible repeat (first | refine kN_ ?_ _ | refine kD_ ?_ | refine kA_ ?_ _)); exact BK312.out)) : gb340 ≠ gb312))
                  have n14_ := Az.mk ((by rw [hg]; exact Nat.ne_of_lt (blk_lt (g := gb313) (o := .cells #[.int .i64 a1_0, .int .i64 a1_1, .int .i64 a1_2, .int .i64 a1_3, .slice A1_4 l1_4.length c1_4, .string a1_5, .slice A1_6 l1_6.length c1_6] 32 (0, 0)) (by (with_reducible repeat (first | refine kN_ ?_ _ | refine kD_ ?_ | refine kA_ ?_ _)); exact BK313.out)) : gb313 ≠ gb340))
                  have n15_ := Az.mk ((by rw [hg]; exact Nat.ne_of_gt (blk_lt (g := gb313) (o := .cells #[.int .i64 a1_0, .int .i64 a1_1, .int .i64 a1_2, .int .i64 a1_3, .slice A1_4 l1_4.length c1_4, .string a1_5, .slice A1_6 l1_6.length c1_6] 32 (0, 0)) (by (with_reducible repeat (first | refine kN_ ?_ _ | refine kD_ ?_ | refine kA_ ?_ _)); exact BK313.out)) : gb340 ≠ gb313))
                  clear HO_5
                  clear HO_6
                  clear HL327_0
                  clear HO334
                  clear HO338
                  clear BK312
                  clear BK313
                  clear HR327_0
                  clear HB
                  have HO_5 := n0_
                  have HO_6 := n1_
                  have HL327_0 := n2_
                  have HO334 := n3_
                  have HO338 := n4_
                  have BK312 := n5_
                  have BK313 := n6_
                  have HR327_0 := n7_
                  have HB := n8_
                  have BK340 := n9_
                  have GW340 := n10_
                  have GE340 := n11_
                  have NB312_340 := n12_
                  have NB340_312 := n13_
                  have NB313_340 := n14_
                  have NB340_313 := n15_
                  clear n0_ n1_ n2_ n3_ n4_ n5_ n6_ n7_ n8_ n9_ n10_ n11_ n12_ n13_ n14_ n15_
                  clear hb hbox hg
                  refine hK.out _ _ ⟨(bC_ BK313.out 0).trans rfl, (bC_ BK313.out 1).trans rfl, (bC_ BK313.out 2).trans rfl, (bC_ BK313.out 3).trans rfl, (bC_ BK313.out 4).trans rfl, (bC_ BK313.out 5).trans rfl, (bC_ BK313.out 6).trans rfl, HS7_⟩ (fun hHeld => ?_)
                  clear hK K
                  refine norm_ (a' := ?_) ?_ ?_
                  rotate_left
                  ·show Act.put _ (some 9) _ = _
                   simp only [Act.put, List.setIfInBounds_toArray, List.set_cons_zero, List.set_cons_succ, i64_w, i32_w]
                   rfl
                  exact norm_ (by simp only [putAll, Act.put, List.setIfInBounds_toArray, List.set_cons_zero, List.set_cons_succ]) (hCont (v333, v337, gb340) _ ⟨hHeld, (by (with_reducible repeat (first | apply Kd.R_alloc | apply Kd.R_drewN | apply Kd.R_drew)); exact Kd.R_mono HL327_0.out (fun _ hk => hk.2)), (by (with_reducible repeat (first | apply Kd.V_alloc | apply Kd.V_drewN | apply Kd.V_drew)); exact Kd.V_mono HO334.out (fun _ hk => ⟨hk.1.1, ⟨hk.1.2.1, ⟨hk.1.2.2.1, ⟨hk.1.2.2.2, hk.2⟩⟩⟩⟩)), (by (with_reducible repeat (first | apply Kd.V_alloc | apply Kd.V_drewN | apply Kd.V_drew)); exact Kd.V_mono HO338.out (fun _ hk => ⟨hk.1.1, ⟨hk.1.2.1, ⟨hk.1.2.2.1, ⟨hk.1.2.2.2, hk.2⟩⟩⟩⟩)), (by (with_reducible repeat (first | apply Kd.R_alloc | apply Kd.R_drewN | apply Kd.R_drew)); exact HO_5.out), (by (with_reducible repeat (first | apply Kd.S_alloc | apply Kd.S_drewN | apply Kd.S_drew)); exact HO_6.out), (by (with_reducible repeat (first | refine kN_ ?_ _ | refine kD_ ?_ | refine kA_ ?_ _)); exact BK312.out), (by (with_reducible repeat (first | refine kN_ ?_ _ | refine kD_ ?_ | refine kA_ ?_ _)); exact BK313.out), (by (with_reducible repeat (first | refine kN_ ?_ _ | refine kD_ ?_ | refine kA_ ?_ _)); exact BK340.out), GW340.out, GE340.out, NB312_340.out, NB340_312.out, NB313_340.out, NB340_313.out, (by repeat (first | (with_reducible first | exact HB.out | apply bA_ | apply bN_ | apply bD_ | refine bS_ ?_ GE312.out | refine bS_ ?_ GE313.out | refine bS_ ?_ GE340.out) | exact HB.out))⟩)
                 ·skip
                  refine box_step ?hg (N := 9) ?hd (cs := #[.int .i64 0, .int .i64 0, .int .i64 0, .int .i64 0, .slice none 0 0, .string (⟨#[]⟩ : ByteArray), .slice none 0 0]) (t := 32) ?hr ?_; (case hd => rfl); (case hg => rfl); (case hr => first | (go_simp; done) | (go_simp; rfl))
                  intro gb340 hg w47 hbox hb
                  have HS7_ := (hb.cell (World.block_lt_of_cell? _ _ (hHeld.2.2.2.2.2.2.2))).trans (hHeld.2.2.2.2.2.2.2)
                  have n0_ := Az.mk (Kd.R_below (Kd.R_elderB (by (with_reducible repeat (first | apply Kd.R_alloc | apply Kd.R_drewN | apply Kd.R_drew)); exact HO_5.out) gb340 (Nat.le_of_eq hg.symm)) hb)
                  have n1_ := Az.mk (Kd.S_below (by (with_reducible repeat (first | apply Kd.S_alloc | apply Kd.S_drewN | apply Kd.S_drew)); exact HO_6.out) hb)
                  have n2_ := Az.mk (Kd.R_below (by (with_reducible repeat (first | apply Kd.R_alloc | apply Kd.R_drewN | apply Kd.R_drew)); exact HL327_0.out) hb)
                  have n3_ := Az.mk (kB_ (g := gb312) (o := .cells #[.slice A0_0 l0_0.length c0_0, .slice A0_1 l0_1.length c0_1, .slice A0_2 l0_2.length c0_2, .slice A0_3 l0_3.length c0_3, .slice A0_4 l0_4.length c0_4] 27 (0, 0)) (by (with_reducible repeat (first | refine kN_ ?_ _ | refine kD_ ?_ | refine kA_ ?_ _)); exact BK312.out) hb)
                  have n4_ := Az.mk (kB_ (g := gb313) (o := .cells #[.int .i64 a1_0, .int .i64 a1_1, .int .i64 a1_2, .int .i64 a1_3, .slice A1_4 l1_4.length c1_4, .string a1_5, .slice A1_6 l1_6.length c1_6] 32 (0, 0)) (by (with_reducible repeat (first | refine kN_ ?_ _ | refine kD_ ?_ | refine kA_ ?_ _)); exact BK313.out) hb)
                  have n5_ := Az.mk (Kd.C_below (by repeat (first | (with_reducible exact HR327_0.out) | (with_reducible refine Kd.C_alloc ?_ _) | (with_reducible refine Kd.C_drewN ?_ _) | (with_reducible refine Kd.C_drew ?_) | exact HR327_0.out)) hb)
                  have n6_ := Az.mk (bT_ (by repeat (first | (with_reducible first | exact HB.out | apply bA_ | apply bN_ | apply bD_ | refine bS_ ?_ GE312.out | refine bS_ ?_ GE313.out) | exact HB.out)) hb)
                  have n7_ := Az.mk (hbox)
                  have n8_ := Az.mk ((by rw [hg]; exact (bZ_ (by repeat (first | (with_reducible first | exact HB.out | apply bA_ | apply bN_ | apply bD_ | refine bS_ ?_ GE312.out | refine bS_ ?_ GE313.out) | exact HB.out))) : w.heap.size ≤ gb340))
                  have n9_ := Az.mk ((by rw [hg]; exact (bZ_ (by repeat (first | (with_reducible first | exact HB.out | apply bA_ | apply bN_ | apply bD_ | refine bS_ ?_ GE312.out | refine bS_ ?_ GE313.out) | exact HB.out))) : w.heap.size ≤ gb340))
                  have n10_ := Az.mk ((by rw [hg]; exact Nat.ne_of_lt (blk_lt (g := gb312) (o := .cells #[.slice A0_0 l0_0.length c0_0, .slice A0_1 l0_1.length c0_1, .slice A0_2 l0_2.length c0_2, .slice A0_3 l0_3.length c0_3, .slice A0_4 l0_4.length c0_4] 27 (0, 0)) (by (with_reducible repeat (first | refine kN_ ?_ _ | refine kD_ ?_ | refine kA_ ?_ _)); exact BK312.out)) : gb312 ≠ gb340))
                  have n11_ := Az.mk ((by rw [hg]; exact Nat.ne_of_gt (blk_lt (g := gb312) (o := .cells #[.slice A0_0 l0_0.length c0_0, .slice A0_1 l0_1.length c0_1, .slice A0_2 l0_2.length c0_2, .slice A0_3 l0_3.length c0_3, .slice A0_4 l0_4.length c0_4] 27 (0, 0)) (by (with_reducible repeat (first | refine kN_ ?_ _ | refine kD_ ?_ | refine kA_ ?_ _)); exact BK312.out)) : gb340 ≠ gb312))
                  have n12_ := Az.mk ((by rw [hg]; exact Nat.ne_of_lt (blk_lt (g := gb313) (o := .cells #[.int .i64 a1_0, .int .i64 a1_1, .int .i64 a1_2, .int .i64 a1_3, .slice A1_4 l1_4.length c1_4, .string a1_5, .slice A1_6 l1_6.length c1_6] 32 (0, 0)) (by (with_reducible repeat (first | refine kN_ ?_ _ | refine kD_ ?_ | refine kA_ ?_ _)); exact BK313.out)) : gb313 ≠ gb340))
                  have n13_ := Az.mk ((by rw [hg]; exact Nat.ne_of_gt (blk_lt (g := gb313) (o := .cells #[.int .i64 a1_0, .int .i64 a1_1, .int .i64 a1_2, .int .i64 a1_3, .slice A1_4 l1_4.length c1_4, .string a1_5, .slice A1_6 l1_6.length c1_6] 32 (0, 0)) (by (with_reducible repeat (first | refine kN_ ?_ _ | refine kD_ ?_ | refine kA_ ?_ _)); exact BK313.out)) : gb340 ≠ gb313))
                  clear HO_5
                  clear HO_6
                  clear HL327_0
                  clear BK312
                  clear BK313
                  clear HR327_0
                  clear HB
                  have HO_5 := n0_
                  have HO_6 := n1_
                  have HL327_0 := n2_
                  have BK312 := n3_
                  have BK313 := n4_
                  have HR327_0 := n5_
                  have HB := n6_
                  have BK340 := n7_
                  have GW340 := n8_
                  have GE340 := n9_
                  have NB312_340 := n10_
                  have NB340_312 := n11_
                  have NB313_340 := n12_
                  have NB340_313 := n13_
                  clear n0_ n1_ n2_ n3_ n4_ n5_ n6_ n7_ n8_ n9_ n10_ n11_ n12_ n13_
                  clear hb hbox hg
                  refine hK.out _ _ ⟨(bC_ BK313.out 0).trans rfl, (bC_ BK313.out 1).trans rfl, (bC_ BK313.out 2).trans rfl, (bC_ BK313.out 3).trans rfl, (bC_ BK313.out 4).trans rfl, (bC_ BK313.out 5).trans rfl, (bC_ BK313.out 6).trans rfl, HS7_⟩ (fun hHeld => ?_)
                  clear hK K
                  refine norm_ (a' := ?_) ?_ ?_
                  rotate_left
                  ·show Act.put _ (some 9) _ = _
                   simp only [Act.put, List.setIfInBounds_toArray, List.set_cons_zero, List.set_cons_succ, i64_w, i32_w]
                   rfl
                  refine one_ (i := 5) (N := some 53) #[true, true, true, true, true, true, false, false, false, true, false, false] rfl rfl (one_of HT_.out (by kernel_rfl)) (by decide) (fun K hK => ?_)
                  refine goes_ Try.func23 (by kernel_rfl) rfl #[.agg #[.int .i64 a1_0, .int .i64 a1_1, .int .i64 a1_2, .int .i64 a1_3, .slice A1_4 l1_4.length c1_4, .string a1_5, .slice A1_6 l1_6.length c1_6], .slice A327_0 (rd_L1 t320 x8_3).length c327_0] (by rfl) rfl rfl (by (try simp only [List.map_toArray, List.map_cons, List.map_nil]); first | done | rfl | (simp only [List.length_drop, List.length_take]; rfl)) ?_
                  with_reducible refine (arboristlaw46_get.calls k3 a1_0 a1_1 a1_2 a1_3 (fun k_ => k_ < w.heap.size) _ _ l1_4 a1_5 (fun k_ => k_ < w.heap.size) _ _ l1_6 _ _ (rd_L1 t320 x8_3) t328 t329 t330 t331 t332 t335 t336 true _ ?side1 ?side2 ?side3 ?side4 A37.out).mono ?_
                  (case side1 => exact Kd.V_mk HC1_4.out (Kd.F_below (Kd.C_F k53_heap HR1_4.out) (by repeat (first | (with_reducible first | exact HB.out | apply bA_ | apply bN_ | apply bD_ | refine bS_ ?_ GE312.out | refine bS_ ?_ GE313.out | refine bS_ ?_ GE340.out) | exact HB.out))))
                  (case side2 => exact Kd.V_mk HC1_6.out (Kd.F_below (Kd.C_F k32_heap HR1_6.out) (by repeat (first | (with_reducible first | exact HB.out | apply bA_ | apply bN_ | apply bD_ | refine bS_ ?_ GE312.out | refine bS_ ?_ GE313.out | refine bS_ ?_ GE340.out) | exact HB.out))))
                  (case side3 => repeat (first | exact (by repeat (first | (with_reducible exact HR327_0.out) | (with_reducible refine Kd.C_alloc ?_ _) | (with_reducible refine Kd.C_drewN ?_ _) | (with_reducible refine Kd.C_drew ?_) | exact HR327_0.out)) | (with_reducible refine Kd.C_alloc ?_ _) | (with_reducible refine Kd.C_drewN ?_ _) | (with_reducible refine Kd.C_drew ?_)))
                  (case side4 => exact HC327_0.out)
                  rintro e w48 ⟨v333, v337, rfl, ho0, ho1, hb⟩
                  have HS7_ := (hb.cell (World.block_lt_of_cell? _ _ (hHeld.2.2.2.2.2.2.2))).trans (hHeld.2.2.2.2.2.2.2)
                  refine ⟨_, rfl, ?_⟩
                  have n0_ := Az.mk (Kd.R_below (by (with_reducible repeat (first | apply Kd.R_alloc | apply Kd.R_drewN | apply Kd.R_drew)); exact HO_5.out) hb)
                  have n1_ := Az.mk (Kd.S_below (by (with_reducible repeat (first | apply Kd.S_alloc | apply Kd.S_drewN | apply Kd.S_drew)); exact HO_6.out) hb)
                  have n2_ := Az.mk (Kd.R_below (by (with_reducible repeat (first | apply Kd.R_alloc | apply Kd.R_drewN | apply Kd.R_drew)); exact HL327_0.out) hb)
                  have n3_ := Az.mk (Kd.V_lower (Kd.V_mono (ok' := fun k_ => some k_ ≠ (v318 : Value).ownBlock ∧ some k_ ≠ (.slice (some ad327) t320.length co45 : Value).ownBlock ∧ k_ ≠ gb312 ∧ k_ ≠ gb313 ∧ k_ ≠ gb340) ho0 (fun k_ hk_ => ⟨Or.elim hk_ (fun hs_ => Or.elim hs_ (fun hs_ => fun e_ => Nat.not_le.2 hs_ (Kd.R_base HO_5.out k_ e_.symm)) (fun hs_ => fun e_ => Nat.not_le.2 hs_ (Kd.R_base HO_5.out k_ e_.symm))) (fun hn_ => (Kd.fresh' (Kd.R_lt (by (with_reducible repeat (first | apply Kd.R_alloc | apply Kd.R_drewN | apply Kd.R_drew)); exact HO_5.out)) k_ hn_)), Or.elim hk_ (fun hs_ => Or.elim hs_ (fun hs_ => fun e_ => Nat.not_le.2 hs_ (Kd.S_base HO_6.out k_ e_.symm)) (fun hs_ => fun e_ => Nat.not_le.2 hs_ (Kd.S_base HO_6.out k_ e_.symm))) (fun hn_ => (Kd.fresh' (Kd.S_lt (by (with_reducible repeat (first | apply Kd.S_alloc | apply Kd.S_drewN | apply Kd.S_drew)); exact HO_6.out)) k_ hn_)), Or.elim hk_ (fun hs_ => Or.elim hs_ (fun hs_ => fun e_ => Nat.not_le.2 hs_ (by rw [e_]; exact GW312.out)) (fun hs_ => fun e_ => Nat.not_le.2 hs_ (by rw [e_]; exact GW312.out))) (fun hn_ => (Kd.freshB (g := gb312) (o := .cells #[.slice A0_0 l0_0.length c0_0, .slice A0_1 l0_1.length c0_1, .slice A0_2 l0_2.length c0_2, .slice A0_3 l0_3.length c0_3, .slice A0_4 l0_4.length c0_4] 27 (0, 0)) (by (with_reducible repeat (first | refine kN_ ?_ _ | refine kD_ ?_ | refine kA_ ?_ _)); exact BK312.out) k_ hn_)), Or.elim hk_ (fun hs_ => Or.elim hs_ (fun hs_ => fun e_ => Nat.not_le.2 hs_ (by rw [e_]; exact GW313.out)) (fun hs_ => fun e_ => Nat.not_le.2 hs_ (by rw [e_]; exact GW313.out))) (fun hn_ => (Kd.freshB (g := gb313) (o := .cells #[.int .i64 a1_0, .int .i64 a1_1, .int .i64 a1_2, .int .i64 a1_3, .slice A1_4 l1_4.length c1_4, .string a1_5, .slice A1_6 l1_6.length c1_6] 32 (0, 0)) (by (with_reducible repeat (first | refine kN_ ?_ _ | refine kD_ ?_ | refine kA_ ?_ _)); exact BK313.out) k_ hn_)), Or.elim hk_ (fun hs_ => Or.elim hs_ (fun hs_ => fun e_ => Nat.not_le.2 hs_ (by rw [e_]; exact GW340.out)) (fun hs_ => fun e_ => Nat.not_le.2 hs_ (by rw [e_]; exact GW340.out))) (fun hn_ => (Kd.freshB (g := gb340) (o := .cells #[.int .i64 0, .int .i64 0, .int .i64 0, .int .i64 0, .slice none 0 0, .string (⟨#[]⟩ : ByteArray), .slice none 0 0] 32 (0, 0)) (by (with_reducible repeat (first | refine kN_ ?_ _ | refine kD_ ?_ | refine kA_ ?_ _)); exact BK340.out) k_ hn_))⟩)) (bZ_ (by repeat (first | (with_reducible first | exact HB.out | apply bA_ | apply bN_ | apply bD_ | refine bS_ ?_ GE312.out | refine bS_ ?_ GE313.out | refine bS_ ?_ GE340.out) | exact HB.out))))
                  have n4_ := Az.mk (Kd.V_lower (Kd.V_mono (ok' := fun k_ => some k_ ≠ (v318 : Value).ownBlock ∧ some k_ ≠ (.slice (some ad327) t320.length co45 : Value).ownBlock ∧ k_ ≠ gb312 ∧ k_ ≠ gb313 ∧ k_ ≠ gb340) ho1 (fun k_ hk_ => ⟨Or.elim hk_ (fun hs_ => Or.elim hs_ (fun hs_ => fun e_ => Nat.not_le.2 hs_ (Kd.R_base HO_5.out k_ e_.symm)) (fun hs_ => fun e_ => Nat.not_le.2 hs_ (Kd.R_base HO_5.out k_ e_.symm))) (fun hn_ => (Kd.fresh' (Kd.R_lt (by (with_reducible repeat (first | apply Kd.R_alloc | apply Kd.R_drewN | apply Kd.R_drew)); exact HO_5.out)) k_ hn_)), Or.elim hk_ (fun hs_ => Or.elim hs_ (fun hs_ => fun e_ => Nat.not_le.2 hs_ (Kd.S_base HO_6.out k_ e_.symm)) (fun hs_ => fun e_ => Nat.not_le.2 hs_ (Kd.S_base HO_6.out k_ e_.symm))) (fun hn_ => (Kd.fresh' (Kd.S_lt (by (with_reducible repeat (first | apply Kd.S_alloc | apply Kd.S_drewN | apply Kd.S_drew)); exact HO_6.out)) k_ hn_)), Or.elim hk_ (fun hs_ => Or.elim hs_ (fun hs_ => fun e_ => Nat.not_le.2 hs_ (by rw [e_]; exact GW312.out)) (fun hs_ => fun e_ => Nat.not_le.2 hs_ (by rw [e_]; exact GW312.out))) (fun hn_ => (Kd.freshB (g := gb312) (o := .cells #[.slice A0_0 l0_0.length c0_0, .slice A0_1 l0_1.length c0_1, .slice A0_2 l0_2.length c0_2, .slice A0_3 l0_3.length c0_3, .slice A0_4 l0_4.length c0_4] 27 (0, 0)) (by (with_reducible repeat (first | refine kN_ ?_ _ | refine kD_ ?_ | refine kA_ ?_ _)); exact BK312.out) k_ hn_)), Or.elim hk_ (fun hs_ => Or.elim hs_ (fun hs_ => fun e_ => Nat.not_le.2 hs_ (by rw [e_]; exact GW313.out)) (fun hs_ => fun e_ => Nat.not_le.2 hs_ (by rw [e_]; exact GW313.out))) (fun hn_ => (Kd.freshB (g := gb313) (o := .cells #[.int .i64 a1_0, .int .i64 a1_1, .int .i64 a1_2, .int .i64 a1_3, .slice A1_4 l1_4.length c1_4, .string a1_5, .slice A1_6 l1_6.length c1_6] 32 (0, 0)) (by (with_reducible repeat (first | refine kN_ ?_ _ | refine kD_ ?_ | refine kA_ ?_ _)); exact BK313.out) k_ hn_)), Or.elim hk_ (fun hs_ => Or.elim hs_ (fun hs_ => fun e_ => Nat.not_le.2 hs_ (by rw [e_]; exact GW340.out)) (fun hs_ => fun e_ => Nat.not_le.2 hs_ (by rw [e_]; exact GW340.out))) (fun hn_ => (Kd.freshB (g := gb340) (o := .cells #[.int .i64 0, .int .i64 0, .int .i64 0, .int .i64 0, .slice none 0 0, .string (⟨#[]⟩ : ByteArray), .slice none 0 0] 32 (0, 0)) (by (with_reducible repeat (first | refine kN_ ?_ _ | refine kD_ ?_ | refine kA_ ?_ _)); exact BK340.out) k_ hn_))⟩)) (bZ_ (by repeat (first | (with_reducible first | exact HB.out | apply bA_ | apply bN_ | apply bD_ | refine bS_ ?_ GE312.out | refine bS_ ?_ GE313.out | refine bS_ ?_ GE340.out) | exact HB.out))))
                  have n5_ := Az.mk (kB_ (g := gb312) (o := .cells #[.slice A0_0 l0_0.length c0_0, .slice A0_1 l0_1.length c0_1, .slice A0_2 l0_2.length c0_2, .slice A0_3 l0_3.length c0_3, .slice A0_4 l0_4.length c0_4] 27 (0, 0)) (by (with_reducible repeat (first | refine kN_ ?_ _ | refine kD_ ?_ | refine kA_ ?_ _)); exact BK312.out) hb)
                  have n6_ := Az.mk (kB_ (g := gb313) (o := .cells #[.int .i64 a1_0, .int .i64 a1_1, .int .i64 a1_2, .int .i64 a1_3, .slice A1_4 l1_4.length c1_4, .string a1_5, .slice A1_6 l1_6.length c1_6] 32 (0, 0)) (by (with_reducible repeat (first | refine kN_ ?_ _ | refine kD_ ?_ | refine kA_ ?_ _)); exact BK313.out) hb)
                  have n7_ := Az.mk (Kd.C_below (by repeat (first | (with_reducible exact HR327_0.out) | (with_reducible refine Kd.C_alloc ?_ _) | (with_reducible refine Kd.C_drewN ?_ _) | (with_reducible refine Kd.C_drew ?_) | exact HR327_0.out)) hb)
                  have n8_ := Az.mk (kB_ (g := gb340) (o := .cells #[.int .i64 0, .int .i64 0, .int .i64 0, .int .i64 0, .slice none 0 0, .string (⟨#[]⟩ : ByteArray), .slice none 0 0] 32 (0, 0)) (by (with_reducible repeat (first | refine kN_ ?_ _ | refine kD_ ?_ | refine kA_ ?_ _)); exact BK340.out) hb)
                  have n9_ := Az.mk (bT_ (by repeat (first | (with_reducible first | exact HB.out | apply bA_ | apply bN_ | apply bD_ | refine bS_ ?_ GE312.out | refine bS_ ?_ GE313.out | refine bS_ ?_ GE340.out) | exact HB.out)) hb)
                  clear HO_5
                  clear HO_6
                  clear HL327_0
                  clear BK312
                  clear BK313
                  clear HR327_0
                  clear BK340
                  clear HB
                  have HO_5 := n0_
                  have HO_6 := n1_
                  have HL327_0 := n2_
                  have HO334 := n3_
                  have HO338 := n4_
                  have BK312 := n5_
                  have BK313 := n6_
                  have HR327_0 := n7_
                  have BK340 := n8_
                  have HB := n9_
                  clear n0_ n1_ n2_ n3_ n4_ n5_ n6_ n7_ n8_ n9_
                  (try clear hb)
                  (try clear hb2)
                  (try clear hk)
                  (try clear hi)
                  (try clear ho0)
                  (try clear ho1)
                  refine hK.out _ _ ⟨(bC_ BK313.out 0).trans rfl, (bC_ BK313.out 1).trans rfl, (bC_ BK313.out 2).trans rfl, (bC_ BK313.out 3).trans rfl, (bC_ BK313.out 4).trans rfl, (bC_ BK313.out 5).trans rfl, (bC_ BK313.out 6).trans rfl, HS7_⟩ (fun hHeld => ?_)
                  clear hK K
                  refine norm_ (a' := ?_) ?_ ?_
                  rotate_left
                  ·show Act.put _ (some 53) _ = _
                   simp only [Act.put, List.setIfInBounds_toArray, List.set_cons_zero, List.set_cons_succ, i64_w, i32_w]
                   rfl
                  refine pure_ (i := 6) (N := some 47) (v := ?_) (a' := ?_) #[true, true, true, true, true, true, true, false, false, true, false, false] rfl rfl (any_of HT_.out (by kernel_rfl)) (fun _ _ _ h => h) (Or.inl ⟨by rfl, ?_⟩) ?_ ?_
                  rotate_left
                  ·intro w'
                   go_simp
                   with_reducible rfl
                  rotate_left
                  ·simp only [Act.put, List.setIfInBounds_toArray, List.set_cons_zero, List.set_cons_succ, i64_w, i32_w]
                   rfl
                  refine pure_ (i := 7) (N := some 54) (v := ?_) (a' := ?_) #[true, true, true, true, true, true, true, true, false, true, false, false] rfl rfl (any_of HT_.out (by kernel_rfl)) (fun _ _ _ h => h) (Or.inl ⟨by rfl, ?_⟩) ?_ ?_
                  rotate_left
                  ·intro w'
                   go_simp
                   with_reducible rfl
                  rotate_left
                  ·simp only [Act.put, List.setIfInBounds_toArray, List.set_cons_zero, List.set_cons_succ, i64_w, i32_w]
                   rfl
                  refine pure_ (i := 8) (N := some 55) (v := ?_) (a' := ?_) #[true, true, true, true, true, true, true, true, true, true, false, false] rfl rfl (any_of HT_.out (by kernel_rfl)) (fun _ _ _ h => h) (Or.inl ⟨by rfl, ?_⟩) ?_ ?_
                  rotate_left
                  ·intro w'
                   go_simp
                   with_reducible rfl
                  rotate_left
                  ·simp only [Act.put, List.setIfInBounds_toArray, List.set_cons_zero, List.set_cons_succ, i64_w, i32_w]
                   rfl
                  exact norm_ (by simp only [putAll, Act.put, List.setIfInBounds_toArray, List.set_cons_zero, List.set_cons_succ]) (hCont (v333, v337, gb340) _ ⟨hHeld, (by (with_reducible repeat (first | apply Kd.R_alloc | apply Kd.R_drewN | apply Kd.R_drew)); exact Kd.R_mono HL327_0.out (fun _ hk => hk.2)), (by (with_reducible repeat (first | apply Kd.V_alloc | apply Kd.V_drewN | apply Kd.V_drew)); exact HO334.out), (by (with_reducible repeat (first | apply Kd.V_alloc | apply Kd.V_drewN | apply Kd.V_drew)); exact HO338.out), (by (with_reducible repeat (first | apply Kd.R_alloc | apply Kd.R_drewN | apply Kd.R_drew)); exact HO_5.out), (by (with_reducible repeat (first | apply Kd.S_alloc | apply Kd.S_drewN | apply Kd.S_drew)); exact HO_6.out), (by (with_reducible repeat (first | refine kN_ ?_ _ | refine kD_ ?_ | refine kA_ ?_ _)); exact BK312.out), (by (with_reducible repeat (first | refine kN_ ?_ _ | refine kD_ ?_ | refine kA_ ?_ _)); exact BK313.out), (by (with_reducible repeat (first | refine kN_ ?_ _ | refine kD_ ?_ | refine kA_ ?_ _)); exact BK340.out), GW340.out, GE340.out, NB312_340.out, NB340_312.out, NB313_340.out, NB340_313.out, (by repeat (first | (with_reducible first | exact HB.out | apply bA_ | apply bN_ | apply bD_ | refine bS_ ?_ GE312.out | refine bS_ ?_ GE313.out | refine bS_ ?_ GE340.out) | exact HB.out))⟩)
                rintro ⟨v333, v337, gb340⟩ w49 ⟨hS_, h0_, h1_, h2_, h3_, h4_, h5_, h6_, h7_, h8_, h9_, h10_, h11_, h12_, h13_, h14_⟩
                have n0_ : Az (Kd.R (Kd.int .i64) 3 w49 w.heap.size (fun k_ => some k_ ≠ (.slice (some ad327) t320.length co45 : Value).ownBlock) (.slice A327_0 (rd_L1 t320 x8_3).length c327_0) (rd_L1 t320 x8_3)) := ⟨h0_⟩
                have n1_ : Az (Kd.V k53 53 w49 w.heap.size (fun k_ => some k_ ≠ (v318 : Value).ownBlock ∧ some k_ ≠ (.slice (some ad327) t320.length co45 : Value).ownBlock ∧ k_ ≠ gb312 ∧ k_ ≠ gb313 ∧ k_ ≠ gb340) v333 t332) := ⟨h1_⟩
                have n2_ : Az (Kd.V k32 32 w49 w.heap.size (fun k_ => some k_ ≠ (v318 : Value).ownBlock ∧ some k_ ≠ (.slice (some ad327) t320.length co45 : Value).ownBlock ∧ k_ ≠ gb312 ∧ k_ ≠ gb313 ∧ k_ ≠ gb340) v337 t336) := ⟨h2_⟩
                have n3_ : Az (Kd.R k32 32 w49 w.heap.size (fun k_ => k_ ≠ gb313 ∧ k_ ≠ gb340) v318 t317) := ⟨h3_⟩
                have n4_ : Az (Kd.S (Kd.slice 3 (Kd.int .i64)) 42 w49 w.heap.size (fun _ => True) (.slice (some ad327) t320.length co45) t320) := ⟨h4_⟩
                have n5_ : Az (w49.heap[gb312]? = some (.cells #[.slice A0_0 l0_0.length c0_0, .slice A0_1 l0_1.length c0_1, .slice A0_2 l0_2.length c0_2, .slice A0_3 l0_3.length c0_3, .slice A0_4 l0_4.length c0_4] 27 (0, 0))) := ⟨h5_⟩
                have n6_ : Az (w49.heap[gb313]? = some (.cells #[.int .i64 a1_0, .int .i64 a1_1, .int .i64 a1_2, .int .i64 a1_3, .slice A1_4 l1_4.length c1_4, .string a1_5, .slice A1_6 l1_6.length c1_6] 32 (0, 0))) := ⟨h6_⟩
                have n7_ : Az (w49.heap[gb340]? = some (.cells #[.int .i64 0, .int .i64 0, .int .i64 0, .int .i64 0, .slice none 0 0, .string (⟨#[]⟩ : ByteArray), .slice none 0 0] 32 (0, 0))) := ⟨h7_⟩
                have n8_ : Az (w.heap.size ≤ gb340) := ⟨h8_⟩
                have n9_ : Az (w.heap.size ≤ gb340) := ⟨h9_⟩
                have n10_ : Az (gb312 ≠ gb340) := ⟨h10_⟩
                have n11_ : Az (gb340 ≠ gb312) := ⟨h11_⟩
                have n12_ : Az (gb313 ≠ gb340) := ⟨h12_⟩
                have n13_ : Az (gb340 ≠ gb313) := ⟨h13_⟩
                have n14_ : Az (Below w.heap.size w w49) := ⟨h14_⟩
                clear HO_5
                clear HO_6
                clear BK312
                clear BK313
                clear HB
                clear h0_ h1_ h2_ h3_ h4_ h5_ h6_ h7_ h8_ h9_ h10_ h11_ h12_ h13_ h14_
                have HL327_0 := n0_
                have HO334 := n1_
                have HO338 := n2_
                have HO_5 := n3_
                have HO_6 := n4_
                have BK312 := n5_
                have BK313 := n6_
                have BK340 := n7_
                have GW340 := n8_
                have GE340 := n9_
                have NB312_340 := n10_
                have NB340_312 := n11_
                have NB313_340 := n12_
                have NB340_313 := n13_
                have HB := n14_
                clear n0_ n1_ n2_ n3_ n4_ n5_ n6_ n7_ n8_ n9_ n10_ n11_ n12_ n13_ n14_
                have hHeld : w49.cell? ⟨gb313, 0, none⟩ = some (.int .i64 a1_0) ∧ w49.cell? ⟨gb313, 1, none⟩ = some (.int .i64 a1_1) ∧ w49.cell? ⟨gb313, 2, none⟩ = some (.int .i64 a1_2) ∧ w49.cell? ⟨gb313, 3, none⟩ = some (.int .i64 a1_3) ∧ w49.cell? ⟨gb313, 4, none⟩ = some (.slice A1_4 l1_4.length c1_4) ∧ w49.cell? ⟨gb313, 5, none⟩ = some (.string a1_5) ∧ w49.cell? ⟨gb313, 6, none⟩ = some (.slice A1_6 l1_6.length c1_6) ∧ w49.cell? (ad327.add (x8_3).toNat) = some (.slice A327_0 (rd_L1 t320 x8_3).length c327_0) := hS_
                obtain ⟨Ao54, co54, eo54⟩ := Kd.V_slice HO334.out
                (first | subst eo54 | (injection eo54 with f1_ f2_ f3_; have f4_ := f1_.symm; have f5_ := f3_.symm; clear f1_ f2_ f3_; subst f4_; subst f5_))
                obtain ⟨Ao57, co57, eo57⟩ := Kd.V_slice HO338.out
                (first | subst eo57 | (injection eo57 with f1_ f2_ f3_; have f4_ := f1_.symm; have f5_ := f3_.symm; clear f1_ f2_ f3_; subst f4_; subst f5_))
                refine norm_ (a' := ?_) ?_ ?_
                rotate_left
                ·simp only [putAll, Act.put, List.setIfInBounds_toArray, List.set_cons_zero, List.set_cons_succ]
                 rfl
                refine one_ (i := 10) (N := none) #[true, true, true, true, true, true, true, true, true, true, true, false] rfl rfl (one_of HT_.out (by kernel_rfl)) (by decide) (fun K hK => ?_)
                have hs50 : w49.cell? ⟨gb340, 0, none⟩ = some (.int .i64 0) := (bC_ BK340.out 0).trans rfl
                have hfs50 := bF_ BK340.out 0
                have hns50_0 := NB312_340.out
                have hns50_1 := NB313_340.out
                have hms50_0 := NB340_312.out
                have hms50_1 := NB340_313.out
                have hs51 : w49.cell? ⟨gb340, 1, none⟩ = some (.int .i64 0) := (bC_ BK340.out 1).trans rfl
                have hfs51 := bF_ BK340.out 1
                have hns51_0 := NB312_340.out
                have hns51_1 := NB313_340.out
                have hms51_0 := NB340_312.out
                have hms51_1 := NB340_313.out
                have hs52 : w49.cell? ⟨gb340, 2, none⟩ = some (.int .i64 0) := (bC_ BK340.out 2).trans rfl
                have hfs52 := bF_ BK340.out 2
                have hns52_0 := NB312_340.out
                have hns52_1 := NB313_340.out
                have hms52_0 := NB340_312.out
                have hms52_1 := NB340_313.out
                have hs53 : w49.cell? ⟨gb340, 3, none⟩ = some (.int .i64 0) := (bC_ BK340.out 3).trans rfl
                have hfs53 := bF_ BK340.out 3
                have hns53_0 := NB312_340.out
                have hns53_1 := NB313_340.out
                have hms53_0 := NB340_312.out
                have hms53_1 := NB340_313.out
                have hs55 : w49.cell? ⟨gb340, 4, none⟩ = some (.slice none 0 0) := (bC_ BK340.out 4).trans rfl
                have hfs55 := bF_ BK340.out 4
                have hns55_0 := NB312_340.out
                have hns55_1 := NB313_340.out
                have hms55_0 := NB340_312.out
                have hms55_1 := NB340_313.out
                have hs56 : w49.cell? ⟨gb340, 5, none⟩ = some (.string (⟨#[]⟩ : ByteArray)) := (bC_ BK340.out 5).trans rfl
                have hfs56 := bF_ BK340.out 5
                have hns56_0 := NB312_340.out
                have hns56_1 := NB313_340.out
                have hms56_0 := NB340_312.out
                have hms56_1 := NB340_313.out
                have hs58 : w49.cell? ⟨gb340, 6, none⟩ = some (.slice none 0 0) := (bC_ BK340.out 6).trans rfl
                have hfs58 := bF_ BK340.out 6
                have hns58_0 := NB312_340.out
                have hns58_1 := NB313_340.out
                have hms58_0 := NB340_312.out
                have hms58_1 := NB340_313.out
                refine skip_ (w1 := ?_) (by rfl) rfl ?_ ?_
                rotate_left
                ·go_simp
                 rfl
                refine hK.out _ _ ⟨((cell_far (p := ⟨gb340, _, none⟩) NB313_340.out _).trans (((cell_far (p := ⟨gb340, _, none⟩) NB313_340.out _).trans (((cell_far (p := ⟨gb340, _, none⟩) NB313_340.out _).trans (((cell_far (p := ⟨gb340, _, none⟩) NB313_340.out _).trans (((cell_far (p := ⟨gb340, _, none⟩) NB313_340.out _).trans (((cell_far (p := ⟨gb340, _, none⟩) NB313_340.out _).trans (((cell_far (p := ⟨gb340, _, none⟩) NB313_340.out _).trans (hHeld.1)))))))))))))), ((cell_far (p := ⟨gb340, _, none⟩) NB313_340.out _).trans (((cell_far (p := ⟨gb340, _, none⟩) NB313_340.out _).trans (((cell_far (p := ⟨gb340, _, none⟩) NB313_340.out _).trans (((cell_far (p := ⟨gb340, _, none⟩) NB313_340.out _).trans (((cell_far (p := ⟨gb340, _, none⟩) NB313_340.out _).trans (((cell_far (p := ⟨gb340, _, none⟩) NB313_340.out _).trans (((cell_far (p := ⟨gb340, _, none⟩) NB313_340.out _).trans (hHeld.2.1)))))))))))))), ((cell_far (p := ⟨gb340, _, none⟩) NB313_340.out _).trans (((cell_far (p := ⟨gb340, _, none⟩) NB313_340.out _).trans (((cell_far (p := ⟨gb340, _, none⟩) NB313_340.out _).trans (((cell_far (p := ⟨gb340, _, none⟩) NB313_340.out _).trans (((cell_far (p := ⟨gb340, _, none⟩) NB313_340.out _).trans (((cell_far (p := ⟨gb340, _, none⟩) NB313_340.out _).trans (((cell_far (p := ⟨gb340, _, none⟩) NB313_340.out _).trans (hHeld.2.2.1)))))))))))))), ((cell_far (p := ⟨gb340, _, none⟩) NB313_340.out _).trans (((cell_far (p := ⟨gb340, _, none⟩) NB313_340.out _).trans (((cell_far (p := ⟨gb340, _, none⟩) NB313_340.out _).trans (((cell_far (p := ⟨gb340, _, none⟩) NB313_340.out _).trans (((cell_far (p := ⟨gb340, _, none⟩) NB313_340.out _).trans (((cell_far (p := ⟨gb340, _, none⟩) NB313_340.out _).trans (((cell_far (p := ⟨gb340, _, none⟩) NB313_340.out _).trans (hHeld.2.2.2.1)))))))))))))), ((cell_far (p := ⟨gb340, _, none⟩) NB313_340.out _).trans (((cell_far (p := ⟨gb340, _, none⟩) NB313_340.out _).trans (((cell_far (p := ⟨gb340, _, none⟩) NB313_340.out _).trans (((cell_far (p := ⟨gb340, _, none⟩) NB313_340.out _).trans (((cell_far (p := ⟨gb340, _, none⟩) NB313_340.out _).trans (((cell_far (p := ⟨gb340, _, none⟩) NB313_340.out _).trans (((cell_far (p := ⟨gb340, _, none⟩) NB313_340.out _).trans (hHeld.2.2.2.2.1)))))))))))))), ((cell_far (p := ⟨gb340, _, none⟩) NB313_340.out _).trans (((cell_far (p := ⟨gb340, _, none⟩) NB313_340.out _).trans (((cell_far (p := ⟨gb340, _, none⟩) NB313_340.out _).trans (((cell_far (p := ⟨gb340, _, none⟩) NB313_340.out _).trans (((cell_far (p := ⟨gb340, _, none⟩) NB313_340.out _).trans (((cell_far (p := ⟨gb340, _, none⟩) NB313_340.out _).trans (((cell_far (p := ⟨gb340, _, none⟩) NB313_340.out _).trans (hHeld.2.2.2.2.2.1)))))))))))))), ((cell_far (p := ⟨gb340, _, none⟩) NB313_340.out _).trans (((cell_far (p := ⟨gb340, _, none⟩) NB313_340.out _).trans (((cell_far (p := ⟨gb340, _, none⟩) NB313_340.out _).trans (((cell_far (p := ⟨gb340, _, none⟩) NB313_340.out _).trans (((cell_far (p := ⟨gb340, _, none⟩) NB313_340.out _).trans (((cell_far (p := ⟨gb340, _, none⟩) NB313_340.out _).trans (((cell_far (p := ⟨gb340, _, none⟩) NB313_340.out _).trans (hHeld.2.2.2.2.2.2.1)))))))))))))), ((cell_far (p := ⟨gb340, _, none⟩) (by first | exact Kd.own_blk (Kd.S_ne HO_6.out BK340.out (by decide)) | (rw [add_block]; exact Kd.own_blk (Kd.S_ne HO_6.out BK340.out (by decide))) | (show (Addr.add _ _).block ≠ _; rw [add_block]; exact Kd.own_blk (Kd.S_ne HO_6.out BK340.out (by decide))) | (dsimp only; exact Kd.own_blk (Kd.S_ne HO_6.out BK340.out (by decide)))) _).trans (((cell_far (p := ⟨gb340, _, none⟩) (by first | exact Kd.own_blk (Kd.S_ne HO_6.out BK340.out (by decide)) | (rw [add_block]; exact Kd.own_blk (Kd.S_ne HO_6.out BK340.out (by decide))) | (show (Addr.add _ _).block ≠ _; rw [add_block]; exact Kd.own_blk (Kd.S_ne HO_6.out BK340.out (by decide))) | (dsimp only; exact Kd.own_blk (Kd.S_ne HO_6.out BK340.out (by decide)))) _).trans (((cell_far (p := ⟨gb340, _, none⟩) (by first | exact Kd.own_blk (Kd.S_ne HO_6.out BK340.out (by decide)) | (rw [add_block]; exact Kd.own_blk (Kd.S_ne HO_6.out BK340.out (by decide))) | (show (Addr.add _ _).block ≠ _; rw [add_block]; exact Kd.own_blk (Kd.S_ne HO_6.out BK340.out (by decide))) | (dsimp only; exact Kd.own_blk (Kd.S_ne HO_6.out BK340.out (by decide)))) _).trans (((cell_far (p := ⟨gb340, _, none⟩) (by first | exact Kd.own_blk (Kd.S_ne HO_6.out BK340.out (by decide)) | (rw [add_block]; exact Kd.own_blk (Kd.S_ne HO_6.out BK340.out (by decide))) | (show (Addr.add _ _).block ≠ _; rw [add_block]; exact Kd.own_blk (Kd.S_ne HO_6.out BK340.out (by decide))) | (dsimp only; exact Kd.own_blk (Kd.S_ne HO_6.out BK340.out (by decide)))) _).trans (((cell_far (p := ⟨gb340, _, none⟩) (by first | exact Kd.own_blk (Kd.S_ne HO_6.out BK340.out (by decide)) | (rw [add_block]; exact Kd.own_blk (Kd.S_ne HO_6.out BK340.out (by decide))) | (show (Addr.add _ _).block ≠ _; rw [add_block]; exact Kd.own_blk (Kd.S_ne HO_6.out BK340.out (by decide))) | (dsimp only; exact Kd.own_blk (Kd.S_ne HO_6.out BK340.out (by decide)))) _).trans (((cell_far (p := ⟨gb340, _, none⟩) (by first | exact Kd.own_blk (Kd.S_ne HO_6.out BK340.out (by decide)) | (rw [add_block]; exact Kd.own_blk (Kd.S_ne HO_6.out BK340.out (by decide))) | (show (Addr.add _ _).block ≠ _; rw [add_block]; exact Kd.own_blk (Kd.S_ne HO_6.out BK340.out (by decide))) | (dsimp only; exact Kd.own_blk (Kd.S_ne HO_6.out BK340.out (by decide)))) _).trans (((cell_far (p := ⟨gb340, _, none⟩) (by first | exact Kd.own_blk (Kd.S_ne HO_6.out BK340.out (by decide)) | (rw [add_block]; exact Kd.own_blk (Kd.S_ne HO_6.out BK340.out (by decide))) | (show (Addr.add _ _).block ≠ _; rw [add_block]; exact Kd.own_blk (Kd.S_ne HO_6.out BK340.out (by decide))) | (dsimp only; exact Kd.own_blk (Kd.S_ne HO_6.out BK340.out (by decide)))) _).trans (hHeld.2.2.2.2.2.2.2))))))))))))))⟩ (fun hHeld => ?_)
                clear hK K
                refine pure_ (i := 11) (N := some 10) (v := ?_) (a' := ?_) #[true, true, true, true, true, true, true, true, true, true, true, true] rfl rfl (any_of HT_.out (by kernel_rfl)) (fun _ _ _ h => h) (Or.inl ⟨by rfl, ?_⟩) ?_ ?_
                rotate_left
                ·intro w'
                 go_simp
                 with_reducible rfl
                rotate_left
                ·simp only [Act.put, List.setIfInBounds_toArray, List.set_cons_zero, List.set_cons_succ, i64_w, i32_w]
                 rfl
                refine done_ (done_of HT_.out (by kernel_rfl)) ?_
                try go_wp2
                have n0_ : Az (Kd.R k32 32 (((((((w49.setCell ⟨gb340, 0, none⟩ (.int .i64 t328)).setCell ⟨gb340, 1, none⟩ (.int .i64 t329)).setCell ⟨gb340, 2, none⟩ (.int .i64 t330)).setCell ⟨gb340, 3, none⟩ (.int .i64 t331)).setCell ⟨gb340, 4, none⟩ (.slice Ao54 t332.length co54)).setCell ⟨gb340, 5, none⟩ (.string t335)).setCell ⟨gb340, 6, none⟩ (.slice Ao57 t336.length co57)) w.heap.size (fun k_ => k_ ≠ gb313 ∧ k_ ≠ gb340) v318 t317) := ⟨by (with_reducible repeat (first | apply Kd.R_alloc | apply Kd.R_drewN | apply Kd.R_drew)); exact Kd.R_mono (Kd.R_far (p := ⟨gb340, 6, none⟩) (Kd.R_far (p := ⟨gb340, 5, none⟩) (Kd.R_far (p := ⟨gb340, 4, none⟩) (Kd.R_far (p := ⟨gb340, 3, none⟩) (Kd.R_far (p := ⟨gb340, 2, none⟩) (Kd.R_far (p := ⟨gb340, 1, none⟩) (Kd.R_far (p := ⟨gb340, 0, none⟩) (Kd.R_mono HO_5.out (fun k_ hk => (⟨hk, hk.2⟩ : _ ∧ k_ ≠ gb340))) (fun _ hk => hk.2) (.int .i64 t328)) (fun _ hk => hk.2) (.int .i64 t329)) (fun _ hk => hk.2) (.int .i64 t330)) (fun _ hk => hk.2) (.int .i64 t331)) (fun _ hk => hk.2) (.slice Ao54 t332.length co54)) (fun _ hk => hk.2) (.string t335)) (fun _ hk => hk.2) (.slice Ao57 t336.length co57)) (fun _ hk => ⟨hk.1.1, hk.1.2⟩)⟩
                have n1_ : Az (Kd.S (Kd.slice 3 (Kd.int .i64)) 42 (((((((w49.setCell ⟨gb340, 0, none⟩ (.int .i64 t328)).setCell ⟨gb340, 1, none⟩ (.int .i64 t329)).setCell ⟨gb340, 2, none⟩ (.int .i64 t330)).setCell ⟨gb340, 3, none⟩ (.int .i64 t331)).setCell ⟨gb340, 4, none⟩ (.slice Ao54 t332.length co54)).setCell ⟨gb340, 5, none⟩ (.string t335)).setCell ⟨gb340, 6, none⟩ (.slice Ao57 t336.length co57)) w.heap.size (fun _ => True) (.slice (some ad327) t320.length co45) t320) := ⟨by (with_reducible repeat (first | apply Kd.S_alloc | apply Kd.S_drewN | apply Kd.S_drew)); exact Kd.S_mono (Kd.S_far (p := ⟨gb340, 6, none⟩) (Kd.S_far (p := ⟨gb340, 5, none⟩) (Kd.S_far (p := ⟨gb340, 4, none⟩) (Kd.S_far (p := ⟨gb340, 3, none⟩) (Kd.S_far (p := ⟨gb340, 2, none⟩) (Kd.S_far (p := ⟨gb340, 1, none⟩) (Kd.S_far (p := ⟨gb340, 0, none⟩) (Kd.S_types HO_6.out BK340.out (by decide)) (fun _ hk => hk.2) (.int .i64 t328)) (fun _ hk => hk.2) (.int .i64 t329)) (fun _ hk => hk.2) (.int .i64 t330)) (fun _ hk => hk.2) (.int .i64 t331)) (fun _ hk => hk.2) (.slice Ao54 t332.length co54)) (fun _ hk => hk.2) (.string t335)) (fun _ hk => hk.2) (.slice Ao57 t336.length co57)) (fun _ hk => trivial)⟩
                have n2_ : Az (Kd.R (Kd.int .i64) 3 (((((((w49.setCell ⟨gb340, 0, none⟩ (.int .i64 t328)).setCell ⟨gb340, 1, none⟩ (.int .i64 t329)).setCell ⟨gb340, 2, none⟩ (.int .i64 t330)).setCell ⟨gb340, 3, none⟩ (.int .i64 t331)).setCell ⟨gb340, 4, none⟩ (.slice Ao54 t332.length co54)).setCell ⟨gb340, 5, none⟩ (.string t335)).setCell ⟨gb340, 6, none⟩ (.slice Ao57 t336.length co57)) w.heap.size (fun k_ => some k_ ≠ (.slice (some ad327) t320.length co45 : Value).ownBlock) (.slice A327_0 (rd_L1 t320 x8_3).length c327_0) (rd_L1 t320 x8_3)) := ⟨by (with_reducible repeat (first | apply Kd.R_alloc | apply Kd.R_drewN | apply Kd.R_drew)); exact Kd.R_mono (Kd.R_far (p := ⟨gb340, 6, none⟩) (Kd.R_far (p := ⟨gb340, 5, none⟩) (Kd.R_far (p := ⟨gb340, 4, none⟩) (Kd.R_far (p := ⟨gb340, 3, none⟩) (Kd.R_far (p := ⟨gb340, 2, none⟩) (Kd.R_far (p := ⟨gb340, 1, none⟩) (Kd.R_far (p := ⟨gb340, 0, none⟩) (Kd.R_types HL327_0.out BK340.out (by decide)) (fun _ hk => hk.2) (.int .i64 t328)) (fun _ hk => hk.2) (.int .i64 t329)) (fun _ hk => hk.2) (.int .i64 t330)) (fun _ hk => hk.2) (.int .i64 t331)) (fun _ hk => hk.2) (.slice Ao54 t332.length co54)) (fun _ hk => hk.2) (.string t335)) (fun _ hk => hk.2) (.slice Ao57 t336.length co57)) (fun _ hk => hk.1)⟩
                have n3_ : Az (Kd.V k53 53 (((((((w49.setCell ⟨gb340, 0, none⟩ (.int .i64 t328)).setCell ⟨gb340, 1, none⟩ (.int .i64 t329)).setCell ⟨gb340, 2, none⟩ (.int .i64 t330)).setCell ⟨gb340, 3, none⟩ (.int .i64 t331)).setCell ⟨gb340, 4, none⟩ (.slice Ao54 t332.length co54)).setCell ⟨gb340, 5, none⟩ (.string t335)).setCell ⟨gb340, 6, none⟩ (.slice Ao57 t336.length co57)) w.heap.size (fun k_ => some k_ ≠ (v318 : Value).ownBlock ∧ some k_ ≠ (.slice (some ad327) t320.length co45 : Value).ownBlock ∧ k_ ≠ gb312 ∧ k_ ≠ gb313 ∧ k_ ≠ gb340) (.slice Ao54 t332.length co54) t332) := ⟨by (with_reducible repeat (first | apply Kd.V_alloc | apply Kd.V_drewN | apply Kd.V_drew)); exact Kd.V_mono (Kd.V_far (p := ⟨gb340, 6, none⟩) (Kd.V_far (p := ⟨gb340, 5, none⟩) (Kd.V_far (p := ⟨gb340, 4, none⟩) (Kd.V_far (p := ⟨gb340, 3, none⟩) (Kd.V_far (p := ⟨gb340, 2, none⟩) (Kd.V_far (p := ⟨gb340, 1, none⟩) (Kd.V_far (p := ⟨gb340, 0, none⟩) (Kd.V_mono HO334.out (fun k_ hk => (⟨hk, hk.2.2.2.2⟩ : _ ∧ k_ ≠ gb340))) (fun _ hk => hk.2) (.int .i64 t328)) (fun _ hk => hk.2) (.int .i64 t329)) (fun _ hk => hk.2) (.int .i64 t330)) (fun _ hk => hk.2) (.int .i64 t331)) (fun _ hk => hk.2) (.slice Ao54 t332.length co54)) (fun _ hk => hk.2) (.string t335)) (fun _ hk => hk.2) (.slice Ao57 t336.length co57)) (fun _ hk => ⟨hk.1.1, ⟨hk.1.2.1, ⟨hk.1.2.2.1, ⟨hk.1.2.2.2.1, hk.1.2.2.2.2⟩⟩⟩⟩)⟩
                have n4_ : Az (Kd.V k32 32 (((((((w49.setCell ⟨gb340, 0, none⟩ (.int .i64 t328)).setCell ⟨gb340, 1, none⟩ (.int .i64 t329)).setCell ⟨gb340, 2, none⟩ (.int .i64 t330)).setCell ⟨gb340, 3, none⟩ (.int .i64 t331)).setCell ⟨gb340, 4, none⟩ (.slice Ao54 t332.length co54)).setCell ⟨gb340, 5, none⟩ (.string t335)).setCell ⟨gb340, 6, none⟩ (.slice Ao57 t336.length co57)) w.heap.size (fun k_ => some k_ ≠ (v318 : Value).ownBlock ∧ some k_ ≠ (.slice (some ad327) t320.length co45 : Value).ownBlock ∧ k_ ≠ gb312 ∧ k_ ≠ gb313 ∧ k_ ≠ gb340) (.slice Ao57 t336.length co57) t336) := ⟨by (with_reducible repeat (first | apply Kd.V_alloc | apply Kd.V_drewN | apply Kd.V_drew)); exact Kd.V_mono (Kd.V_far (p := ⟨gb340, 6, none⟩) (Kd.V_far (p := ⟨gb340, 5, none⟩) (Kd.V_far (p := ⟨gb340, 4, none⟩) (Kd.V_far (p := ⟨gb340, 3, none⟩) (Kd.V_far (p := ⟨gb340, 2, none⟩) (Kd.V_far (p := ⟨gb340, 1, none⟩) (Kd.V_far (p := ⟨gb340, 0, none⟩) (Kd.V_mono HO338.out (fun k_ hk => (⟨hk, hk.2.2.2.2⟩ : _ ∧ k_ ≠ gb340))) (fun _ hk => hk.2) (.int .i64 t328)) (fun _ hk => hk.2) (.int .i64 t329)) (fun _ hk => hk.2) (.int .i64 t330)) (fun _ hk => hk.2) (.int .i64 t331)) (fun _ hk => hk.2) (.slice Ao54 t332.length co54)) (fun _ hk => hk.2) (.string t335)) (fun _ hk => hk.2) (.slice Ao57 t336.length co57)) (fun _ hk => ⟨hk.1.1, ⟨hk.1.2.1, ⟨hk.1.2.2.1, ⟨hk.1.2.2.2.1, hk.1.2.2.2.2⟩⟩⟩⟩)⟩
                have n5_ : Az ((((((((w49.setCell ⟨gb340, 0, none⟩ (.int .i64 t328)).setCell ⟨gb340, 1, none⟩ (.int .i64 t329)).setCell ⟨gb340, 2, none⟩ (.int .i64 t330)).setCell ⟨gb340, 3, none⟩ (.int .i64 t331)).setCell ⟨gb340, 4, none⟩ (.slice Ao54 t332.length co54)).setCell ⟨gb340, 5, none⟩ (.string t335)).setCell ⟨gb340, 6, none⟩ (.slice Ao57 t336.length co57)).heap[gb312]? = some (.cells #[.slice A0_0 l0_0.length c0_0, .slice A0_1 l0_1.length c0_1, .slice A0_2 l0_2.length c0_2, .slice A0_3 l0_3.length c0_3, .slice A0_4 l0_4.length c0_4] 27 (0, 0))) := ⟨by (with_reducible repeat (first | refine kN_ ?_ _ | refine kD_ ?_ | refine kA_ ?_ _)); refine kF_ ?_ NB312_340.out _; (with_reducible repeat (first | refine kN_ ?_ _ | refine kD_ ?_ | refine kA_ ?_ _)); refine kF_ ?_ NB312_340.out _; (with_reducible repeat (first | refine kN_ ?_ _ | refine kD_ ?_ | refine kA_ ?_ _)); refine kF_ ?_ NB312_340.out _; (with_reducible repeat (first | refine kN_ ?_ _ | refine kD_ ?_ | refine kA_ ?_ _)); refine kF_ ?_ NB312_340.out _; (with_reducible repeat (first | refine kN_ ?_ _ | refine kD_ ?_ | refine kA_ ?_ _)); refine kF_ ?_ NB312_340.out _; (with_reducible repeat (first | refine kN_ ?_ _ | refine kD_ ?_ | refine kA_ ?_ _)); refine kF_ ?_ NB312_340.out _; (with_reducible repeat (first | refine kN_ ?_ _ | refine kD_ ?_ | refine kA_ ?_ _)); refine kF_ ?_ NB312_340.out _; (with_reducible repeat (first | refine kN_ ?_ _ | refine kD_ ?_ | refine kA_ ?_ _)); exact BK312.out⟩
                have n6_ : Az ((((((((w49.setCell ⟨gb340, 0, none⟩ (.int .i64 t328)).setCell ⟨gb340, 1, none⟩ (.int .i64 t329)).setCell ⟨gb340, 2, none⟩ (.int .i64 t330)).setCell ⟨gb340, 3, none⟩ (.int .i64 t331)).setCell ⟨gb340, 4, none⟩ (.slice Ao54 t332.length co54)).setCell ⟨gb340, 5, none⟩ (.string t335)).setCell ⟨gb340, 6, none⟩ (.slice Ao57 t336.length co57)).heap[gb313]? = some (.cells #[.int .i64 a1_0, .int .i64 a1_1, .int .i64 a1_2, .int .i64 a1_3, .slice A1_4 l1_4.length c1_4, .string a1_5, .slice A1_6 l1_6.length c1_6] 32 (0, 0))) := ⟨by (with_reducible repeat (first | refine kN_ ?_ _ | refine kD_ ?_ | refine kA_ ?_ _)); refine kF_ ?_ NB313_340.out _; (with_reducible repeat (first | refine kN_ ?_ _ | refine kD_ ?_ | refine kA_ ?_ _)); refine kF_ ?_ NB313_340.out _; (with_reducible repeat (first | refine kN_ ?_ _ | refine kD_ ?_ | refine kA_ ?_ _)); refine kF_ ?_ NB313_340.out _; (with_reducible repeat (first | refine kN_ ?_ _ | refine kD_ ?_ | refine kA_ ?_ _)); refine kF_ ?_ NB313_340.out _; (with_reducible repeat (first | refine kN_ ?_ _ | refine kD_ ?_ | refine kA_ ?_ _)); refine kF_ ?_ NB313_340.out _; (with_reducible repeat (first | refine kN_ ?_ _ | refine kD_ ?_ | refine kA_ ?_ _)); refine kF_ ?_ NB313_340.out _; (with_reducible repeat (first | refine kN_ ?_ _ | refine kD_ ?_ | refine kA_ ?_ _)); refine kF_ ?_ NB313_340.out _; (with_reducible repeat (first | refine kN_ ?_ _ | refine kD_ ?_ | refine kA_ ?_ _)); exact BK313.out⟩
                have n7_ : Az ((((((((w49.setCell ⟨gb340, 0, none⟩ (.int .i64 t328)).setCell ⟨gb340, 1, none⟩ (.int .i64 t329)).setCell ⟨gb340, 2, none⟩ (.int .i64 t330)).setCell ⟨gb340, 3, none⟩ (.int .i64 t331)).setCell ⟨gb340, 4, none⟩ (.slice Ao54 t332.length co54)).setCell ⟨gb340, 5, none⟩ (.string t335)).setCell ⟨gb340, 6, none⟩ (.slice Ao57 t336.length co57)).heap[gb340]? = some (.cells #[.int .i64 t328, .int .i64 t329, .int .i64 t330, .int .i64 t331, .slice Ao54 t332.length co54, .string t335, .slice Ao57 t336.length co57] 32 (0, 0))) := ⟨by (with_reducible repeat (first | refine kN_ ?_ _ | refine kD_ ?_ | refine kA_ ?_ _)); refine kP_ (cs := #[.int .i64 t328, .int .i64 t329, .int .i64 t330, .int .i64 t331, .slice Ao54 t332.length co54, .string t335, .slice none 0 0]) ?_ 6 _ rfl; (with_reducible repeat (first | refine kN_ ?_ _ | refine kD_ ?_ | refine kA_ ?_ _)); refine kP_ (cs := #[.int .i64 t328, .int .i64 t329, .int .i64 t330, .int .i64 t331, .slice Ao54 t332.length co54, .string (⟨#[]⟩ : ByteArray), .slice none 0 0]) ?_ 5 _ rfl; (with_reducible repeat (first | refine kN_ ?_ _ | refine kD_ ?_ | refine kA_ ?_ _)); refine kP_ (cs := #[.int .i64 t328, .int .i64 t329, .int .i64 t330, .int .i64 t331, .slice none 0 0, .string (⟨#[]⟩ : ByteArray), .slice none 0 0]) ?_ 4 _ rfl; (with_reducible repeat (first | refine kN_ ?_ _ | refine kD_ ?_ | refine kA_ ?_ _)); refine kP_ (cs := #[.int .i64 t328, .int .i64 t329, .int .i64 t330, .int .i64 0, .slice none 0 0, .string (⟨#[]⟩ : ByteArray), .slice none 0 0]) ?_ 3 _ rfl; (with_reducible repeat (first | refine kN_ ?_ _ | refine kD_ ?_ | refine kA_ ?_ _)); refine kP_ (cs := #[.int .i64 t328, .int .i64 t329, .int .i64 0, .int .i64 0, .slice none 0 0, .string (⟨#[]⟩ : ByteArray), .slice none 0 0]) ?_ 2 _ rfl; (with_reducible repeat (first | refine kN_ ?_ _ | refine kD_ ?_ | refine kA_ ?_ _)); refine kP_ (cs := #[.int .i64 t328, .int .i64 0, .int .i64 0, .int .i64 0, .slice none 0 0, .string (⟨#[]⟩ : ByteArray), .slice none 0 0]) ?_ 1 _ rfl; (with_reducible repeat (first | refine kN_ ?_ _ | refine kD_ ?_ | refine kA_ ?_ _)); refine kP_ (cs := #[.int .i64 0, .int .i64 0, .int .i64 0, .int .i64 0, .slice none 0 0, .string (⟨#[]⟩ : ByteArray), .slice none 0 0]) ?_ 0 _ rfl; (with_reducible repeat (first | refine kN_ ?_ _ | refine kD_ ?_ | refine kA_ ?_ _)); exact BK340.out⟩
                have n8_ : Az (Below w.heap.size w (((((((w49.setCell ⟨gb340, 0, none⟩ (.int .i64 t328)).setCell ⟨gb340, 1, none⟩ (.int .i64 t329)).setCell ⟨gb340, 2, none⟩ (.int .i64 t330)).setCell ⟨gb340, 3, none⟩ (.int .i64 t331)).setCell ⟨gb340, 4, none⟩ (.slice Ao54 t332.length co54)).setCell ⟨gb340, 5, none⟩ (.string t335)).setCell ⟨gb340, 6, none⟩ (.slice Ao57 t336.length co57))) := ⟨by repeat (first | (with_reducible first | exact HB.out | apply bA_ | apply bN_ | apply bD_ | refine bS_ ?_ GE312.out | refine bS_ ?_ GE313.out | refine bS_ ?_ GE340.out) | exact HB.out)⟩
                (try clear HO_5)
                (try clear HO_6)
                (try clear HL327_0)
                (try clear HO334)
                (try clear HO338)
                (try clear BK312)
                (try clear BK313)
                (try clear BK340)
                (try clear HB)
                generalize (((((((w49.setCell ⟨gb340, 0, none⟩ (.int .i64 t328)).setCell ⟨gb340, 1, none⟩ (.int .i64 t329)).setCell ⟨gb340, 2, none⟩ (.int .i64 t330)).setCell ⟨gb340, 3, none⟩ (.int .i64 t331)).setCell ⟨gb340, 4, none⟩ (.slice Ao54 t332.length co54)).setCell ⟨gb340, 5, none⟩ (.string t335)).setCell ⟨gb340, 6, none⟩ (.slice Ao57 t336.length co57)) = w59 at n0_ n1_ n2_ n3_ n4_ n5_ n6_ n7_ n8_ ⊢
                have HO_5 := n0_
                have HO_6 := n1_
                have HL327_0 := n2_
                have HO334 := n3_
                have HO338 := n4_
                have BK312 := n5_
                have BK313 := n6_
                have BK340 := n7_
                have HB := n8_
                clear n0_ n1_ n2_ n3_ n4_ n5_ n6_ n7_ n8_
                have n0_ := Az.mk (Kd.R_drew HO_5.out)
                have n1_ := Az.mk (Kd.S_drew HO_6.out)
                have n2_ := Az.mk (Kd.R_drew HL327_0.out)
                have n3_ := Az.mk (Kd.V_drew HO334.out)
                have n4_ := Az.mk (Kd.V_drew HO338.out)
                have n5_ := Az.mk (kD_ BK312.out)
                have n6_ := Az.mk (kD_ BK313.out)
                have n7_ := Az.mk (kD_ BK340.out)
                have n8_ := Az.mk (bD_ HB.out)
                clear HO_5
                clear HO_6
                clear HL327_0
                clear HO334
                clear HO338
                clear BK312
                clear BK313
                clear BK340
                clear HB
                have HO_5 := n0_
                have HO_6 := n1_
                have HL327_0 := n2_
                have HO334 := n3_
                have HO338 := n4_
                have BK312 := n5_
                have BK313 := n6_
                have BK340 := n7_
                have HB := n8_
                clear n0_ n1_ n2_ n3_ n4_ n5_ n6_ n7_ n8_
                have p341 : 0 ≤ (x8_3 : Int) := of_decide_eq_true (by first | (with_reducible assumption) | assumption)
                have q341 : x8_3 < (t320.length : Int) := of_decide_eq_true (by first | (with_reducible assumption) | assumption)
                obtain ⟨ad341, A341_0, c341_0, e341, hx341_0, hl341_0, hi341_0⟩ := at_L1 (Kd.S_reads' HO_6.out).2.2 x8_3 p341 q341
                obtain rfl : ad327 = ad341 := (by injection e341)
                obtain ⟨ce341, hce341, hMe341, hcc341⟩ := Kd.S_get HO_6.out [] x8_3 p341 (by first | exact q341 | exact of_decide_eq_true (by first | (with_reducible assumption) | assumption) | (have e_ := (Kd.S_reads' HO_6.out).1; omega))
                obtain ⟨ve341_0, rfl, ge341_0⟩ := hMe341
                have hv341_0 := hcc341 0 _ rfl
                rw [Nat.add_zero, show ((Kd.slice 3 (Kd.int .i64))).sz = 1 from rfl, Nat.mul_one] at hv341_0
                replace hv341_0 := Option.some.inj (hv341_0.symm.trans hx341_0)
                rw [hv341_0] at ge341_0
                have HL341_0 := Az.mk (show Kd.R (Kd.int .i64) 3 _ _ _ _ (rd_L1 t320 x8_3) from ge341_0)
                clear hv341_0 ge341_0
                clear hcc341 hce341
                have HR341_0 := Az.mk hi341_0
                have HC341_0 := Az.mk hl341_0
                clear hi341_0 hl341_0
                replace p341 := eq_true p341
                replace q341 := eq_true q341
                obtain ⟨Ao61, co61, eo61⟩ := Kd.R_slice HO_5.out
                (first | subst eo61 | (injection eo61 with f1_ f2_ f3_; have f4_ := f1_.symm; have f5_ := f3_.symm; clear f1_ f2_ f3_; subst f4_; subst f5_))
                have p342 : 0 ≤ (x8_3 : Int) := of_decide_eq_true (by first | (with_reducible assumption) | assumption)
                have q342 : x8_3 < (t317.length : Int) := of_decide_eq_true (by first | (with_reducible assumption) | assumption)
                obtain ⟨ad342, A342_4, c342_4, A342_6, c342_6, e342, hx342_0, hx342_1, hx342_2, hx342_3, hx342_4, hx342_5, hx342_6, hl342_4, hi342_4, hl342_6, hi342_6⟩ := at_T32 (Kd.R_reads' HO_5.out).2.2 x8_3 p342 q342
                cases e342
                obtain ⟨ce342, hce342, hMe342, hcc342⟩ := Kd.R_get HO_5.out z32 x8_3 p342 (by first | exact q342 | exact of_decide_eq_true (by first | (with_reducible assumption) | assumption) | (have e_ := (Kd.R_reads' HO_5.out).1; omega))
                obtain ⟨ve342_4, ve342_6, rfl, ge342_4, ge342_6⟩ := k32_openM hMe342
                have hv342_4 := hcc342 4 _ rfl
                rw [add_field _ _ 4 (by omega)] at hv342_4
                replace hv342_4 := Option.some.inj (hv342_4.symm.trans hx342_4)
                rw [hv342_4] at ge342_4
                have HL342_4 := Az.mk (show Kd.R k53 53 _ _ _ _ ((rd_T32 t317 x8_3).f4) from ge342_4)
                clear hv342_4 ge342_4
                have hv342_6 := hcc342 6 _ rfl
                rw [add_field _ _ 6 (by omega)] at hv342_6
                replace hv342_6 := Option.some.inj (hv342_6.symm.trans hx342_6)
                rw [hv342_6] at ge342_6
                have HL342_6 := Az.mk (show Kd.R k32 32 _ _ _ _ ((rd_T32 t317 x8_3).f6) from ge342_6)
                clear hv342_6 ge342_6
                clear hcc342 hce342
                have HR342_4 := Az.mk hi342_4
                have HC342_4 := Az.mk hl342_4
                clear hi342_4 hl342_4
                have HR342_6 := Az.mk hi342_6
                have HC342_6 := Az.mk hl342_6
                clear hi342_6 hl342_6
                replace p342 := eq_true p342
                replace q342 := eq_true q342
                refine start_ (n := 27) (S := fun w' => w'.cell? ⟨gb312, 0, none⟩ = some (.slice A0_0 l0_0.length c0_0) ∧ w'.cell? ⟨gb312, 1, none⟩ = some (.slice A0_1 l0_1.length c0_1) ∧ w'.cell? ⟨gb312, 2, none⟩ = some (.slice A0_2 l0_2.length c0_2) ∧ w'.cell? ⟨gb312, 3, none⟩ = some (.slice A0_3 l0_3.length c0_3) ∧ w'.cell? ⟨gb312, 4, none⟩ = some (.slice A0_4 l0_4.length c0_4) ∧ w'.cell? ⟨gb340, 0, none⟩ = some (.int .i64 t328) ∧ w'.cell? ⟨gb340, 1, none⟩ = some (.int .i64 t329) ∧ w'.cell? ⟨gb340, 2, none⟩ = some (.int .i64 t330) ∧ w'.cell? ⟨gb340, 3, none⟩ = some (.int .i64 t331) ∧ w'.cell? ⟨gb340, 4, none⟩ = some (.slice Ao54 t332.length co54) ∧ w'.cell? ⟨gb340, 5, none⟩ = some (.string t335) ∧ w'.cell? ⟨gb340, 6, none⟩ = some (.slice Ao57 t336.length co57) ∧ w'.cell? (ad327.add (x8_3).toNat) = some (.slice A341_0 (rd_L1 t320 x8_3).length c341_0) ∧ w'.cell? (ad342.add ((x8_3).toNat * 7)) = some (.int .i64 ((rd_T32 t317 x8_3).f0)) ∧ w'.cell? ⟨(ad342.add ((x8_3).toNat * 7)).block, (ad342.add ((x8_3).toNat * 7)).off + 1, none⟩ = some (.int .i64 ((rd_T32 t317 x8_3).f1)) ∧ w'.cell? ⟨(ad342.add ((x8_3).toNat * 7)).block, (ad342.add ((x8_3).toNat * 7)).off + 2, none⟩ = some (.int .i64 ((rd_T32 t317 x8_3).f2)) ∧ w'.cell? ⟨(ad342.add ((x8_3).toNat * 7)).block, (ad342.add ((x8_3).toNat * 7)).off + 3, none⟩ = some (.int .i64 ((rd_T32 t317 x8_3).f3)) ∧ w'.cell? ⟨(ad342.add ((x8_3).toNat * 7)).block, (ad342.add ((x8_3).toNat * 7)).off + 4, none⟩ = some (.slice A342_4 ((rd_T32 t317 x8_3).f4).length c342_4) ∧ w'.cell? ⟨(ad342.add ((x8_3).toNat * 7)).block, (ad342.add ((x8_3).toNat * 7)).off + 5, none⟩ = some (.string ((rd_T32 t317 x8_3).f5)) ∧ w'.cell? ⟨(ad342.add ((x8_3).toNat * 7)).block, (ad342.add ((x8_3).toNat * 7)).off + 6, none⟩ = some (.slice A342_6 ((rd_T32 t317 x8_3).f6).length c342_6) ∧ w'.cell? (ad342.add ((x8_3).toNat * 7)) = some (.int .i64 ((rd_T32 t317 x8_3).f0)) ∧ w'.cell? ⟨(ad342.add ((x8_3).toNat * 7)).block, (ad342.add ((x8_3).toNat * 7)).off + 1, none⟩ = some (.int .i64 ((rd_T32 t317 x8_3).f1)) ∧ w'.cell? ⟨(ad342.add ((x8_3).toNat * 7)).block, (ad342.add ((x8_3).toNat * 7)).off + 2, none⟩ = some (.int .i64 ((rd_T32 t317 x8_3).f2)) ∧ w'.cell? ⟨(ad342.add ((x8_3).toNat * 7)).block, (ad342.add ((x8_3).toNat * 7)).off + 3, none⟩ = some (.int .i64 ((rd_T32 t317 x8_3).f3)) ∧ w'.cell? ⟨(ad342.add ((x8_3).toNat * 7)).block, (ad342.add ((x8_3).toNat * 7)).off + 4, none⟩ = some (.slice A342_4 ((rd_T32 t317 x8_3).f4).length c342_4) ∧ w'.cell? ⟨(ad342.add ((x8_3).toNat * 7)).block, (ad342.add ((x8_3).toNat * 7)).off + 5, none⟩ = some (.string ((rd_T32 t317 x8_3).f5)) ∧ w'.cell? ⟨(ad342.add ((x8_3).toNat * 7)).block, (ad342.add ((x8_3).toNat * 7)).off + 6, none⟩ = some (.slice A342_6 ((rd_T32 t317 x8_3).f6).length c342_6)) (ds := []) #[false, false, false, false, false, false, false, false, false, false, false, false, false, false, false, false, false, false, false, false, false, false, false, false, false, false, false] (by kernel_rfl) rfl rfl ⟨(bC_ BK312.out 0).trans rfl, (bC_ BK312.out 1).trans rfl, (bC_ BK312.out 2).trans rfl, (bC_ BK312.out 3).trans rfl, (bC_ BK312.out 4).trans rfl, (bC_ BK340.out 0).trans rfl, (bC_ BK340.out 1).trans rfl, (bC_ BK340.out 2).trans rfl, (bC_ BK340.out 3).trans rfl, (bC_ BK340.out 4).trans rfl, (bC_ BK340.out 5).trans rfl, (bC_ BK340.out 6).trans rfl, hx341_0, hx342_0, hx342_1, hx342_2, hx342_3, hx342_4, hx342_5, hx342_6, hx342_0, hx342_1, hx342_2, hx342_3, hx342_4, hx342_5, hx342_6⟩ (fun hHeld => ?_); refine with_tabW arboristlaw46_FieldsAlong_.tab10 arboristlaw46_FieldsAlong_.bits10 (fun HT_ HW_ => ?_)
                generalize w59.drew = w60 at HO_5 HO_6 HL327_0 HO334 HO338 BK312 BK313 BK340 HB HL341_0 HL342_4 HL342_6 HR341_0 HR342_4 HR342_6 hx341_0 hx342_0 hx342_1 hx342_2 hx342_3 hx342_4 hx342_5 hx342_6 hHeld ⊢
                refine pure_ (i := 0) (N := some 56) (v := ?_) (a' := ?_) #[true, false, false, false, false, false, false, false, false, false, false, false, false, false, false, false, false, false, false, false, false, false, false, false, false, false, false] rfl rfl (any_of HT_.out (by kernel_rfl)) (fun _ _ _ h => h) (Or.inl ⟨by rfl, ?_⟩) ?_ ?_
                rotate_left
                ·intro w'
                 go_simp
                 with_reducible rfl
                rotate_left
                ·simp only [Act.put, List.setIfInBounds_toArray, List.set_cons_zero, List.set_cons_succ, i64_w, i32_w]
                 rfl
                refine pure_ (i := 1) (N := some 57) (v := ?_) (a' := ?_) #[true, true, false, false, false, false, false, false, false, false, false, false, false, false, false, false, false, false, false, false, false, false, false, false, false, false, false] rfl rfl (any_of HT_.out (by kernel_rfl)) (fun _ _ _ h => h) (Or.inl ⟨by rfl, ?_⟩) ?_ ?_
                rotate_left
                ·intro w'
                 go_simp
                 with_reducible rfl
                rotate_left
                ·simp only [Act.put, List.setIfInBounds_toArray, List.set_cons_zero, List.set_cons_succ, i64_w, i32_w]
                 rfl
                refine pure_ (i := 2) (N := some 58) (v := ?_) (a' := ?_) #[true, true, true, false, false, false, false, false, false, false, false, false, false, false, false, false, false, false, false, false, false, false, false, false, false, false, false] rfl rfl (any_of HT_.out (by kernel_rfl)) (fun _ _ _ h => h) (Or.inl ⟨by rfl, ?_⟩) ?_ ?_
                rotate_left
                ·intro w'
                 go_simp
                 with_reducible rfl
                rotate_left
                ·simp only [Act.put, List.setIfInBounds_toArray, List.set_cons_zero, List.set_cons_succ, i64_w, i32_w]
                 rfl
                refine pure_ (i := 3) (N := some 59) (v := ?_) (a' := ?_) #[true, true, true, true, false, false, false, false, false, false, false, false, false, false, false, false, false, false, false, false, false, false, false, false, false, false, false] rfl rfl (any_of HT_.out (by kernel_rfl)) (fun _ _ _ h => h) (Or.inl ⟨by rfl, ?_⟩) ?_ ?_
                rotate_left
                ·intro w'
                 go_simp
                 with_reducible rfl
                rotate_left
                ·simp only [Act.put, List.setIfInBounds_toArray, List.set_cons_zero, List.set_cons_succ, i64_w, i32_w]
                 rfl
                refine pure_ (i := 4) (N := some 60) (v := ?_) (a' := ?_) #[true, true, true, true, true, false, false, false, false, false, false, false, false, false, false, false, false, false, false, false, false, false, false, false, false, false, false] rfl rfl (any_of HT_.out (by kernel_rfl)) (fun _ _ _ h => h) (Or.inl ⟨by rfl, ?_⟩) ?_ ?_
                rotate_left
                ·intro w'
                 go_simp
                 with_reducible rfl
                rotate_left
                ·simp only [Act.put, List.setIfInBounds_toArray, List.set_cons_zero, List.set_cons_succ, i64_w, i32_w]
                 rfl
                refine pure_ (i := 5) (N := some 61) (v := ?_) (a' := ?_) #[true, true, true, true, true, true, false, false, false, false, false, false, false, false, false, false, false, false, false, false, false, false, false, false, false, false, false] rfl rfl (any_of HT_.out (by kernel_rfl)) (fun _ _ _ h => h) (Or.inl ⟨by rfl, ?_⟩) ?_ ?_
                rotate_left
                ·intro w'
                 go_simp
                 with_reducible rfl
                rotate_left
                ·simp only [Act.put, List.setIfInBounds_toArray, List.set_cons_zero, List.set_cons_succ, i64_w, i32_w]
                 rfl
                refine take_ (i := 6) (N := some 62) (v := ?_) (a' := ?_) #[true, true, true, true, true, true, true, false, false, false, false, false, false, false, false, false, false, false, false, false, false, false, false, false, false, false, false] rfl rfl (take_ofW HT_.out HW_.out (by kernel_rfl)) (fun _ _ _ h => h) (Or.inl ⟨by rfl, ?_⟩) hHeld ?_ ?_
                rotate_left
                ·rintro w' ⟨s0, s1, s2, s3, s4, s5, s6, s7, s8, s9, s10, s11, s12, s13, s14, s15, s16, s17, s18, s19, s20, s21, s22, s23, s24, s25, s26⟩
                 go_simp
                 with_reducible rfl
                rotate_left
                ·simp only [Act.put, List.setIfInBounds_toArray, List.set_cons_zero, List.set_cons_succ, i64_w, i32_w]
                 rfl
                refine pure_ (i := 7) (N := some 63) (v := ?_) (a' := ?_) #[true, true, true, true, true, true, true, true, false, false, false, false, false, false, false, false, false, false, false, false, false, false, false, false, false, false, false] rfl rfl (any_of HT_.out (by kernel_rfl)) (fun _ _ _ h => h) (Or.inl ⟨by rfl, ?_⟩) ?_ ?_
                rotate_left
                ·intro w'
                 go_simp
                 with_reducible rfl
                rotate_left
                ·simp only [Act.put, List.setIfInBounds_toArray, List.set_cons_zero, List.set_cons_succ, i64_w, i32_w]
                 rfl
                refine pure_ (i := 8) (N := some 64) (v := ?_) (a' := ?_) #[true, true, true, true, true, true, true, true, true, false, false, false, false, false, false, false, false, false, false, false, false, false, false, false, false, false, false] rfl rfl (any_of HT_.out (by kernel_rfl)) (fun _ _ _ h => h) (Or.inl ⟨by rfl, ?_⟩) ?_ ?_
                rotate_left
                ·intro w'
                 go_simp
                 with_reducible rfl
                rotate_left
                ·simp only [Act.put, List.setIfInBounds_toArray, List.set_cons_zero, List.set_cons_succ, i64_w, i32_w]
                 rfl
                refine pure_ (i := 9) (N := some 65) (v := ?_) (a' := ?_) #[true, true, true, true, true, true, true, true, true, true, false, false, false, false, false, false, false, false, false, false, false, false, false, false, false, false, false] rfl rfl (any_of HT_.out (by kernel_rfl)) (fun _ _ _ h => h) (Or.inl ⟨by rfl, ?_⟩) ?_ ?_
                rotate_left
                ·intro w'
                 go_simp
                 with_reducible rfl
                rotate_left
                ·simp only [Act.put, List.setIfInBounds_toArray, List.set_cons_zero, List.set_cons_succ, i64_w, i32_w]
                 rfl
                refine pure_ (i := 10) (N := some 66) (v := ?_) (a' := ?_) #[true, true, true, true, true, true, true, true, true, true, true, false, false, false, false, false, false, false, false, false, false, false, false, false, false, false, false] rfl rfl (any_of HT_.out (by kernel_rfl)) (fun _ _ _ h => h) (Or.inl ⟨by rfl, ?_⟩) ?_ ?_
                rotate_left
                ·intro w'
                 go_simp
                 with_reducible rfl
                rotate_left
                ·simp only [Act.put, List.setIfInBounds_toArray, List.set_cons_zero, List.set_cons_succ, i64_w, i32_w]
                 rfl
                refine pure_ (i := 12) (N := some 68) (v := ?_) (a' := ?_) #[true, true, true, true, true, true, true, true, true, true, true, false, true, false, false, false, false, false, false, false, false, false, false, false, false, false, false] rfl rfl (any_of HT_.out (by kernel_rfl)) (fun _ _ _ h => h) (Or.inl ⟨by rfl, ?_⟩) ?_ ?_
                rotate_left
                ·intro w'
                 go_simp
                 with_reducible rfl
                rotate_left
                ·simp only [Act.put, List.setIfInBounds_toArray, List.set_cons_zero, List.set_cons_succ, i64_w, i32_w]
                 rfl
                refine pure_ (i := 13) (N := some 69) (v := ?_) (a' := ?_) #[true, true, true, true, true, true, true, true, true, true, true, false, true, true, false, false, false, false, false, false, false, false, false, false, false, false, false] rfl rfl (any_of HT_.out (by kernel_rfl)) (fun _ _ _ h => h) (Or.inl ⟨by rfl, ?_⟩) ?_ ?_
                rotate_left
                ·intro w'
                 go_simp
                 with_reducible rfl
                rotate_left
                ·simp only [Act.put, List.setIfInBounds_toArray, List.set_cons_zero, List.set_cons_succ, i64_w, i32_w]
                 rfl
                refine pure_ (i := 14) (N := some 70) (v := ?_) (a' := ?_) #[true, true, true, true, true, true, true, true, true, true, true, false, true, true, true, false, false, false, false, false, false, false, false, false, false, false, false] rfl rfl (any_of HT_.out (by kernel_rfl)) (fun _ _ _ h => h) (Or.inl ⟨by rfl, ?_⟩) ?_ ?_
                rotate_left
                ·intro w'
                 go_simp
                 with_reducible rfl
                rotate_left
                ·simp only [Act.put, List.setIfInBounds_toArray, List.set_cons_zero, List.set_cons_succ, i64_w, i32_w]
                 rfl
                refine take_ (i := 11) (N := some 67) (v := ?_) (a' := ?_) #[true, true, true, true, true, true, true, true, true, true, true, true, true, true, true, false, false, false, false, false, false, false, false, false, false, false, false] rfl rfl (take_ofW HT_.out HW_.out (by kernel_rfl)) (fun _ _ _ h => h) (Or.inl ⟨by rfl, ?_⟩) hHeld ?_ ?_
                rotate_left
                ·rintro w' ⟨s0, s1, s2, s3, s4, s5, s6, s7, s8, s9, s10, s11, s12, s13, s14, s15, s16, s17, s18, s19, s20, s21, s22, s23, s24, s25, s26⟩
                 go_simp
                 with_reducible rfl
                rotate_left
                ·simp only [Act.put, List.setIfInBounds_toArray, List.set_cons_zero, List.set_cons_succ, i64_w, i32_w]
                 rfl
                refine take_ (i := 15) (N := some 71) (v := ?_) (a' := ?_) #[true, true, true, true, true, true, true, true, true, true, true, true, true, true, true, true, false, false, false, false, false, false, false, false, false, false, false] rfl rfl (take_ofW HT_.out HW_.out (by kernel_rfl)) (fun _ _ _ h => h) (Or.inl ⟨by rfl, ?_⟩) hHeld ?_ ?_
                rotate_left
                ·rintro w' ⟨s0, s1, s2, s3, s4, s5, s6, s7, s8, s9, s10, s11, s12, s13, s14, s15, s16, s17, s18, s19, s20, s21, s22, s23, s24, s25, s26⟩
                 go_simp
                 with_reducible rfl
                rotate_left
                ·simp only [Act.put, List.setIfInBounds_toArray, List.set_cons_zero, List.set_cons_succ, i64_w, i32_w]
                 rfl
                refine one_ (i := 16) (N := some 72) #[true, true, true, true, true, true, true, true, true, true, true, true, true, true, true, true, true, false, false, false, false, false, false, false, false, false, false] rfl rfl (one_of HT_.out (by kernel_rfl)) (by decide) (fun K hK => ?_)
                refine goes_ Try.func24 (by kernel_rfl) rfl #[.agg #[.slice A0_0 l0_0.length c0_0, .slice A0_1 l0_1.length c0_1, .slice A0_2 l0_2.length c0_2, .slice A0_3 l0_3.length c0_3, .slice A0_4 l0_4.length c0_4], .agg #[.int .i64 ((rd_T32 t317 x8_3).f0), .int .i64 ((rd_T32 t317 x8_3).f1), .int .i64 ((rd_T32 t317 x8_3).f2), .int .i64 ((rd_T32 t317 x8_3).f3), .slice A342_4 ((rd_T32 t317 x8_3).f4).length c342_4, .string ((rd_T32 t317 x8_3).f5), .slice A342_6 ((rd_T32 t317 x8_3).f6).length c342_6]] (by rfl) rfl rfl (by (try simp only [List.map_toArray, List.map_cons, List.map_nil]); first | done | rfl | (simp only [List.length_drop, List.length_take]; rfl)) ?_
                with_reducible refine (arboristref46_Dissolves.calls _ _ l0_0 _ _ l0_1 _ _ l0_2 _ _ l0_3 _ _ l0_4 ((rd_T32 t317 x8_3).f0) ((rd_T32 t317 x8_3).f1) ((rd_T32 t317 x8_3).f2) ((rd_T32 t317 x8_3).f3) _ _ ((rd_T32 t317 x8_3).f4) ((rd_T32 t317 x8_3).f5) _ _ ((rd_T32 t317 x8_3).f6) false _ ?side1 ?side2 ?side3 ?side4 ?side5 ?side6 ?side7 ?side8 ?side9 ?side10 ?side11 ?side12 ?side13 ?side14 A41.out).mono ?_
                (case side1 => repeat (first | exact (Kd.C_below HR0_0.out HB.out) | (with_reducible refine Kd.C_alloc ?_ _) | (with_reducible refine Kd.C_drewN ?_ _) | (with_reducible refine Kd.C_drew ?_)))
                (case side2 => exact HC0_0.out)
                (case side3 => repeat (first | exact (Kd.C_below HR0_1.out HB.out) | (with_reducible refine Kd.C_alloc ?_ _) | (with_reducible refine Kd.C_drewN ?_ _) | (with_reducible refine Kd.C_drew ?_)))
                (case side4 => exact HC0_1.out)
                (case side5 => repeat (first | exact (Kd.C_below HR0_2.out HB.out) | (with_reducible refine Kd.C_alloc ?_ _) | (with_reducible refine Kd.C_drewN ?_ _) | (with_reducible refine Kd.C_drew ?_)))
                (case side6 => exact HC0_2.out)
                (case side7 => repeat (first | exact (Kd.C_below HR0_3.out HB.out) | (with_reducible refine Kd.C_alloc ?_ _) | (with_reducible refine Kd.C_drewN ?_ _) | (with_reducible refine Kd.C_drew ?_)))
                (case side8 => exact HC0_3.out)
                (case side9 => repeat (first | exact (Kd.C_below HR0_4.out HB.out) | (with_reducible refine Kd.C_alloc ?_ _) | (with_reducible refine Kd.C_drewN ?_ _) | (with_reducible refine Kd.C_drew ?_)))
                (case side10 => exact HC0_4.out)
                (case side11 => repeat (first | exact (by repeat (first | (with_reducible exact HR342_4.out) | (with_reducible refine Kd.C_alloc ?_ _) | (with_reducible refine Kd.C_drewN ?_ _) | (with_reducible refine Kd.C_drew ?_) | exact HR342_4.out)) | (with_reducible refine Kd.C_alloc ?_ _) | (with_reducible refine Kd.C_drewN ?_ _) | (with_reducible refine Kd.C_drew ?_)))
                (case side12 => exact HC342_4.out)
                (case side13 => repeat (first | exact (by repeat (first | (with_reducible exact HR342_6.out) | (with_reducible refine Kd.C_alloc ?_ _) | (with_reducible refine Kd.C_drewN ?_ _) | (with_reducible refine Kd.C_drew ?_) | exact HR342_6.out)) | (with_reducible refine Kd.C_alloc ?_ _) | (with_reducible refine Kd.C_drewN ?_ _) | (with_reducible refine Kd.C_drew ?_)))
                (case side14 => exact HC342_6.out)
                rintro e w62 ⟨rfl, hb⟩
                have HS12_ := (hb.cell (World.block_lt_of_cell? _ _ (hHeld.2.2.2.2.2.2.2.2.2.2.2.2.1))).trans (hHeld.2.2.2.2.2.2.2.2.2.2.2.2.1)
                have HS13_ := (hb.cell (World.block_lt_of_cell? _ _ (hHeld.2.2.2.2.2.2.2.2.2.2.2.2.2.1))).trans (hHeld.2.2.2.2.2.2.2.2.2.2.2.2.2.1)
                have HS14_ := (hb.cell (World.block_lt_of_cell? _ _ (hHeld.2.2.2.2.2.2.2.2.2.2.2.2.2.2.1))).trans (hHeld.2.2.2.2.2.2.2.2.2.2.2.2.2.2.1)
                have HS15_ := (hb.cell (World.block_lt_of_cell? _ _ (hHeld.2.2.2.2.2.2.2.2.2.2.2.2.2.2.2.1))).trans (hHeld.2.2.2.2.2.2.2.2.2.2.2.2.2.2.2.1)
                have HS16_ := (hb.cell (World.block_lt_of_cell? _ _ (hHeld.2.2.2.2.2.2.2.2.2.2.2.2.2.2.2.2.1))).trans (hHeld.2.2.2.2.2.2.2.2.2.2.2.2.2.2.2.2.1)
                have HS17_ := (hb.cell (World.block_lt_of_cell? _ _ (hHeld.2.2.2.2.2.2.2.2.2.2.2.2.2.2.2.2.2.1))).trans (hHeld.2.2.2.2.2.2.2.2.2.2.2.2.2.2.2.2.2.1)
                have HS18_ := (hb.cell (World.block_lt_of_cell? _ _ (hHeld.2.2.2.2.2.2.2.2.2.2.2.2.2.2.2.2.2.2.1))).trans (hHeld.2.2.2.2.2.2.2.2.2.2.2.2.2.2.2.2.2.2.1)
                have HS19_ := (hb.cell (World.block_lt_of_cell? _ _ (hHeld.2.2.2.2.2.2.2.2.2.2.2.2.2.2.2.2.2.2.2.1))).trans (hHeld.2.2.2.2.2.2.2.2.2.2.2.2.2.2.2.2.2.2.2.1)
                have HS20_ := (hb.cell (World.block_lt_of_cell? _ _ (hHeld.2.2.2.2.2.2.2.2.2.2.2.2.2.2.2.2.2.2.2.2.1))).trans (hHeld.2.2.2.2.2.2.2.2.2.2.2.2.2.2.2.2.2.2.2.2.1)
                have HS21_ := (hb.cell (World.block_lt_of_cell? _ _ (hHeld.2.2.2.2.2.2.2.2.2.2.2.2.2.2.2.2.2.2.2.2.2.1))).trans (hHeld.2.2.2.2.2.2.2.2.2.2.2.2.2.2.2.2.2.2.2.2.2.1)
                have HS22_ := (hb.cell (World.block_lt_of_cell? _ _ (hHeld.2.2.2.2.2.2.2.2.2.2.2.2.2.2.2.2.2.2.2.2.2.2.1))).trans (hHeld.2.2.2.2.2.2.2.2.2.2.2.2.2.2.2.2.2.2.2.2.2.2.1)
                have HS23_ := (hb.cell (World.block_lt_of_cell? _ _ (hHeld.2.2.2.2.2.2.2.2.2.2.2.2.2.2.2.2.2.2.2.2.2.2.2.1))).trans (hHeld.2.2.2.2.2.2.2.2.2.2.2.2.2.2.2.2.2.2.2.2.2.2.2.1)
                have HS24_ := (hb.cell (World.block_lt_of_cell? _ _ (hHeld.2.2.2.2.2.2.2.2.2.2.2.2.2.2.2.2.2.2.2.2.2.2.2.2.1))).trans (hHeld.2.2.2.2.2.2.2.2.2.2.2.2.2.2.2.2.2.2.2.2.2.2.2.2.1)
                have HS25_ := (hb.cell (World.block_lt_of_cell? _ _ (hHeld.2.2.2.2.2.2.2.2.2.2.2.2.2.2.2.2.2.2.2.2.2.2.2.2.2.1))).trans (hHeld.2.2.2.2.2.2.2.2.2.2.2.2.2.2.2.2.2.2.2.2.2.2.2.2.2.1)
                have HS26_ := (hb.cell (World.block_lt_of_cell? _ _ (hHeld.2.2.2.2.2.2.2.2.2.2.2.2.2.2.2.2.2.2.2.2.2.2.2.2.2.2))).trans (hHeld.2.2.2.2.2.2.2.2.2.2.2.2.2.2.2.2.2.2.2.2.2.2.2.2.2.2)
                refine ⟨_, rfl, ?_⟩
                have n0_ := Az.mk (Kd.R_below (by (with_reducible repeat (first | apply Kd.R_alloc | apply Kd.R_drewN | apply Kd.R_drew)); exact HO_5.out) hb)
                have n1_ := Az.mk (Kd.S_below (by (with_reducible repeat (first | apply Kd.S_alloc | apply Kd.S_drewN | apply Kd.S_drew)); exact HO_6.out) hb)
                have n2_ := Az.mk (Kd.R_below (by (with_reducible repeat (first | apply Kd.R_alloc | apply Kd.R_drewN | apply Kd.R_drew)); exact HL327_0.out) hb)
                have n3_ := Az.mk (Kd.V_below (by (with_reducible repeat (first | apply Kd.V_alloc | apply Kd.V_drewN | apply Kd.V_drew)); exact HO334.out) hb)
                have n4_ := Az.mk (Kd.V_below (by (with_reducible repeat (first | apply Kd.V_alloc | apply Kd.V_drewN | apply Kd.V_drew)); exact HO338.out) hb)
                have n5_ := Az.mk (Kd.R_below (by (with_reducible repeat (first | apply Kd.R_alloc | apply Kd.R_drewN | apply Kd.R_drew)); exact HL341_0.out) hb)
                have n6_ := Az.mk (Kd.R_below (by (with_reducible repeat (first | apply Kd.R_alloc | apply Kd.R_drewN | apply Kd.R_drew)); exact HL342_4.out) hb)
                have n7_ := Az.mk (Kd.R_below (by (with_reducible repeat (first | apply Kd.R_alloc | apply Kd.R_drewN | apply Kd.R_drew)); exact HL342_6.out) hb)
                have n8_ := Az.mk (kB_ (g := gb312) (o := .cells #[.slice A0_0 l0_0.length c0_0, .slice A0_1 l0_1.length c0_1, .slice A0_2 l0_2.length c0_2, .slice A0_3 l0_3.length c0_3, .slice A0_4 l0_4.length c0_4] 27 (0, 0)) (by (with_reducible repeat (first | refine kN_ ?_ _ | refine kD_ ?_ | refine kA_ ?_ _)); exact BK312.out) hb)
                have n9_ := Az.mk (kB_ (g := gb313) (o := .cells #[.int .i64 a1_0, .int .i64 a1_1, .int .i64 a1_2, .int .i64 a1_3, .slice A1_4 l1_4.length c1_4, .string a1_5, .slice A1_6 l1_6.length c1_6] 32 (0, 0)) (by (with_reducible repeat (first | refine kN_ ?_ _ | refine kD_ ?_ | refine kA_ ?_ _)); exact BK313.out) hb)
                have n10_ := Az.mk (kB_ (g := gb340) (o := .cells #[.int .i64 t328, .int .i64 t329, .int .i64 t330, .int .i64 t331, .slice Ao54 t332.length co54, .string t335, .slice Ao57 t336.length co57] 32 (0, 0)) (by (with_reducible repeat (first | refine kN_ ?_ _ | refine kD_ ?_ | refine kA_ ?_ _)); exact BK340.out) hb)
                have n11_ := Az.mk (Kd.C_below (by repeat (first | (with_reducible exact HR341_0.out) | (with_reducible refine Kd.C_alloc ?_ _) | (with_reducible refine Kd.C_drewN ?_ _) | (with_reducible refine Kd.C_drew ?_) | exact HR341_0.out)) hb)
                have n12_ := Az.mk (Kd.C_below (by repeat (first | (with_reducible exact HR342_4.out) | (with_reducible refine Kd.C_alloc ?_ _) | (with_reducible refine Kd.C_drewN ?_ _) | (with_reducible refine Kd.C_drew ?_) | exact HR342_4.out)) hb)
                have n13_ := Az.mk (Kd.C_below (by repeat (first | (with_reducible exact HR342_6.out) | (with_reducible refine Kd.C_alloc ?_ _) | (with_reducible refine Kd.C_drewN ?_ _) | (with_reducible refine Kd.C_drew ?_) | exact HR342_6.out)) hb)
                have n14_ := Az.mk (bT_ (by repeat (first | (with_reducible first | exact HB.out | apply bA_ | apply bN_ | apply bD_ | refine bS_ ?_ GE312.out | refine bS_ ?_ GE313.out | refine bS_ ?_ GE340.out) | exact HB.out)) hb)
                clear HO_5
                clear HO_6
                clear HL327_0
                clear HO334
                clear HO338
                clear HL341_0
                clear HL342_4
                clear HL342_6
                clear BK312
                clear BK313
                clear BK340
                clear HR341_0
                clear HR342_4
                clear HR342_6
                clear HB
                have HO_5 := n0_
                have HO_6 := n1_
                have HL327_0 := n2_
                have HO334 := n3_
                have HO338 := n4_
                have HL341_0 := n5_
                have HL342_4 := n6_
                have HL342_6 := n7_
                have BK312 := n8_
                have BK313 := n9_
                have BK340 := n10_
                have HR341_0 := n11_
                have HR342_4 := n12_
                have HR342_6 := n13_
                have HB := n14_
                clear n0_ n1_ n2_ n3_ n4_ n5_ n6_ n7_ n8_ n9_ n10_ n11_ n12_ n13_ n14_
                (try clear hb)
                (try clear hb2)
                (try clear hk)
                (try clear hi)
                have HR344_4 := HR342_4
                have HC344_4 := HC342_4
                have HR344_6 := HR342_6
                have HC344_6 := HC342_6
                refine hK.out _ _ ⟨(bC_ BK312.out 0).trans rfl, (bC_ BK312.out 1).trans rfl, (bC_ BK312.out 2).trans rfl, (bC_ BK312.out 3).trans rfl, (bC_ BK312.out 4).trans rfl, (bC_ BK340.out 0).trans rfl, (bC_ BK340.out 1).trans rfl, (bC_ BK340.out 2).trans rfl, (bC_ BK340.out 3).trans rfl, (bC_ BK340.out 4).trans rfl, (bC_ BK340.out 5).trans rfl, (bC_ BK340.out 6).trans rfl, HS12_, HS13_, HS14_, HS15_, HS16_, HS17_, HS18_, HS19_, HS20_, HS21_, HS22_, HS23_, HS24_, HS25_, HS26_⟩ (fun hHeld => ?_)
                clear hK K
                refine norm_ (a' := ?_) ?_ ?_
                rotate_left
                ·show Act.put _ (some 72) _ = _
                 simp only [Act.put, List.setIfInBounds_toArray, List.set_cons_zero, List.set_cons_succ, i64_w, i32_w]
                 rfl
                refine pure_ (i := 17) (N := some 73) (v := ?_) (a' := ?_) #[true, true, true, true, true, true, true, true, true, true, true, true, true, true, true, true, true, true, false, false, false, false, false, false, false, false, false] rfl rfl (any_of HT_.out (by kernel_rfl)) (fun _ _ _ h => h) (Or.inl ⟨by rfl, ?_⟩) ?_ ?_
                rotate_left
                ·intro w'
                 go_simp
                 with_reducible rfl
                rotate_left
                ·simp only [Act.put, List.setIfInBounds_toArray, List.set_cons_zero, List.set_cons_succ, i64_w, i32_w]
                 rfl
                refine pure_ (i := 18) (N := some 74) (v := ?_) (a' := ?_) #[true, true, true, true, true, true, true, true, true, true, true, true, true, true, true, true, true, true, true, false, false, false, false, false, false, false, false] rfl rfl (any_of HT_.out (by kernel_rfl)) (fun _ _ _ h => h) (Or.inl ⟨by rfl, ?_⟩) ?_ ?_
                rotate_left
                ·intro w'
                 go_simp
                 with_reducible rfl
                rotate_left
                ·simp only [Act.put, List.setIfInBounds_toArray, List.set_cons_zero, List.set_cons_succ, i64_w, i32_w]
                 rfl
                refine pure_ (i := 20) (N := some 76) (v := ?_) (a' := ?_) #[true, true, true, true, true, true, true, true, true, true, true, true, true, true, true, true, true, true, true, false, true, false, false, false, false, false, false] rfl rfl (any_of HT_.out (by kernel_rfl)) (fun _ _ _ h => h) (Or.inl ⟨by rfl, ?_⟩) ?_ ?_
                rotate_left
                ·intro w'
                 go_simp
                 with_reducible rfl
                rotate_left
                ·simp only [Act.put, List.setIfInBounds_toArray, List.set_cons_zero, List.set_cons_succ, i64_w, i32_w]
                 rfl
                refine pure_ (i := 21) (N := some 77) (v := ?_) (a' := ?_) #[true, true, true, true, true, true, true, true, true, true, true, true, true, true, true, true, true, true, true, false, true, true, false, false, false, false, false] rfl rfl (any_of HT_.out (by kernel_rfl)) (fun _ _ _ h => h) (Or.inl ⟨by rfl, ?_⟩) ?_ ?_
                rotate_left
                ·intro w'
                 go_simp
                 with_reducible rfl
                rotate_left
                ·simp only [Act.put, List.setIfInBounds_toArray, List.set_cons_zero, List.set_cons_succ, i64_w, i32_w]
                 rfl
                refine pure_ (i := 22) (N := some 78) (v := ?_) (a' := ?_) #[true, true, true, true, true, true, true, true, true, true, true, true, true, true, true, true, true, true, true, false, true, true, true, false, false, false, false] rfl rfl (any_of HT_.out (by kernel_rfl)) (fun _ _ _ h => h) (Or.inl ⟨by rfl, ?_⟩) ?_ ?_
                rotate_left
                ·intro w'
                 go_simp
                 with_reducible rfl
                rotate_left
                ·simp only [Act.put, List.setIfInBounds_toArray, List.set_cons_zero, List.set_cons_succ, i64_w, i32_w]
                 rfl
                refine take_ (i := 19) (N := some 75) (v := ?_) (a' := ?_) #[true, true, true, true, true, true, true, true, true, true, true, true, true, true, true, true, true, true, true, true, true, true, true, false, false, false, false] rfl rfl (take_ofW HT_.out HW_.out (by kernel_rfl)) (fun _ _ _ h => h) (Or.inl ⟨by rfl, ?_⟩) hHeld ?_ ?_
                rotate_left
                ·rintro w' ⟨s0, s1, s2, s3, s4, s5, s6, s7, s8, s9, s10, s11, s12, s13, s14, s15, s16, s17, s18, s19, s20, s21, s22, s23, s24, s25, s26⟩
                 go_simp
                 with_reducible rfl
                rotate_left
                ·simp only [Act.put, List.setIfInBounds_toArray, List.set_cons_zero, List.set_cons_succ, i64_w, i32_w]
                 rfl
                refine take_ (i := 23) (N := some 79) (v := ?_) (a' := ?_) #[true, true, true, true, true, true, true, true, true, true, true, true, true, true, true, true, true, true, true, true, true, true, true, true, false, false, false] rfl rfl (take_ofW HT_.out HW_.out (by kernel_rfl)) (fun _ _ _ h => h) (Or.inl ⟨by rfl, ?_⟩) hHeld ?_ ?_
                rotate_left
                ·rintro w' ⟨s0, s1, s2, s3, s4, s5, s6, s7, s8, s9, s10, s11, s12, s13, s14, s15, s16, s17, s18, s19, s20, s21, s22, s23, s24, s25, s26⟩
                 go_simp
                 with_reducible rfl
                rotate_left
                ·simp only [Act.put, List.setIfInBounds_toArray, List.set_cons_zero, List.set_cons_succ, i64_w, i32_w]
                 rfl
                refine one_ (i := 24) (N := some 80) #[true, true, true, true, true, true, true, true, true, true, true, true, true, true, true, true, true, true, true, true, true, true, true, true, true, false, false] rfl rfl (one_of HT_.out (by kernel_rfl)) (by decide) (fun K hK => ?_)
                refine goes_ Try.func25 (by kernel_rfl) rfl #[.agg #[.int .i64 t328, .int .i64 t329, .int .i64 t330, .int .i64 t331, .slice Ao54 t332.length co54, .string t335, .slice Ao57 t336.length co57], .agg #[.int .i64 ((rd_T32 t317 x8_3).f0), .int .i64 ((rd_T32 t317 x8_3).f1), .int .i64 ((rd_T32 t317 x8_3).f2), .int .i64 ((rd_T32 t317 x8_3).f3), .slice A342_4 ((rd_T32 t317 x8_3).f4).length c342_4, .string ((rd_T32 t317 x8_3).f5), .slice A342_6 ((rd_T32 t317 x8_3).f6).length c342_6]] (by rfl) rfl rfl (by (try simp only [List.map_toArray, List.map_cons, List.map_nil]); first | done | rfl | (simp only [List.length_drop, List.length_take]; rfl)) ?_
                with_reducible refine (arboristref42_Same.calls k3 t328 t329 t330 t331 _ _ t332 t335 _ _ t336 ((rd_T32 t317 x8_3).f0) ((rd_T32 t317 x8_3).f1) ((rd_T32 t317 x8_3).f2) ((rd_T32 t317 x8_3).f3) _ _ ((rd_T32 t317 x8_3).f4) ((rd_T32 t317 x8_3).f5) _ _ ((rd_T32 t317 x8_3).f6) true _ ?side1 ?side2 ?side3 ?side4 ?side5 ?side6 ?side7 ?side8 A43.out).mono ?_
                (case side1 => repeat (first | exact (Kd.V_reads' HO334.out).2.2 | (with_reducible refine Kd.C_alloc ?_ _) | (with_reducible refine Kd.C_drewN ?_ _) | (with_reducible refine Kd.C_drew ?_)))
                (case side2 => exact (Kd.V_reads' HO334.out).2.1)
                (case side3 => repeat (first | exact (Kd.V_reads' HO338.out).2.2 | (with_reducible refine Kd.C_alloc ?_ _) | (with_reducible refine Kd.C_drewN ?_ _) | (with_reducible refine Kd.C_drew ?_)))
                (case side4 => exact (Kd.V_reads' HO338.out).2.1)
                (case side5 => repeat (first | exact (by repeat (first | (with_reducible exact HR344_4.out) | (with_reducible refine Kd.C_alloc ?_ _) | (with_reducible refine Kd.C_drewN ?_ _) | (with_reducible refine Kd.C_drew ?_) | exact HR344_4.out)) | (with_reducible refine Kd.C_alloc ?_ _) | (with_reducible refine Kd.C_drewN ?_ _) | (with_reducible refine Kd.C_drew ?_)))
                (case side6 => exact HC344_4.out)
                (case side7 => repeat (first | exact (by repeat (first | (with_reducible exact HR344_6.out) | (with_reducible refine Kd.C_alloc ?_ _) | (with_reducible refine Kd.C_drewN ?_ _) | (with_reducible refine Kd.C_drew ?_) | exact HR344_6.out)) | (with_reducible refine Kd.C_alloc ?_ _) | (with_reducible refine Kd.C_drewN ?_ _) | (with_reducible refine Kd.C_drew ?_)))
                (case side8 => exact HC344_6.out)
                rintro e w63 ⟨rfl, hb⟩
                have HS12_ := (hb.cell (World.block_lt_of_cell? _ _ (hHeld.2.2.2.2.2.2.2.2.2.2.2.2.1))).trans (hHeld.2.2.2.2.2.2.2.2.2.2.2.2.1)
                have HS13_ := (hb.cell (World.block_lt_of_cell? _ _ (hHeld.2.2.2.2.2.2.2.2.2.2.2.2.2.1))).trans (hHeld.2.2.2.2.2.2.2.2.2.2.2.2.2.1)
                have HS14_ := (hb.cell (World.block_lt_of_cell? _ _ (hHeld.2.2.2.2.2.2.2.2.2.2.2.2.2.2.1))).trans (hHeld.2.2.2.2.2.2.2.2.2.2.2.2.2.2.1)
                have HS15_ := (hb.cell (World.block_lt_of_cell? _ _ (hHeld.2.2.2.2.2.2.2.2.2.2.2.2.2.2.2.1))).trans (hHeld.2.2.2.2.2.2.2.2.2.2.2.2.2.2.2.1)
                have HS16_ := (hb.cell (World.block_lt_of_cell? _ _ (hHeld.2.2.2.2.2.2.2.2.2.2.2.2.2.2.2.2.1))).trans (hHeld.2.2.2.2.2.2.2.2.2.2.2.2.2.2.2.2.1)
                have HS17_ := (hb.cell (World.block_lt_of_cell? _ _ (hHeld.2.2.2.2.2.2.2.2.2.2.2.2.2.2.2.2.2.1))).trans (hHeld.2.2.2.2.2.2.2.2.2.2.2.2.2.2.2.2.2.1)
                have HS18_ := (hb.cell (World.block_lt_of_cell? _ _ (hHeld.2.2.2.2.2.2.2.2.2.2.2.2.2.2.2.2.2.2.1))).trans (hHeld.2.2.2.2.2.2.2.2.2.2.2.2.2.2.2.2.2.2.1)
                have HS19_ := (hb.cell (World.block_lt_of_cell? _ _ (hHeld.2.2.2.2.2.2.2.2.2.2.2.2.2.2.2.2.2.2.2.1))).trans (hHeld.2.2.2.2.2.2.2.2.2.2.2.2.2.2.2.2.2.2.2.1)
                have HS20_ := (hb.cell (World.block_lt_of_cell? _ _ (hHeld.2.2.2.2.2.2.2.2.2.2.2.2.2.2.2.2.2.2.2.2.1))).trans (hHeld.2.2.2.2.2.2.2.2.2.2.2.2.2.2.2.2.2.2.2.2.1)
                have HS21_ := (hb.cell (World.block_lt_of_cell? _ _ (hHeld.2.2.2.2.2.2.2.2.2.2.2.2.2.2.2.2.2.2.2.2.2.1))).trans (hHeld.2.2.2.2.2.2.2.2.2.2.2.2.2.2.2.2.2.2.2.2.2.1)
                have HS22_ := (hb.cell (World.block_lt_of_cell? _ _ (hHeld.2.2.2.2.2.2.2.2.2.2.2.2.2.2.2.2.2.2.2.2.2.2.1))).trans (hHeld.2.2.2.2.2.2.2.2.2.2.2.2.2.2.2.2.2.2.2.2.2.2.1)
                have HS23_ := (hb.cell (World.block_lt_of_cell? _ _ (hHeld.2.2.2.2.2.2.2.2.2.2.2.2.2.2.2.2.2.2.2.2.2.2.2.1))).trans (hHeld.2.2.2.2.2.2.2.2.2.2.2.2.2.2.2.2.2.2.2.2.2.2.2.1)
                have HS24_ := (hb.cell (World.block_lt_of_cell? _ _ (hHeld.2.2.2.2.2.2.2.2.2.2.2.2.2.2.2.2.2.2.2.2.2.2.2.2.1))).trans (hHeld.2.2.2.2.2.2.2.2.2.2.2.2.2.2.2.2.2.2.2.2.2.2.2.2.1)
                have HS25_ := (hb.cell (World.block_lt_of_cell? _ _ (hHeld.2.2.2.2.2.2.2.2.2.2.2.2.2.2.2.2.2.2.2.2.2.2.2.2.2.1))).trans (hHeld.2.2.2.2.2.2.2.2.2.2.2.2.2.2.2.2.2.2.2.2.2.2.2.2.2.1)
                have HS26_ := (hb.cell (World.block_lt_of_cell? _ _ (hHeld.2.2.2.2.2.2.2.2.2.2.2.2.2.2.2.2.2.2.2.2.2.2.2.2.2.2))).trans (hHeld.2.2.2.2.2.2.2.2.2.2.2.2.2.2.2.2.2.2.2.2.2.2.2.2.2.2)
                refine ⟨_, rfl, ?_⟩
                have n0_ := Az.mk (Kd.R_below (by (with_reducible repeat (first | apply Kd.R_alloc | apply Kd.R_drewN | apply Kd.R_drew)); exact HO_5.out) hb)
                have n1_ := Az.mk (Kd.S_below (by (with_reducible repeat (first | apply Kd.S_alloc | apply Kd.S_drewN | apply Kd.S_drew)); exact HO_6.out) hb)
                have n2_ := Az.mk (Kd.R_below (by (with_reducible repeat (first | apply Kd.R_alloc | apply Kd.R_drewN | apply Kd.R_drew)); exact HL327_0.out) hb)
                have n3_ := Az.mk (Kd.V_below (by (with_reducible repeat (first | apply Kd.V_alloc | apply Kd.V_drewN | apply Kd.V_drew)); exact HO334.out) hb)
                have n4_ := Az.mk (Kd.V_below (by (with_reducible repeat (first | apply Kd.V_alloc | apply Kd.V_drewN | apply Kd.V_drew)); exact HO338.out) hb)
                have n5_ := Az.mk (Kd.R_below (by (with_reducible repeat (first | apply Kd.R_alloc | apply Kd.R_drewN | apply Kd.R_drew)); exact HL341_0.out) hb)
                have n6_ := Az.mk (Kd.R_below (by (with_reducible repeat (first | apply Kd.R_alloc | apply Kd.R_drewN | apply Kd.R_drew)); exact HL342_4.out) hb)
                have n7_ := Az.mk (Kd.R_below (by (with_reducible repeat (first | apply Kd.R_alloc | apply Kd.R_drewN | apply Kd.R_drew)); exact HL342_6.out) hb)
                have n8_ := Az.mk (kB_ (g := gb312) (o := .cells #[.slice A0_0 l0_0.length c0_0, .slice A0_1 l0_1.length c0_1, .slice A0_2 l0_2.length c0_2, .slice A0_3 l0_3.length c0_3, .slice A0_4 l0_4.length c0_4] 27 (0, 0)) (by (with_reducible repeat (first | refine kN_ ?_ _ | refine kD_ ?_ | refine kA_ ?_ _)); exact BK312.out) hb)
                have n9_ := Az.mk (kB_ (g := gb313) (o := .cells #[.int .i64 a1_0, .int .i64 a1_1, .int .i64 a1_2, .int .i64 a1_3, .slice A1_4 l1_4.length c1_4, .string a1_5, .slice A1_6 l1_6.length c1_6] 32 (0, 0)) (by (with_reducible repeat (first | refine kN_ ?_ _ | refine kD_ ?_ | refine kA_ ?_ _)); exact BK313.out) hb)
                have n10_ := Az.mk (kB_ (g := gb340) (o := .cells #[.int .i64 t328, .int .i64 t329, .int .i64 t330, .int .i64 t331, .slice Ao54 t332.length co54, .string t335, .slice Ao57 t336.length co57] 32 (0, 0)) (by (with_reducible repeat (first | refine kN_ ?_ _ | refine kD_ ?_ | refine kA_ ?_ _)); exact BK340.out) hb)
                have n11_ := Az.mk (Kd.C_below (by repeat (first | (with_reducible exact HR341_0.out) | (with_reducible refine Kd.C_alloc ?_ _) | (with_reducible refine Kd.C_drewN ?_ _) | (with_reducible refine Kd.C_drew ?_) | exact HR341_0.out)) hb)
                have n12_ := Az.mk (Kd.C_below (by repeat (first | (with_reducible exact HR342_4.out) | (with_reducible refine Kd.C_alloc ?_ _) | (with_reducible refine Kd.C_drewN ?_ _) | (with_reducible refine Kd.C_drew ?_) | exact HR342_4.out)) hb)
                have n13_ := Az.mk (Kd.C_below (by repeat (first | (with_reducible exact HR342_6.out) | (with_reducible refine Kd.C_alloc ?_ _) | (with_reducible refine Kd.C_drewN ?_ _) | (with_reducible refine Kd.C_drew ?_) | exact HR342_6.out)) hb)
                have n14_ := Az.mk (Kd.C_below (by repeat (first | (with_reducible exact HR344_4.out) | (with_reducible refine Kd.C_alloc ?_ _) | (with_reducible refine Kd.C_drewN ?_ _) | (with_reducible refine Kd.C_drew ?_) | exact HR344_4.out)) hb)
                have n15_ := Az.mk (Kd.C_below (by repeat (first | (with_reducible exact HR344_6.out) | (with_reducible refine Kd.C_alloc ?_ _) | (with_reducible refine Kd.C_drewN ?_ _) | (with_reducible refine Kd.C_drew ?_) | exact HR344_6.out)) hb)
                have n16_ := Az.mk (bT_ (by repeat (first | (with_reducible first | exact HB.out | apply bA_ | apply bN_ | apply bD_ | refine bS_ ?_ GE312.out | refine bS_ ?_ GE313.out | refine bS_ ?_ GE340.out) | exact HB.out)) hb)
                clear HO_5
                clear HO_6
                clear HL327_0
                clear HO334
                clear HO338
                clear HL341_0
                clear HL342_4
                clear HL342_6
                clear BK312
                clear BK313
                clear BK340
                clear HR341_0
                clear HR342_4
                clear HR342_6
                clear HR344_4
                clear HR344_6
                clear HB
                have HO_5 := n0_
                have HO_6 := n1_
                have HL327_0 := n2_
                have HO334 := n3_
                have HO338 := n4_
                have HL341_0 := n5_
                have HL342_4 := n6_
                have HL342_6 := n7_
                have BK312 := n8_
                have BK313 := n9_
                have BK340 := n10_
                have HR341_0 := n11_
                have HR342_4 := n12_
                have HR342_6 := n13_
                have HR344_4 := n14_
                have HR344_6 := n15_
                have HB := n16_
                clear n0_ n1_ n2_ n3_ n4_ n5_ n6_ n7_ n8_ n9_ n10_ n11_ n12_ n13_ n14_ n15_ n16_
                (try clear hb)
                (try clear hb2)
                (try clear hk)
                (try clear hi)
                refine hK.out _ _ ⟨(bC_ BK312.out 0).trans rfl, (bC_ BK312.out 1).trans rfl, (bC_ BK312.out 2).trans rfl, (bC_ BK312.out 3).trans rfl, (bC_ BK312.out 4).trans rfl, (bC_ BK340.out 0).trans rfl, (bC_ BK340.out 1).trans rfl, (bC_ BK340.out 2).trans rfl, (bC_ BK340.out 3).trans rfl, (bC_ BK340.out 4).trans rfl, (bC_ BK340.out 5).trans rfl, (bC_ BK340.out 6).trans rfl, HS12_, HS13_, HS14_, HS15_, HS16_, HS17_, HS18_, HS19_, HS20_, HS21_, HS22_, HS23_, HS24_, HS25_, HS26_⟩ (fun hHeld => ?_)
                clear hK K
                refine norm_ (a' := ?_) ?_ ?_
                rotate_left
                ·show Act.put _ (some 80) _ = _
                 simp only [Act.put, List.setIfInBounds_toArray, List.set_cons_zero, List.set_cons_succ, i64_w, i32_w]
                 rfl
                refine pure_ (i := 25) (N := some 81) (v := ?_) (a' := ?_) #[true, true, true, true, true, true, true, true, true, true, true, true, true, true, true, true, true, true, true, true, true, true, true, true, true, true, false] rfl rfl (any_of HT_.out (by kernel_rfl)) (fun _ _ _ h => h) (Or.inl ⟨by rfl, ?_⟩) ?_ ?_
                rotate_left
                ·intro w'
                 go_simp
                 with_reducible rfl
                rotate_left
                ·simp only [Act.put, List.setIfInBounds_toArray, List.set_cons_zero, List.set_cons_succ, i64_w, i32_w]
                 rfl
                refine pure_ (i := 26) (N := some 82) (v := ?_) (a' := ?_) #[true, true, true, true, true, true, true, true, true, true, true, true, true, true, true, true, true, true, true, true, true, true, true, true, true, true, true] rfl rfl (any_of HT_.out (by kernel_rfl)) (fun _ _ _ h => h) (Or.inl ⟨by rfl, ?_⟩) ?_ ?_
                rotate_left
                ·intro w'
                 go_simp
                 with_reducible rfl
                rotate_left
                ·simp only [Act.put, List.setIfInBounds_toArray, List.set_cons_zero, List.set_cons_succ, i64_w, i32_w]
                 rfl
                refine done_ (done_of HT_.out (by kernel_rfl)) ?_
                try go_wp2
                go_roundg k3
                case measure => have := HJ2.out; have := HJ22.out; have := HK3.out; omega
                case rel => exact ⟨(wrap64 (x8_3 + 1)), (by first | rfl | (simp; done) | (simp [*]; done) | (refine congrArg Value.bool ?_; exact isE_ _)), H', ⟨by have := HJ2.out; have := HJ22.out; have := HK3.out; omega⟩, ⟨by (with_reducible repeat (first | apply Kd.R_alloc | apply Kd.R_drewN | apply Kd.R_drew)); exact Kd.R_mono HO_5.out (fun _ hk => hk.1)⟩, ⟨by (with_reducible repeat (first | apply Kd.S_alloc | apply Kd.S_drewN | apply Kd.S_drew)); exact HO_6.out⟩, ⟨by (with_reducible repeat (first | refine kN_ ?_ _ | refine kD_ ?_ | refine kA_ ?_ _)); exact BK312.out⟩, ⟨by (with_reducible repeat (first | refine kN_ ?_ _ | refine kD_ ?_ | refine kA_ ?_ _)); exact BK313.out⟩, ⟨by repeat (first | (with_reducible first | exact HB.out | apply bA_ | apply bN_ | apply bD_ | refine bS_ ?_ GE312.out | refine bS_ ?_ GE313.out | refine bS_ ?_ GE340.out) | exact HB.out)⟩⟩
               ·replace c44 := Bool.eq_false_iff.mpr c44
                subst c44
                have H1 : (some false) = some r := by rw [if_neg (show ¬ (false = true) by decide)] at H; exact H
                clear H
                have H := H1
                clear H1
                exact absurd ((Option.some.inj H).trans HT.out) (by decide)
             ·rw [if_neg c40] at H
              exact absurd H (by simp)
           ·replace c38 := Bool.eq_false_iff.mpr c38
            subst c38
            have H1 : (some false) = some r := by rw [if_neg (show ¬ (false = true) by decide)] at H; exact H
            clear H
            have H := H1
            clear H1
            exact absurd ((Option.some.inj H).trans HT.out) (by decide)
          ·rw [if_neg c36] at H
           exact absurd H (by simp)
         ·rw [if_neg c35] at H
          have c35b0 : decide (x8_3 < (t320.length : Int)) = false := decide_eq_false c35
          clear c35
          replace H := Option.bind_eq_some_iff.mp H
          obtain ⟨t326, A640, H⟩ := H
          replace H : (some t326) = some r := H
          have A64 := Az.mk A640
          clear A640
          obtain rfl := Option.some.inj H
          obtain ⟨Ao65, co65, eo65⟩ := Kd.S_slice HO_6.out
          subst eo65
          go_wp2_with (first | ((with_reducible refine gate_callee (f := 10) rfl ?_); refine goesL_ (some 83) rfl rfl Try.func10 (by kernel_rfl) rfl #[] rfl (by (try simp only [List.map_toArray, List.map_cons, List.map_nil]); first | done | rfl | (simp only [List.length_drop, List.length_take]; rfl)) ?_; (with_reducible refine (arboristlaw46_knows.calls k3  t326 _ A64.out).mono ?_); rintro e w66 ⟨rfl, hb⟩; refine ⟨_, rfl, ?_⟩; have n0_ := Az.mk (Kd.R_below (by (with_reducible repeat (first | apply Kd.R_alloc | apply Kd.R_drewN | apply Kd.R_drew)); exact HO_5.out) hb); have n1_ := Az.mk (Kd.S_below (by (with_reducible repeat (first | apply Kd.S_alloc | apply Kd.S_drewN | apply Kd.S_drew)); exact HO_6.out) hb); have n2_ := Az.mk (kB_ (g := gb312) (o := .cells #[.slice A0_0 l0_0.length c0_0, .slice A0_1 l0_1.length c0_1, .slice A0_2 l0_2.length c0_2, .slice A0_3 l0_3.length c0_3, .slice A0_4 l0_4.length c0_4] 27 (0, 0)) (by (with_reducible repeat (first | refine kN_ ?_ _ | refine kD_ ?_ | refine kA_ ?_ _)); exact BK312.out) hb); have n3_ := Az.mk (kB_ (g := gb313) (o := .cells #[.int .i64 a1_0, .int .i64 a1_1, .int .i64 a1_2, .int .i64 a1_3, .slice A1_4 l1_4.length c1_4, .string a1_5, .slice A1_6 l1_6.length c1_6] 32 (0, 0)) (by (with_reducible repeat (first | refine kN_ ?_ _ | refine kD_ ?_ | refine kA_ ?_ _)); exact BK313.out) hb); have n4_ := Az.mk (bT_ (by repeat (first | (with_reducible first | exact HB.out | apply bA_ | apply bN_ | apply bD_ | refine bS_ ?_ GE312.out | refine bS_ ?_ GE313.out) | exact HB.out)) hb); clear HO_5; clear HO_6; clear BK312; clear BK313; clear HB; have HO_5 := n0_; have HO_6 := n1_; have BK312 := n2_; have BK313 := n3_; have HB := n4_; clear n0_ n1_ n2_ n3_ n4_; (try clear hb); (try clear hb2); (try clear hk); (try clear hi)))
          go_ret
          exact ⟨by first | rfl | (simp [errW_none, errW_some] <;> rfl) | (simp [*, errW_none, errW_some] <;> rfl), by repeat (first | (with_reducible first | exact HB.out | apply bA_ | apply bN_ | apply bD_ | refine bS_ ?_ GE312.out | refine bS_ ?_ GE313.out) | exact HB.out)⟩
def arboristlaw46_FieldsAlong.f (k : Nat) (l0_0 : List ByteArray) (l0_1 : List ByteArray) (l0_2 : List Int) (l0_3 : List (S67)) (l0_4 : List (S78)) (a1_0 : Int) (a1_1 : Int) (a1_2 : Int) (a1_3 : Int) (l1_4 : List (S53)) (a1_5 : ByteArray) (l1_6 : List (S32)) : Option Bool := (arboristlaw46_FieldsAlong_.f k l0_0 l0_1 l0_2 l0_3 l0_4 a1_0 a1_1 a1_2 a1_3 l1_4 a1_5 l1_6).bind fun r => if r = true then some true else none
theorem arboristlaw46_FieldsAlong.calls (k : Nat) (A0_0 : Option Addr) (c0_0 : Nat) (l0_0 : List ByteArray) (A0_1 : Option Addr) (c0_1 : Nat) (l0_1 : List ByteArray) (A0_2 : Option Addr) (c0_2 : Nat) (l0_2 : List Int) (A0_3 : Option Addr) (c0_3 : Nat) (l0_3 : List (S67)) (A0_4 : Option Addr) (c0_4 : Nat) (l0_4 : List (S78)) (a1_0 : Int) (a1_1 : Int) (a1_2 : Int) (a1_3 : Int) (A1_4 : Option Addr) (c1_4 : Nat) (l1_4 : List (S53)) (a1_5 : ByteArray) (A1_6 : Option Addr) (c1_6 : Nat) (l1_6 : List (S32)) (r : Bool) (w : World) (hr0_0 : Kd.C Kd.string w A0_0 l0_0.length l0_0) (hc0_0 : l0_0.length ≤ c0_0) (hr0_1 : Kd.C Kd.string w A0_1 l0_1.length l0_1) (hc0_1 : l0_1.length ≤ c0_1) (hr0_2 : Kd.C (Kd.int .i64) w A0_2 l0_2.length l0_2) (hc0_2 : l0_2.length ≤ c0_2) (hr0_3 : Kd.C k67 w A0_3 l0_3.length l0_3) (hc0_3 : l0_3.length ≤ c0_3) (hr0_4 : Kd.C k78 w A0_4 l0_4.length l0_4) (hc0_4 : l0_4.length ≤ c0_4) (hr1_4 : Kd.C k53 w A1_4 l1_4.length l1_4) (hc1_4 : l1_4.length ≤ c1_4) (hr1_6 : Kd.C k32 w A1_6 l1_6.length l1_6) (hc1_6 : l1_6.length ≤ c1_6) (h : arboristlaw46_FieldsAlong.f k l0_0 l0_1 l0_2 l0_3 l0_4 a1_0 a1_1 a1_2 a1_3 l1_4 a1_5 l1_6 = some r) :
  Calls Try.prog 5 #[.agg #[.slice A0_0 l0_0.length c0_0, .slice A0_1 l0_1.length c0_1, .slice A0_2 l0_2.length c0_2, .slice A0_3 l0_3.length c0_3, .slice A0_4 l0_4.length c0_4], .agg #[.int .i64 a1_0, .int .i64 a1_1, .int .i64 a1_2, .int .i64 a1_3, .slice A1_4 l1_4.length c1_4, .string a1_5, .slice A1_6 l1_6.length c1_6]] w fun e w' => e = .returned (.bool r) ∧ Below w.heap.size w w' := by
 unfold arboristlaw46_FieldsAlong.f at h
 obtain ⟨r', h1, h2⟩ := Option.bind_eq_some_iff.1 h
 by_cases hr : r' = true
 ·subst hr
  rw [if_pos rfl] at h2
  obtain rfl := Option.some.inj h2
  exact arboristlaw46_FieldsAlong_.calls k A0_0 c0_0 l0_0 A0_1 c0_1 l0_1 A0_2 c0_2 l0_2 A0_3 c0_3 l0_3 A0_4 c0_4 l0_4 a1_0 a1_1 a1_2 a1_3 A1_4 c1_4 l1_4 a1_5 A1_6 c1_6 l1_6 true w rfl hr0_0 hc0_0 hr0_1 hc0_1 hr0_2 hc0_2 hr0_3 hc0_3 hr0_4 hc0_4 hr1_4 hc1_4 hr1_6 hc1_6 h1
 ·rw [if_neg hr] at h2
  cases h2
end Go.Proofs.Ytgdbcogbbghjaaa.Q
