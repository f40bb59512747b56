import Derived.Test.YtgdbcogbbghjaaaQ0
namespace Go.Proofs.Ytgdbcogbbghjaaa.Q
open Go.RowKit Go.Proofs.YtgdbcogbbghjaaaW.PrintWords Go.Proofs.YtgdbcogbbghjaaaW.PrintLast Go.Proofs.YtgdbcogbbghjaaaW.PrintMore
attribute [local go_sem] max2_int min2_int max_two min_two max_three min_three max_four min_four   -- for this text's walks alone
set_option linter.unusedVariables false
set_option linter.unusedSimpArgs false
def arboristlaw46_get.l0 : Nat → List Int → Int → Int → Int → Int → Int → List (S53) → ByteArray → List (S32) → Option (Int × Int × Int × Int × (List (S53)) × ByteArray × (List (S32)) × Bool)
 | 0, _, _, _, _, _, _, _, _, _ => none
 | k + 1, x1, x6, x307000, x307001, x307002, x307003, x307004, x307005, x307006 => if x6 < (x1.length : Int) then (if 0 ≤ x6 then (if (rd x1 x6) < 0 then (some (0, 0, 0, 0, ([] : List (S53)), (⟨#[]⟩ : ByteArray), ([] : List (S32)), false)) else (if (rd x1 x6) ≥ (x307006.length : Int) then (some (0, 0, 0, 0, ([] : List (S53)), (⟨#[]⟩ : ByteArray), ([] : List (S32)), false)) else (if 0 ≤ (rd x1 x6) then (if (rd x1 x6) < (x307006.length : Int) then (arboristlaw46_get.l0 k x1 (wrap64 (x6 + 1)) ((rd_T32 x307006 (rd x1 x6)).f0) ((rd_T32 x307006 (rd x1 x6)).f1) ((rd_T32 x307006 (rd x1 x6)).f2) ((rd_T32 x307006 (rd x1 x6)).f3) ((rd_T32 x307006 (rd x1 x6)).f4) ((rd_T32 x307006 (rd x1 x6)).f5) ((rd_T32 x307006 (rd x1 x6)).f6)) else (none)) else (none)))) else (none)) else (some (x307000, x307001, x307002, x307003, x307004, x307005, x307006, true))
def arboristlaw46_get.f (k : Nat) (a0_0 : Int) (a0_1 : Int) (a0_2 : Int) (a0_3 : Int) (l0_4 : List (S53)) (a0_5 : ByteArray) (l0_6 : List (S32)) (l1 : List Int) : Option (Int × Int × Int × Int × (List (S53)) × ByteArray × (List (S32)) × Bool) := arboristlaw46_get.l0 k l1 0 a0_0 a0_1 a0_2 a0_3 l0_4 a0_5 l0_6
def arboristlaw46_get.T4 : Bool × List (List Nat × List Nat) := (true, [([], []), ([], []), ([0, 1], [0, 1]), ([2], [2]), ([3], [3]), ([4], [4]), ([5], [5]), ([5], [5]), ([6, 7, 5], [5, 6, 7]), ([8, 5], [5, 8]), ([5], [5]), ([10, 5], [5, 10]), ([11, 5], [5, 11]), ([9, 12, 5], [5, 9, 12]), ([5, 13], [5, 13])])
def arboristlaw46_get.B4 : List Nat := [0, 0, 3, 7, 15, 31, 63, 63, 255, 511, 63, 1087, 3135, 8191, 16383]
theorem arboristlaw46_get.tab4 : rtab .any (opsOf Try.f23 4) = arboristlaw46_get.T4 := by kernel_rfl
theorem arboristlaw46_get.bits4 : waitsOk arboristlaw46_get.T4.2 arboristlaw46_get.B4 = true := by kernel_rfl
def arboristlaw46_get.T6 : Bool × List (List Nat × List Nat) := (true, [([], []), ([0], [0]), ([], []), ([], []), ([2, 3], [2, 3]), ([4], [4]), ([1, 5], [1, 5]), ([6], [6]), ([7, 0, 1, 2, 3, 4, 5, 6, 7], [7])])
def arboristlaw46_get.B6 : List Nat := [0, 1, 0, 0, 12, 28, 63, 127, 255]
theorem arboristlaw46_get.tab6 : rtab .any (opsOf Try.f23 6) = arboristlaw46_get.T6 := by kernel_rfl
theorem arboristlaw46_get.bits6 : waitsOk arboristlaw46_get.T6.2 arboristlaw46_get.B6 = true := by kernel_rfl
set_option maxHeartbeats 8000000 in
set_option maxRecDepth 100000 in
theorem arboristlaw46_get.calls (k : Nat) (a0_0 : Int) (a0_1 : Int) (a0_2 : Int) (a0_3 : Int) (P0_4_ : Nat → Prop) (A0_4 : Option Addr) (c0_4 : Nat) (l0_4 : List (S53)) (a0_5 : ByteArray) (P0_6_ : Nat → Prop) (A0_6 : Option Addr) (c0_6 : Nat) (l0_6 : List (S32)) (A1 : Option Addr) (c1 : Nat) (l1 : List Int) (r1 : Int) (r2 : Int) (r3 : Int) (r4 : Int) (r5 : List (S53)) (r6 : ByteArray) (r7 : List (S32)) (r8 : Bool) (w : World) (hs0_4 : Kd.V k53 53 w w.heap.size (fun k_ => P0_4_ k_) (.slice A0_4 l0_4.length c0_4) l0_4) (hs0_6 : Kd.V k32 32 w w.heap.size (fun k_ => P0_6_ k_) (.slice A0_6 l0_6.length c0_6) l0_6) (hr1 : Kd.C (Kd.int .i64) w A1 l1.length l1) (hc1 : l1.length ≤ c1) (h : arboristlaw46_get.f k a0_0 a0_1 a0_2 a0_3 l0_4 a0_5 l0_6 l1 = some (r1, r2, r3, r4, r5, r6, r7, r8)) :
  Calls Try.prog 23 #[.agg #[.int .i64 a0_0, .int .i64 a0_1, .int .i64 a0_2, .int .i64 a0_3, .slice A0_4 l0_4.length c0_4, .string a0_5, .slice A0_6 l0_6.length c0_6], .slice A1 l1.length c1] w fun e w' => ∃ v4_ v6_ : Value, e = .returned (.tuple #[.agg #[.int .i64 r1, .int .i64 r2, .int .i64 r3, .int .i64 r4, v4_, .string r6, v6_], .bool r8]) ∧ Kd.V k53 53 w' w.heap.size (fun k_ => ((P0_4_ k_ ∨ P0_6_ k_) ∨ w.heap.size ≤ k_)) v4_ r5 ∧ Kd.V k32 32 w' w.heap.size (fun k_ => ((P0_4_ k_ ∨ P0_6_ k_) ∨ w.heap.size ≤ k_)) v6_ r7 ∧ Below w.heap.size w w' := by
 have hu32 := Try.underlying32
 have HO0_4 := Az.mk (show Kd.V k53 53 w w.heap.size (fun k_ => ((P0_4_ k_ ∨ P0_6_ k_) ∨ w.heap.size ≤ k_)) (.slice A0_4 l0_4.length c0_4) l0_4 from Kd.V_mono hs0_4 (fun k_ hk => .inl (.inl hk)))
 have HO0_6 := Az.mk (show Kd.V k32 32 w w.heap.size (fun k_ => ((P0_4_ k_ ∨ P0_6_ k_) ∨ w.heap.size ≤ k_)) (.slice A0_6 l0_6.length c0_6) l0_6 from Kd.V_mono hs0_6 (fun k_ hk => .inl (.inr hk)))
 have HR1 := Az.mk hr1
 have HC1 := Az.mk hc1
 clear hr1 hc1
 have HB := Az.mk (Below.refl w.heap.size w)
 have H : (arboristlaw46_get.l0 k l1 0 a0_0 a0_1 a0_2 a0_3 l0_4 a0_5 l0_6) = some (r1, r2, r3, r4, r5, r6, r7, r8) := h
 clear h
 have H' := Az.mk H
 clear H
 go_enter Try.func23, Try.ntmps23
 go_wp2_with (first | ((with_reducible refine gate_dst (N := 2) rfl ?_); (try (refine gate_guard (by rfl) ?_; dsimp only)); refine box_event ?hg (N := 2) ?hd (cs := #[.int .i64 a0_0, .int .i64 a0_1, .int .i64 a0_2, .int .i64 a0_3, .slice A0_4 l0_4.length c0_4, .string a0_5, .slice A0_6 l0_6.length c0_6]) (t := 32) ?hr ?_; (case hd => rfl); (case hg => rfl); (case hr => first | (go_simp; done) | (go_simp; rfl)); intro gb306 hg w3 hbox hb; have n0_ := Az.mk (Kd.V_below (Kd.V_elderB (by (with_reducible repeat (first | apply Kd.V_alloc | apply Kd.V_drewN | apply Kd.V_drew)); exact HO0_4.out) gb306 (Nat.le_of_eq hg.symm)) hb); have n1_ := Az.mk (Kd.V_below (Kd.V_elderB (by (with_reducible repeat (first | apply Kd.V_alloc | apply Kd.V_drewN | apply Kd.V_drew)); exact HO0_6.out) gb306 (Nat.le_of_eq hg.symm)) hb); have n2_ := Az.mk (bT_ (by repeat (first | (with_reducible first | exact HB.out | apply bA_ | apply bN_ | apply bD_) | exact HB.out)) hb); have n3_ := Az.mk (hbox); have n4_ := Az.mk ((by rw [hg]; exact (bZ_ (by repeat (first | (with_reducible first | exact HB.out | apply bA_ | apply bN_ | apply bD_) | exact HB.out))) : w.heap.size ≤ gb306)); have n5_ := Az.mk ((by rw [hg]; exact (bZ_ (by repeat (first | (with_reducible first | exact HB.out | apply bA_ | apply bN_ | apply bD_) | exact HB.out))) : w.heap.size ≤ gb306)); clear HO0_4; clear HO0_6; clear HB; have HO0_4 := n0_; have HO0_6 := n1_; have HB := n2_; have BK306 := n3_; have GW306 := n4_; have GE306 := n5_; clear n0_ n1_ n2_ n3_ n4_ n5_; clear hb hbox hg) | ((with_reducible refine gate_dst (N := 4) rfl ?_); (try (refine gate_guard (by rfl) ?_; dsimp only)); refine box_event ?hg (N := 4) ?hd (cs := #[.int .i64 0, .int .i64 0, .int .i64 0, .int .i64 0, .slice none 0 0, .string (⟨#[]⟩ : ByteArray), .slice none 0 0]) (t := 32) ?hr ?_; (case hd => rfl); (case hg => rfl); (case hr => first | (go_simp; done) | (go_simp; rfl)); intro gb307 hg w4 hbox hb; have n0_ := Az.mk (Kd.V_below (Kd.V_elderB (by (with_reducible repeat (first | apply Kd.V_alloc | apply Kd.V_drewN | apply Kd.V_drew)); exact HO0_4.out) gb307 (Nat.le_of_eq hg.symm)) hb); have n1_ := Az.mk (Kd.V_below (Kd.V_elderB (by (with_reducible repeat (first | apply Kd.V_alloc | apply Kd.V_drewN | apply Kd.V_drew)); exact HO0_6.out) gb307 (Nat.le_of_eq hg.symm)) hb); have n2_ := Az.mk (kB_ (g := gb306) (o := .cells #[.int .i64 a0_0, .int .i64 a0_1, .int .i64 a0_2, .int .i64 a0_3, .slice A0_4 l0_4.length c0_4, .string a0_5, .slice A0_6 l0_6.length c0_6] 32 (0, 0)) (by (with_reducible repeat (first | refine kN_ ?_ _ | refine kD_ ?_ | refine kA_ ?_ _)); exact BK306.out) hb); have n3_ := Az.mk (bT_ (by repeat (first | (with_reducible first | exact HB.out | apply bA_ | apply bN_ | apply bD_ | refine bS_ ?_ GE306.out) | exact HB.out)) hb); have n4_ := Az.mk (hbox); have n5_ := Az.mk ((by rw [hg]; exact (bZ_ (by repeat (first | (with_reducible first | exact HB.out | apply bA_ | apply bN_ | apply bD_ | refine bS_ ?_ GE306.out) | exact HB.out))) : w.heap.size ≤ gb307)); have n6_ := Az.mk ((by rw [hg]; exact (bZ_ (by repeat (first | (with_reducible first | exact HB.out | apply bA_ | apply bN_ | apply bD_ | refine bS_ ?_ GE306.out) | exact HB.out))) : w.heap.size ≤ gb307)); have n7_ := Az.mk ((by rw [hg]; exact Nat.ne_of_lt (blk_lt (g := gb306) (o := .cells #[.int .i64 a0_0, .int .i64 a0_1, .int .i64 a0_2, .int .i64 a0_3, .slice A0_4 l0_4.length c0_4, .string a0_5, .slice A0_6 l0_6.length c0_6] 32 (0, 0)) (by (with_reducible repeat (first | refine kN_ ?_ _ | refine kD_ ?_ | refine kA_ ?_ _)); exact BK306.out)) : gb306 ≠ gb307)); have n8_ := Az.mk ((by rw [hg]; exact Nat.ne_of_gt (blk_lt (g := gb306) (o := .cells #[.int .i64 a0_0, .int .i64 a0_1, .int .i64 a0_2, .int .i64 a0_3, .slice A0_4 l0_4.length c0_4, .string a0_5, .slice A0_6 l0_6.length c0_6] 32 (0, 0)) (by (with_reducible repeat (first | refine kN_ ?_ _ | refine kD_ ?_ | refine kA_ ?_ _)); exact BK306.out)) : gb307 ≠ gb306)); clear HO0_4; clear HO0_6; clear BK306; clear HB; have HO0_4 := n0_; have HO0_6 := n1_; have BK306 := n2_; have HB := n3_; have BK307 := n4_; have GW307 := n5_; have GE307 := n6_; have NB306_307 := n7_; have NB307_306 := n8_; clear n0_ n1_ n2_ n3_ n4_ n5_ n6_ n7_ n8_; clear hb hbox hg))
 go_loopg [6] k (fun kq v6 w' => ∃ (x6_1 : Int) (x307000_1 : Int) (x307001_1 : Int) (x307002_1 : Int) (x307003_1 : Int) (x307004_1 : List (S53)) (x307005_1 : ByteArray) (x307006_1 : List (S32)) (x308000_1 : Int) (x308001_1 : Int) (x308002_1 : Int) (x308003_1 : Int) (x308005_1 : ByteArray) (u307004 : Value) (u307006 : Value), v6 = .int .i64 x6_1 ∧ Az (arboristlaw46_get.l0 kq l1 x6_1 x307000_1 x307001_1 x307002_1 x307003_1 x307004_1 x307005_1 x307006_1 = some (r1, r2, r3, r4, r5, r6, r7, r8)) ∧ Az (kq ≤ k) ∧ Az (Kd.V k53 53 w' w.heap.size (fun k_ => ((P0_4_ k_ ∨ P0_6_ k_) ∨ w.heap.size ≤ k_) ∧ k_ ≠ gb306 ∧ k_ ≠ gb307) u307004 x307004_1) ∧ Az (Kd.V k32 32 w' w.heap.size (fun k_ => ((P0_4_ k_ ∨ P0_6_ k_) ∨ w.heap.size ≤ k_) ∧ k_ ≠ gb306 ∧ k_ ≠ gb307) u307006 x307006_1) ∧ Az (w'.heap[gb306]? = some (.cells #[.int .i64 x307000_1, .int .i64 x307001_1, .int .i64 x307002_1, .int .i64 x307003_1, u307004, .string x307005_1, u307006] 32 (0, 0))) ∧ Az (w'.heap[gb307]? = some (.cells #[.int .i64 x308000_1, .int .i64 x308001_1, .int .i64 x308002_1, .int .i64 x308003_1, (.slice none 0 0), .string x308005_1, (.slice none 0 0)] 32 (0, 0))) ∧ Az (Below w.heap.size w w'))
 case atStart => exact ⟨(0), (a0_0), (a0_1), (a0_2), (a0_3), (l0_4), (a0_5), (l0_6), (0), (0), (0), (0), ((⟨#[]⟩ : ByteArray)), (.slice A0_4 l0_4.length c0_4), (.slice A0_6 l0_6.length c0_6), (by first | rfl | (simp; done) | (simp [*]; done) | (refine congrArg Value.bool ?_; exact isE_ _)), H', ⟨Nat.le_refl _⟩, ⟨by (with_reducible repeat (first | apply Kd.V_alloc | apply Kd.V_drewN | apply Kd.V_drew)); exact Kd.V_mono HO0_4.out (fun _ hk => ⟨hk.1.1, ⟨hk.1.2, hk.2⟩⟩)⟩, ⟨by (with_reducible repeat (first | apply Kd.V_alloc | apply Kd.V_drewN | apply Kd.V_drew)); exact Kd.V_mono HO0_6.out (fun _ hk => ⟨hk.1.1, ⟨hk.1.2, hk.2⟩⟩)⟩, ⟨by (with_reducible repeat (first | refine kN_ ?_ _ | refine kD_ ?_ | refine kA_ ?_ _)); exact BK306.out⟩, ⟨by (with_reducible repeat (first | refine kN_ ?_ _ | refine kD_ ?_ | refine kA_ ?_ _)); exact BK307.out⟩, ⟨by repeat (first | (with_reducible first | exact HB.out | apply bA_ | apply bN_ | apply bD_ | refine bS_ ?_ GE306.out | refine bS_ ?_ GE307.out) | exact HB.out)⟩⟩
 case round =>
  clear H'
  try clear c1
  try clear c2
  try clear p2
  obtain ⟨x6_1, x307000_1, x307001_1, x307002_1, x307003_1, x307004_1, x307005_1, x307006_1, x308000_1, x308001_1, x308002_1, x308003_1, x308005_1, u307004, u307006, rfl, HA, HK1, HO_307004, HO_307006, BK306, BK307, HB⟩ := hrel
  cases gk with
  | zero => exact absurd HA.out (by simp [arboristlaw46_get.l0])
  | succ k1 =>
   have H := HA.out
   clear HA
   simp only [arboristlaw46_get.l0] at H
   by_cases c5 : x6_1 < (l1.length : Int)
   ·rw [if_pos c5] at H
    have c5b0 : decide (x6_1 < (l1.length : Int)) = true := decide_eq_true c5
    clear c5
    by_cases c6 : 0 ≤ x6_1
    ·rw [if_pos c6] at H
     have c6b0 : decide (0 ≤ x6_1) = true := decide_eq_true c6
     clear c6
     by_cases c7 : (rd l1 x6_1) < 0
     ·rw [if_pos c7] at H
      have c7b0 : decide ((rd l1 x6_1) < 0) = true := decide_eq_true c7
      clear c7
      simp only [Option.some.injEq, Prod.mk.injEq] at H
      obtain ⟨rfl, rfl, rfl, rfl, rfl, rfl, rfl, rfl⟩ := H
      try go_wp2
      have n0_ := Az.mk (Kd.V_drew HO_307004.out)
      have n1_ := Az.mk (Kd.V_drew HO_307006.out)
      have n2_ := Az.mk (kD_ BK306.out)
      have n3_ := Az.mk (kD_ BK307.out)
      have n4_ := Az.mk (bD_ HB.out)
      clear HO_307004
      clear HO_307006
      clear BK306
      clear BK307
      clear HB
      have HO_307004 := n0_
      have HO_307006 := n1_
      have BK306 := n2_
      have BK307 := n3_
      have HB := n4_
      clear n0_ n1_ n2_ n3_ n4_
      have p308 : 0 ≤ (x6_1 : Int) := of_decide_eq_true (by first | (with_reducible assumption) | assumption)
      have q308 : x6_1 < (l1.length : Int) := of_decide_eq_true (by first | (with_reducible assumption) | assumption)
      obtain ⟨ad308, e308, hx308_0⟩ := Kd.at_int HR1.out x6_1 p308 q308
      have hw308_0 := hx308_0
      cases e308
      replace hx308_0 := (HB.out.cell (World.block_lt_of_cell? w _ hx308_0)).trans hx308_0
      replace p308 := eq_true p308
      replace q308 := eq_true q308
      refine start_ (n := 15) (S := fun w' => w'.cell? (ad308.add (x6_1).toNat) = some (.int .i64 (rd l1 x6_1))) (ds := []) #[false, false, false, false, false, false, false, false, false, false, false, false, false, false, false] (by kernel_rfl) rfl rfl (((HB.out.cell (World.block_lt_of_cell? w _ hw308_0)).trans hw308_0)) (fun hHeld => ?_); refine with_tabW arboristlaw46_get.tab4 arboristlaw46_get.bits4 (fun HT_ HW_ => ?_)
      generalize wr.drew = w8 at HO_307004 HO_307006 BK306 BK307 HB hx308_0 hHeld ⊢
      refine pure_ (i := 0) (N := some 13) (v := ?_) (a' := ?_) #[true, false, false, false, false, false, false, false, false, false, false, false, false, false, false] rfl rfl (any_of HT_.out (by kernel_rfl)) (fun _ _ _ h => h) (Or.inl ⟨by rfl, ?_⟩) ?_ ?_
      rotate_left
      ·intro w'
       go_simp
       with_reducible rfl
      rotate_left
      ·simp only [Act.put, List.setIfInBounds_toArray, List.set_cons_zero, List.set_cons_succ, i64_w, i32_w]
       rfl
      refine pure_ (i := 1) (N := some 14) (v := ?_) (a' := ?_) #[true, true, false, false, false, false, false, false, false, false, false, false, false, false, false] rfl rfl (any_of HT_.out (by kernel_rfl)) (fun _ _ _ h => h) (Or.inl ⟨by rfl, ?_⟩) ?_ ?_
      rotate_left
      ·intro w'
       go_simp
       with_reducible rfl
      rotate_left
      ·simp only [Act.put, List.setIfInBounds_toArray, List.set_cons_zero, List.set_cons_succ, i64_w, i32_w]
       rfl
      refine pure_ (i := 2) (N := some 15) (v := ?_) (a' := ?_) #[true, true, true, false, false, false, false, false, false, false, false, false, false, false, false] rfl rfl (any_of HT_.out (by kernel_rfl)) (fun _ _ _ h => h) (Or.inl ⟨by rfl, ?_⟩) ?_ ?_
      rotate_left
      ·intro w'
       go_simp
       with_reducible rfl
      rotate_left
      ·simp only [Act.put, List.setIfInBounds_toArray, List.set_cons_zero, List.set_cons_succ, i64_w, i32_w]
       rfl
      refine take_ (i := 3) (N := some 16) (v := ?_) (a' := ?_) #[true, true, true, true, false, false, false, false, false, false, false, false, false, false, false] rfl rfl (take_ofW HT_.out HW_.out (by kernel_rfl)) (fun _ _ _ h => h) (Or.inl ⟨by rfl, ?_⟩) hHeld ?_ ?_
      rotate_left
      ·intro w' s0
       go_simp
       with_reducible rfl
      rotate_left
      ·simp only [Act.put, List.setIfInBounds_toArray, List.set_cons_zero, List.set_cons_succ, i64_w, i32_w]
       rfl
      refine pure_ (i := 4) (N := some 17) (v := ?_) (a' := ?_) #[true, true, true, true, true, false, false, false, false, false, false, false, false, false, false] rfl rfl (any_of HT_.out (by kernel_rfl)) (fun _ _ _ h => h) (Or.inl ⟨by rfl, ?_⟩) ?_ ?_
      rotate_left
      ·intro w'
       go_simp
       with_reducible rfl
      rotate_left
      ·simp only [Act.put, List.setIfInBounds_toArray, List.set_cons_zero, List.set_cons_succ, i64_w, i32_w]
       rfl
      refine pure_ (i := 5) (N := some 18) (v := ?_) (a' := ?_) #[true, true, true, true, true, true, false, false, false, false, false, false, false, false, false] rfl rfl (any_of HT_.out (by kernel_rfl)) (fun _ _ _ h => h) (Or.inl ⟨by rfl, ?_⟩) ?_ ?_
      rotate_left
      ·intro w'
       go_simp
       with_reducible rfl
      rotate_left
      ·simp only [Act.put, List.setIfInBounds_toArray, List.set_cons_zero, List.set_cons_succ, i64_w, i32_w]
       rfl
      refine pure_ (i := 6) (N := some 19) (v := undef) (a' := ?_) #[true, true, true, true, true, true, true, false, false, false, false, false, false, false, false] rfl rfl (any_of HT_.out (by kernel_rfl)) (fun _ _ _ h => h) (Or.inr ⟨by rfl, rfl⟩) ?_ ?_
      rotate_left
      ·simp only [Act.put, List.setIfInBounds_toArray, List.set_cons_zero, List.set_cons_succ, i64_w, i32_w]
       rfl
      refine pure_ (i := 7) (N := some 20) (v := undef) (a' := ?_) #[true, true, true, true, true, true, true, true, false, false, false, false, false, false, false] rfl rfl (any_of HT_.out (by kernel_rfl)) (fun _ _ _ h => h) (Or.inr ⟨by rfl, rfl⟩) ?_ ?_
      rotate_left
      ·simp only [Act.put, List.setIfInBounds_toArray, List.set_cons_zero, List.set_cons_succ, i64_w, i32_w]
       rfl
      refine pure_ (i := 8) (N := some 21) (v := undef) (a' := ?_) #[true, true, true, true, true, true, true, true, true, false, false, false, false, false, false] rfl rfl (any_of HT_.out (by kernel_rfl)) (fun _ _ _ h => h) (Or.inr ⟨by rfl, rfl⟩) ?_ ?_
      rotate_left
      ·simp only [Act.put, List.setIfInBounds_toArray, List.set_cons_zero, List.set_cons_succ, i64_w, i32_w]
       rfl
      refine pure_ (i := 9) (N := some 22) (v := undef) (a' := ?_) #[true, true, true, true, true, true, true, true, true, true, false, false, false, false, false] rfl rfl (any_of HT_.out (by kernel_rfl)) (fun _ _ _ h => h) (Or.inr ⟨by rfl, rfl⟩) ?_ ?_
      rotate_left
      ·simp only [Act.put, List.setIfInBounds_toArray, List.set_cons_zero, List.set_cons_succ, i64_w, i32_w]
       rfl
      refine pure_ (i := 10) (N := some 23) (v := undef) (a' := ?_) #[true, true, true, true, true, true, true, true, true, true, true, false, false, false, false] rfl rfl (any_of HT_.out (by kernel_rfl)) (fun _ _ _ h => h) (Or.inr ⟨by rfl, rfl⟩) ?_ ?_
      rotate_left
      ·simp only [Act.put, List.setIfInBounds_toArray, List.set_cons_zero, List.set_cons_succ, i64_w, i32_w]
       rfl
      refine pure_ (i := 11) (N := some 24) (v := undef) (a' := ?_) #[true, true, true, true, true, true, true, true, true, true, true, true, false, false, false] rfl rfl (any_of HT_.out (by kernel_rfl)) (fun _ _ _ h => h) (Or.inr ⟨by rfl, rfl⟩) ?_ ?_
      rotate_left
      ·simp only [Act.put, List.setIfInBounds_toArray, List.set_cons_zero, List.set_cons_succ, i64_w, i32_w]
       rfl
      refine pure_ (i := 12) (N := some 25) (v := undef) (a' := ?_) #[true, true, true, true, true, true, true, true, true, true, true, true, true, false, false] rfl rfl (any_of HT_.out (by kernel_rfl)) (fun _ _ _ h => h) (Or.inr ⟨by rfl, rfl⟩) ?_ ?_
      rotate_left
      ·simp only [Act.put, List.setIfInBounds_toArray, List.set_cons_zero, List.set_cons_succ, i64_w, i32_w]
       rfl
      refine pure_ (i := 13) (N := some 26) (v := undef) (a' := ?_) #[true, true, true, true, true, true, true, true, true, true, true, true, true, true, false] rfl rfl (any_of HT_.out (by kernel_rfl)) (fun _ _ _ h => h) (Or.inr ⟨by rfl, rfl⟩) ?_ ?_
      rotate_left
      ·simp only [Act.put, List.setIfInBounds_toArray, List.set_cons_zero, List.set_cons_succ, i64_w, i32_w]
       rfl
      refine pure_ (i := 14) (N := some 27) (v := ?_) (a' := ?_) #[true, true, true, true, true, true, true, true, true, true, true, true, true, true, true] rfl rfl (any_of HT_.out (by kernel_rfl)) (fun _ _ _ h => h) (Or.inl ⟨by rfl, ?_⟩) ?_ ?_
      rotate_left
      ·intro w'
       go_simp
       with_reducible rfl
      rotate_left
      ·simp only [Act.put, List.setIfInBounds_toArray, List.set_cons_zero, List.set_cons_succ, i64_w, i32_w]
       rfl
      refine done_ (done_of HT_.out (by kernel_rfl)) ?_
      have hnb9 := NB307_306.out
      have hnc9 := NB306_307.out
      have hcz10_0 : w8.cell? ⟨gb307, 0, none⟩ = some (.int .i64 x308000_1) := (bC_ BK307.out 0).trans rfl
      have hcz10_1 : w8.cell? ⟨gb307, 1, none⟩ = some (.int .i64 x308001_1) := (bC_ BK307.out 1).trans rfl
      have hcz10_2 : w8.cell? ⟨gb307, 2, none⟩ = some (.int .i64 x308002_1) := (bC_ BK307.out 2).trans rfl
      have hcz10_3 : w8.cell? ⟨gb307, 3, none⟩ = some (.int .i64 x308003_1) := (bC_ BK307.out 3).trans rfl
      have hcz10_4 : w8.cell? ⟨gb307, 4, none⟩ = some (.slice none 0 0) := (bC_ BK307.out 4).trans rfl
      have hcz10_5 : w8.cell? ⟨gb307, 5, none⟩ = some (.string x308005_1) := (bC_ BK307.out 5).trans rfl
      have hcz10_6 : w8.cell? ⟨gb307, 6, none⟩ = some (.slice none 0 0) := (bC_ BK307.out 6).trans rfl
      have hfz10_0 := bF_ BK307.out 0
      have hfz10_1 := bF_ BK307.out 1
      have hfz10_2 := bF_ BK307.out 2
      have hfz10_3 := bF_ BK307.out 3
      have hfz10_4 := bF_ BK307.out 4
      have hfz10_5 := bF_ BK307.out 5
      have hfz10_6 := bF_ BK307.out 6
      try go_wp2
      refine bodyPost_ret (results_ct rfl _ _ gb307 32 #[.int .i64 0, .int .i64 0, .int .i64 0, .int .i64 0, .slice none 0 0, .string (⟨#[]⟩ : ByteArray), .slice none 0 0] (0, 0) _ rfl (by (with_reducible repeat (first | refine kN_ ?_ _ | refine kD_ ?_ | refine kA_ ?_ _)); refine kP_ (cs := #[.int .i64 0, .int .i64 0, .int .i64 0, .int .i64 0, .slice none 0 0, .string (⟨#[]⟩ : ByteArray), .slice none 0 0]) ?_ 6 _ rfl; (with_reducible repeat (first | refine kN_ ?_ _ | refine kD_ ?_ | refine kA_ ?_ _)); refine kP_ (cs := #[.int .i64 0, .int .i64 0, .int .i64 0, .int .i64 0, .slice none 0 0, .string x308005_1, .slice none 0 0]) ?_ 5 _ rfl; (with_reducible repeat (first | refine kN_ ?_ _ | refine kD_ ?_ | refine kA_ ?_ _)); refine kP_ (cs := #[.int .i64 0, .int .i64 0, .int .i64 0, .int .i64 0, .slice none 0 0, .string x308005_1, .slice none 0 0]) ?_ 4 _ rfl; (with_reducible repeat (first | refine kN_ ?_ _ | refine kD_ ?_ | refine kA_ ?_ _)); refine kP_ (cs := #[.int .i64 0, .int .i64 0, .int .i64 0, .int .i64 x308003_1, .slice none 0 0, .string x308005_1, .slice none 0 0]) ?_ 3 _ rfl; (with_reducible repeat (first | refine kN_ ?_ _ | refine kD_ ?_ | refine kA_ ?_ _)); refine kP_ (cs := #[.int .i64 0, .int .i64 0, .int .i64 x308002_1, .int .i64 x308003_1, .slice none 0 0, .string x308005_1, .slice none 0 0]) ?_ 2 _ rfl; (with_reducible repeat (first | refine kN_ ?_ _ | refine kD_ ?_ | refine kA_ ?_ _)); refine kP_ (cs := #[.int .i64 0, .int .i64 x308001_1, .int .i64 x308002_1, .int .i64 x308003_1, .slice none 0 0, .string x308005_1, .slice none 0 0]) ?_ 1 _ rfl; (with_reducible repeat (first | refine kN_ ?_ _ | refine kD_ ?_ | refine kA_ ?_ _)); refine kP_ (cs := #[.int .i64 x308000_1, .int .i64 x308001_1, .int .i64 x308002_1, .int .i64 x308003_1, .slice none 0 0, .string x308005_1, .slice none 0 0]) ?_ 0 _ rfl; (with_reducible repeat (first | refine kN_ ?_ _ | refine kD_ ?_ | refine kA_ ?_ _)); exact BK307.out) Try.underlying32 rfl (by kernel_rfl)) rfl ?_
      exact ⟨_, _, by first | rfl | (simp [errW_none, errW_some] <;> rfl) | (simp [*, errW_none, errW_some] <;> rfl), Kd.R_V (Kd.R_nil _ _ _ 0 _), Kd.R_V (Kd.R_nil _ _ _ 0 _), by repeat (first | (with_reducible first | exact HB.out | apply bA_ | apply bN_ | apply bD_ | refine bS_ ?_ GE306.out | refine bS_ ?_ GE307.out) | exact HB.out)⟩
     ·rw [if_neg c7] at H
      have c7b0 : decide ((rd l1 x6_1) < 0) = false := decide_eq_false c7
      clear c7
      by_cases c11 : (rd l1 x6_1) ≥ (x307006_1.length : Int)
      ·rw [if_pos c11] at H
       have c11b0 : decide ((x307006_1.length : Int) ≤ (rd l1 x6_1)) = true := decide_eq_true c11
       clear c11
       simp only [Option.some.injEq, Prod.mk.injEq] at H
       obtain ⟨rfl, rfl, rfl, rfl, rfl, rfl, rfl, rfl⟩ := H
       try go_wp2
       have n0_ := Az.mk (Kd.V_drew HO_307004.out)
       have n1_ := Az.mk (Kd.V_drew HO_307006.out)
       have n2_ := Az.mk (kD_ BK306.out)
       have n3_ := Az.mk (kD_ BK307.out)
       have n4_ := Az.mk (bD_ HB.out)
       clear HO_307004
       clear HO_307006
       clear BK306
       clear BK307
       clear HB
       have HO_307004 := n0_
       have HO_307006 := n1_
       have BK306 := n2_
       have BK307 := n3_
       have HB := n4_
       clear n0_ n1_ n2_ n3_ n4_
       have p308 : 0 ≤ (x6_1 : Int) := of_decide_eq_true (by first | (with_reducible assumption) | assumption)
       have q308 : x6_1 < (l1.length : Int) := of_decide_eq_true (by first | (with_reducible assumption) | assumption)
       obtain ⟨ad308, e308, hx308_0⟩ := Kd.at_int HR1.out x6_1 p308 q308
       have hw308_0 := hx308_0
       cases e308
       replace hx308_0 := (HB.out.cell (World.block_lt_of_cell? w _ hx308_0)).trans hx308_0
       replace p308 := eq_true p308
       replace q308 := eq_true q308
       have p309 : 0 ≤ (x6_1 : Int) := of_decide_eq_true (by first | (with_reducible assumption) | assumption)
       have q309 : x6_1 < (l1.length : Int) := of_decide_eq_true (by first | (with_reducible assumption) | assumption)
       obtain ⟨ad309, e309, hx309_0⟩ := Kd.at_int HR1.out x6_1 p309 q309
       have hw309_0 := hx309_0
       obtain rfl : ad308 = ad309 := (by injection e309)
       replace hx309_0 := (HB.out.cell (World.block_lt_of_cell? w _ hx309_0)).trans hx309_0
       replace p309 := eq_true p309
       replace q309 := eq_true q309
       obtain ⟨Ao13, co13, eo13⟩ := Kd.V_slice HO_307006.out
       (first | subst eo13 | (injection eo13 with f1_ f2_ f3_; have f4_ := f1_.symm; have f5_ := f3_.symm; clear f1_ f2_ f3_; subst f4_; subst f5_))
       refine start_ (n := 15) (S := fun w' => w'.cell? ⟨gb306, 0, none⟩ = some (.int .i64 x307000_1) ∧ w'.cell? ⟨gb306, 1, none⟩ = some (.int .i64 x307001_1) ∧ w'.cell? ⟨gb306, 2, none⟩ = some (.int .i64 x307002_1) ∧ w'.cell? ⟨gb306, 3, none⟩ = some (.int .i64 x307003_1) ∧ w'.cell? ⟨gb306, 4, none⟩ = some (u307004) ∧ w'.cell? ⟨gb306, 5, none⟩ = some (.string x307005_1) ∧ w'.cell? ⟨gb306, 6, none⟩ = some (.slice Ao13 x307006_1.length co13) ∧ w'.cell? (ad308.add (x6_1).toNat) = some (.int .i64 (rd l1 x6_1)) ∧ w'.cell? (ad308.add (x6_1).toNat) = some (.int .i64 (rd l1 x6_1))) (ds := []) #[false, false, false, false, false, false, false, false, false, false, false, false, false, false, false] (by kernel_rfl) rfl rfl ⟨(bC_ BK306.out 0).trans rfl, (bC_ BK306.out 1).trans rfl, (bC_ BK306.out 2).trans rfl, (bC_ BK306.out 3).trans rfl, (bC_ BK306.out 4).trans rfl, (bC_ BK306.out 5).trans rfl, (bC_ BK306.out 6).trans rfl, ((HB.out.cell (World.block_lt_of_cell? w _ hw308_0)).trans hw308_0), ((HB.out.cell (World.block_lt_of_cell? w _ hw309_0)).trans hw309_0)⟩ (fun hHeld => ?_); refine with_tabW arboristlaw46_get.tab4 arboristlaw46_get.bits4 (fun HT_ HW_ => ?_)
       generalize wr.drew = w12 at HO_307004 HO_307006 BK306 BK307 HB hx308_0 hx309_0 hHeld ⊢
       refine pure_ (i := 0) (N := some 13) (v := ?_) (a' := ?_) #[true, false, false, false, false, false, false, false, false, false, false, false, false, false, false] rfl rfl (any_of HT_.out (by kernel_rfl)) (fun _ _ _ h => h) (Or.inl ⟨by rfl, ?_⟩) ?_ ?_
       rotate_left
       ·intro w'
        go_simp
        with_reducible rfl
       rotate_left
       ·simp only [Act.put, List.setIfInBounds_toArray, List.set_cons_zero, List.set_cons_succ, i64_w, i32_w]
        rfl
       refine pure_ (i := 1) (N := some 14) (v := ?_) (a' := ?_) #[true, true, false, false, false, false, false, false, false, false, false, false, false, false, false] rfl rfl (any_of HT_.out (by kernel_rfl)) (fun _ _ _ h => h) (Or.inl ⟨by rfl, ?_⟩) ?_ ?_
       rotate_left
       ·intro w'
        go_simp
        with_reducible rfl
       rotate_left
       ·simp only [Act.put, List.setIfInBounds_toArray, List.set_cons_zero, List.set_cons_succ, i64_w, i32_w]
        rfl
       refine pure_ (i := 2) (N := some 15) (v := ?_) (a' := ?_) #[true, true, true, false, false, false, false, false, false, false, false, false, false, false, false] rfl rfl (any_of HT_.out (by kernel_rfl)) (fun _ _ _ h => h) (Or.inl ⟨by rfl, ?_⟩) ?_ ?_
       rotate_left
       ·intro w'
        go_simp
        with_reducible rfl
       rotate_left
       ·simp only [Act.put, List.setIfInBounds_toArray, List.set_cons_zero, List.set_cons_succ, i64_w, i32_w]
        rfl
       refine take_ (i := 3) (N := some 16) (v := ?_) (a' := ?_) #[true, true, true, true, false, false, false, false, false, false, false, false, false, false, false] rfl rfl (take_ofW HT_.out HW_.out (by kernel_rfl)) (fun _ _ _ h => h) (Or.inl ⟨by rfl, ?_⟩) hHeld ?_ ?_
       rotate_left
       ·rintro w' ⟨s0, s1, s2, s3, s4, s5, s6, s7, s8⟩
        go_simp
        with_reducible rfl
       rotate_left
       ·simp only [Act.put, List.setIfInBounds_toArray, List.set_cons_zero, List.set_cons_succ, i64_w, i32_w]
        rfl
       refine pure_ (i := 4) (N := some 17) (v := ?_) (a' := ?_) #[true, true, true, true, true, false, false, false, false, false, false, false, false, false, false] rfl rfl (any_of HT_.out (by kernel_rfl)) (fun _ _ _ h => h) (Or.inl ⟨by rfl, ?_⟩) ?_ ?_
       rotate_left
       ·intro w'
        go_simp
        with_reducible rfl
       rotate_left
       ·simp only [Act.put, List.setIfInBounds_toArray, List.set_cons_zero, List.set_cons_succ, i64_w, i32_w]
        rfl
       refine pure_ (i := 5) (N := some 18) (v := ?_) (a' := ?_) #[true, true, true, true, true, true, false, false, false, false, false, false, false, false, false] rfl rfl (any_of HT_.out (by kernel_rfl)) (fun _ _ _ h => h) (Or.inl ⟨by rfl, ?_⟩) ?_ ?_
       rotate_left
       ·intro w'
        go_simp
        with_reducible rfl
       rotate_left
       ·simp only [Act.put, List.setIfInBounds_toArray, List.set_cons_zero, List.set_cons_succ, i64_w, i32_w]
        rfl
       refine pure_ (i := 6) (N := some 19) (v := ?_) (a' := ?_) #[true, true, true, true, true, true, true, false, false, false, false, false, false, false, false] rfl rfl (any_of HT_.out (by kernel_rfl)) (fun _ _ _ h => h) (Or.inl ⟨by rfl, ?_⟩) ?_ ?_
       rotate_left
       ·intro w'
        go_simp
        with_reducible rfl
       rotate_left
       ·simp only [Act.put, List.setIfInBounds_toArray, List.set_cons_zero, List.set_cons_succ, i64_w, i32_w]
        rfl
       refine pure_ (i := 7) (N := some 20) (v := ?_) (a' := ?_) #[true, true, true, true, true, true, true, true, false, false, false, false, false, false, false] rfl rfl (any_of HT_.out (by kernel_rfl)) (fun _ _ _ h => h) (Or.inl ⟨by rfl, ?_⟩) ?_ ?_
       rotate_left
       ·intro w'
        go_simp
        with_reducible rfl
       rotate_left
       ·simp only [Act.put, List.setIfInBounds_toArray, List.set_cons_zero, List.set_cons_succ, i64_w, i32_w]
        rfl
       refine pure_ (i := 8) (N := some 21) (v := ?_) (a' := ?_) #[true, true, true, true, true, true, true, true, true, false, false, false, false, false, false] rfl rfl (any_of HT_.out (by kernel_rfl)) (fun _ _ _ h => h) (Or.inl ⟨by rfl, ?_⟩) ?_ ?_
       rotate_left
       ·intro w'
        go_simp
        with_reducible rfl
       rotate_left
       ·simp only [Act.put, List.setIfInBounds_toArray, List.set_cons_zero, List.set_cons_succ, i64_w, i32_w]
        rfl
       refine pure_ (i := 10) (N := some 23) (v := ?_) (a' := ?_) #[true, true, true, true, true, true, true, true, true, false, true, false, false, false, false] rfl rfl (any_of HT_.out (by kernel_rfl)) (fun _ _ _ h => h) (Or.inl ⟨by rfl, ?_⟩) ?_ ?_
       rotate_left
       ·intro w'
        go_simp
        with_reducible rfl
       rotate_left
       ·simp only [Act.put, List.setIfInBounds_toArray, List.set_cons_zero, List.set_cons_succ, i64_w, i32_w]
        rfl
       refine take_ (i := 9) (N := some 22) (v := ?_) (a' := ?_) #[true, true, true, true, true, true, true, true, true, true, true, false, false, false, false] rfl rfl (take_ofW HT_.out HW_.out (by kernel_rfl)) (fun _ _ _ h => h) (Or.inl ⟨by rfl, ?_⟩) hHeld ?_ ?_
       rotate_left
       ·rintro w' ⟨s0, s1, s2, s3, s4, s5, s6, s7, s8⟩
        go_simp
        with_reducible rfl
       rotate_left
       ·simp only [Act.put, List.setIfInBounds_toArray, List.set_cons_zero, List.set_cons_succ, i64_w, i32_w]
        rfl
       refine take_ (i := 11) (N := some 24) (v := ?_) (a' := ?_) #[true, true, true, true, true, true, true, true, true, true, true, true, false, false, false] rfl rfl (take_ofW HT_.out HW_.out (by kernel_rfl)) (fun _ _ _ h => h) (Or.inl ⟨by rfl, ?_⟩) hHeld ?_ ?_
       rotate_left
       ·rintro w' ⟨s0, s1, s2, s3, s4, s5, s6, s7, s8⟩
        go_simp
        with_reducible rfl
       rotate_left
       ·simp only [Act.put, List.setIfInBounds_toArray, List.set_cons_zero, List.set_cons_succ, i64_w, i32_w]
        rfl
       refine pure_ (i := 12) (N := some 25) (v := ?_) (a' := ?_) #[true, true, true, true, true, true, true, true, true, true, true, true, true, false, false] rfl rfl (any_of HT_.out (by kernel_rfl)) (fun _ _ _ h => h) (Or.inl ⟨by rfl, ?_⟩) ?_ ?_
       rotate_left
       ·intro w'
        go_simp
        with_reducible rfl
       rotate_left
       ·simp only [Act.put, List.setIfInBounds_toArray, List.set_cons_zero, List.set_cons_succ, i64_w, i32_w]
        rfl
       refine pure_ (i := 13) (N := some 26) (v := ?_) (a' := ?_) #[true, true, true, true, true, true, true, true, true, true, true, true, true, true, false] rfl rfl (any_of HT_.out (by kernel_rfl)) (fun _ _ _ h => h) (Or.inl ⟨by rfl, ?_⟩) ?_ ?_
       rotate_left
       ·intro w'
        go_simp
        with_reducible rfl
       rotate_left
       ·simp only [Act.put, List.setIfInBounds_toArray, List.set_cons_zero, List.set_cons_succ, i64_w, i32_w]
        rfl
       refine pure_ (i := 14) (N := some 27) (v := ?_) (a' := ?_) #[true, true, true, true, true, true, true, true, true, true, true, true, true, true, true] rfl rfl (any_of HT_.out (by kernel_rfl)) (fun _ _ _ h => h) (Or.inl ⟨by rfl, ?_⟩) ?_ ?_
       rotate_left
       ·intro w'
        go_simp
        with_reducible rfl
       rotate_left
       ·simp only [Act.put, List.setIfInBounds_toArray, List.set_cons_zero, List.set_cons_succ, i64_w, i32_w]
        rfl
       refine done_ (done_of HT_.out (by kernel_rfl)) ?_
       have hnb14 := NB307_306.out
       have hnc14 := NB306_307.out
       have hcz15_0 : w12.cell? ⟨gb307, 0, none⟩ = some (.int .i64 x308000_1) := (bC_ BK307.out 0).trans rfl
       have hcz15_1 : w12.cell? ⟨gb307, 1, none⟩ = some (.int .i64 x308001_1) := (bC_ BK307.out 1).trans rfl
       have hcz15_2 : w12.cell? ⟨gb307, 2, none⟩ = some (.int .i64 x308002_1) := (bC_ BK307.out 2).trans rfl
       have hcz15_3 : w12.cell? ⟨gb307, 3, none⟩ = some (.int .i64 x308003_1) := (bC_ BK307.out 3).trans rfl
       have hcz15_4 : w12.cell? ⟨gb307, 4, none⟩ = some (.slice none 0 0) := (bC_ BK307.out 4).trans rfl
       have hcz15_5 : w12.cell? ⟨gb307, 5, none⟩ = some (.string x308005_1) := (bC_ BK307.out 5).trans rfl
       have hcz15_6 : w12.cell? ⟨gb307, 6, none⟩ = some (.slice none 0 0) := (bC_ BK307.out 6).trans rfl
       have hfz15_0 := bF_ BK307.out 0
       have hfz15_1 := bF_ BK307.out 1
       have hfz15_2 := bF_ BK307.out 2
       have hfz15_3 := bF_ BK307.out 3
       have hfz15_4 := bF_ BK307.out 4
       have hfz15_5 := bF_ BK307.out 5
       have hfz15_6 := bF_ BK307.out 6
       try go_wp2
       refine bodyPost_ret (results_ct rfl _ _ gb307 32 #[.int .i64 0, .int .i64 0, .int .i64 0, .int .i64 0, .slice none 0 0, .string (⟨#[]⟩ : ByteArray), .slice none 0 0] (0, 0) _ rfl (by (with_reducible repeat (first | refine kN_ ?_ _ | refine kD_ ?_ | refine kA_ ?_ _)); refine kP_ (cs := #[.int .i64 0, .int .i64 0, .int .i64 0, .int .i64 0, .slice none 0 0, .string (⟨#[]⟩ : ByteArray), .slice none 0 0]) ?_ 6 _ rfl; (with_reducible repeat (first | refine kN_ ?_ _ | refine kD_ ?_ | refine kA_ ?_ _)); refine kP_ (cs := #[.int .i64 0, .int .i64 0, .int .i64 0, .int .i64 0, .slice none 0 0, .string x308005_1, .slice none 0 0]) ?_ 5 _ rfl; (with_reducible repeat (first | refine kN_ ?_ _ | refine kD_ ?_ | refine kA_ ?_ _)); refine kP_ (cs := #[.int .i64 0, .int .i64 0, .int .i64 0, .int .i64 0, .slice none 0 0, .string x308005_1, .slice none 0 0]) ?_ 4 _ rfl; (with_reducible repeat (first | refine kN_ ?_ _ | refine kD_ ?_ | refine kA_ ?_ _)); refine kP_ (cs := #[.int .i64 0, .int .i64 0, .int .i64 0, .int .i64 x308003_1, .slice none 0 0, .string x308005_1, .slice none 0 0]) ?_ 3 _ rfl; (with_reducible repeat (first | refine kN_ ?_ _ | refine kD_ ?_ | refine kA_ ?_ _)); refine kP_ (cs := #[.int .i64 0, .int .i64 0, .int .i64 x308002_1, .int .i64 x308003_1, .slice none 0 0, .string x308005_1, .slice none 0 0]) ?_ 2 _ rfl; (with_reducible repeat (first | refine kN_ ?_ _ | refine kD_ ?_ | refine kA_ ?_ _)); refine kP_ (cs := #[.int .i64 0, .int .i64 x308001_1, .int .i64 x308002_1, .int .i64 x308003_1, .slice none 0 0, .string x308005_1, .slice none 0 0]) ?_ 1 _ rfl; (with_reducible repeat (first | refine kN_ ?_ _ | refine kD_ ?_ | refine kA_ ?_ _)); refine kP_ (cs := #[.int .i64 x308000_1, .int .i64 x308001_1, .int .i64 x308002_1, .int .i64 x308003_1, .slice none 0 0, .string x308005_1, .slice none 0 0]) ?_ 0 _ rfl; (with_reducible repeat (first | refine kN_ ?_ _ | refine kD_ ?_ | refine kA_ ?_ _)); exact BK307.out) Try.underlying32 rfl (by kernel_rfl)) rfl ?_
       exact ⟨_, _, by first | rfl | (simp [errW_none, errW_some] <;> rfl) | (simp [*, errW_none, errW_some] <;> rfl), Kd.R_V (Kd.R_nil _ _ _ 0 _), Kd.R_V (Kd.R_nil _ _ _ 0 _), by repeat (first | (with_reducible first | exact HB.out | apply bA_ | apply bN_ | apply bD_ | refine bS_ ?_ GE306.out | refine bS_ ?_ GE307.out) | exact HB.out)⟩
      ·rw [if_neg c11] at H
       have c11b0 : decide ((x307006_1.length : Int) ≤ (rd l1 x6_1)) = false := decide_eq_false c11
       clear c11
       by_cases c16 : 0 ≤ (rd l1 x6_1)
       ·rw [if_pos c16] at H
        have c16b0 : decide (0 ≤ (rd l1 x6_1)) = true := decide_eq_true c16
        clear c16
        by_cases c17 : (rd l1 x6_1) < (x307006_1.length : Int)
        ·rw [if_pos c17] at H
         have c17b0 : decide ((rd l1 x6_1) < (x307006_1.length : Int)) = true := decide_eq_true c17
         clear c17
         have H' := Az.mk H
         clear H
         try go_wp2
         have n0_ := Az.mk (Kd.V_drew HO_307004.out)
         have n1_ := Az.mk (Kd.V_drew HO_307006.out)
         have n2_ := Az.mk (kD_ BK306.out)
         have n3_ := Az.mk (kD_ BK307.out)
         have n4_ := Az.mk (bD_ HB.out)
         clear HO_307004
         clear HO_307006
         clear BK306
         clear BK307
         clear HB
         have HO_307004 := n0_
         have HO_307006 := n1_
         have BK306 := n2_
         have BK307 := n3_
         have HB := n4_
         clear n0_ n1_ n2_ n3_ n4_
         have p308 : 0 ≤ (x6_1 : Int) := of_decide_eq_true (by first | (with_reducible assumption) | assumption)
         have q308 : x6_1 < (l1.length : Int) := of_decide_eq_true (by first | (with_reducible assumption) | assumption)
         obtain ⟨ad308, e308, hx308_0⟩ := Kd.at_int HR1.out x6_1 p308 q308
         have hw308_0 := hx308_0
         cases e308
         replace hx308_0 := (HB.out.cell (World.block_lt_of_cell? w _ hx308_0)).trans hx308_0
         replace p308 := eq_true p308
         replace q308 := eq_true q308
         have p309 : 0 ≤ (x6_1 : Int) := of_decide_eq_true (by first | (with_reducible assumption) | assumption)
         have q309 : x6_1 < (l1.length : Int) := of_decide_eq_true (by first | (with_reducible assumption) | assumption)
         obtain ⟨ad309, e309, hx309_0⟩ := Kd.at_int HR1.out x6_1 p309 q309
         have hw309_0 := hx309_0
         obtain rfl : ad308 = ad309 := (by injection e309)
         replace hx309_0 := (HB.out.cell (World.block_lt_of_cell? w _ hx309_0)).trans hx309_0
         replace p309 := eq_true p309
         replace q309 := eq_true q309
         obtain ⟨Ao19, co19, eo19⟩ := Kd.V_slice HO_307006.out
         (first | subst eo19 | (injection eo19 with f1_ f2_ f3_; have f4_ := f1_.symm; have f5_ := f3_.symm; clear f1_ f2_ f3_; subst f4_; subst f5_))
         refine start_ (n := 15) (S := fun w' => w'.cell? ⟨gb306, 0, none⟩ = some (.int .i64 x307000_1) ∧ w'.cell? ⟨gb306, 1, none⟩ = some (.int .i64 x307001_1) ∧ w'.cell? ⟨gb306, 2, none⟩ = some (.int .i64 x307002_1) ∧ w'.cell? ⟨gb306, 3, none⟩ = some (.int .i64 x307003_1) ∧ w'.cell? ⟨gb306, 4, none⟩ = some (u307004) ∧ w'.cell? ⟨gb306, 5, none⟩ = some (.string x307005_1) ∧ w'.cell? ⟨gb306, 6, none⟩ = some (.slice Ao19 x307006_1.length co19) ∧ w'.cell? (ad308.add (x6_1).toNat) = some (.int .i64 (rd l1 x6_1)) ∧ w'.cell? (ad308.add (x6_1).toNat) = some (.int .i64 (rd l1 x6_1))) (ds := []) #[false, false, false, false, false, false, false, false, false, false, false, false, false, false, false] (by kernel_rfl) rfl rfl ⟨(bC_ BK306.out 0).trans rfl, (bC_ BK306.out 1).trans rfl, (bC_ BK306.out 2).trans rfl, (bC_ BK306.out 3).trans rfl, (bC_ BK306.out 4).trans rfl, (bC_ BK306.out 5).trans rfl, (bC_ BK306.out 6).trans rfl, ((HB.out.cell (World.block_lt_of_cell? w _ hw308_0)).trans hw308_0), ((HB.out.cell (World.block_lt_of_cell? w _ hw309_0)).trans hw309_0)⟩ (fun hHeld => ?_); refine with_tabW arboristlaw46_get.tab4 arboristlaw46_get.bits4 (fun HT_ HW_ => ?_)
         generalize wr.drew = w18 at HO_307004 HO_307006 BK306 BK307 HB hx308_0 hx309_0 hHeld ⊢
         refine pure_ (i := 0) (N := some 13) (v := ?_) (a' := ?_) #[true, false, false, false, false, false, false, false, false, false, false, false, false, false, false] rfl rfl (any_of HT_.out (by kernel_rfl)) (fun _ _ _ h => h) (Or.inl ⟨by rfl, ?_⟩) ?_ ?_
         rotate_left
         ·intro w'
          go_simp
          with_reducible rfl
         rotate_left
         ·simp only [Act.put, List.setIfInBounds_toArray, List.set_cons_zero, List.set_cons_succ, i64_w, i32_w]
          rfl
         refine pure_ (i := 1) (N := some 14) (v := ?_) (a' := ?_) #[true, true, false, false, false, false, false, false, false, false, false, false, false, false, false] rfl rfl (any_of HT_.out (by kernel_rfl)) (fun _ _ _ h => h) (Or.inl ⟨by rfl, ?_⟩) ?_ ?_
         rotate_left
         ·intro w'
          go_simp
          with_reducible rfl
         rotate_left
         ·simp only [Act.put, List.setIfInBounds_toArray, List.set_cons_zero, List.set_cons_succ, i64_w, i32_w]
          rfl
         refine pure_ (i := 2) (N := some 15) (v := ?_) (a' := ?_) #[true, true, true, false, false, false, false, false, false, false, false, false, false, false, false] rfl rfl (any_of HT_.out (by kernel_rfl)) (fun _ _ _ h => h) (Or.inl ⟨by rfl, ?_⟩) ?_ ?_
         rotate_left
         ·intro w'
          go_simp
          with_reducible rfl
         rotate_left
         ·simp only [Act.put, List.setIfInBounds_toArray, List.set_cons_zero, List.set_cons_succ, i64_w, i32_w]
          rfl
         refine take_ (i := 3) (N := some 16) (v := ?_) (a' := ?_) #[true, true, true, true, false, false, false, false, false, false, false, false, false, false, false] rfl rfl (take_ofW HT_.out HW_.out (by kernel_rfl)) (fun _ _ _ h => h) (Or.inl ⟨by rfl, ?_⟩) hHeld ?_ ?_
         rotate_left
         ·rintro w' ⟨s0, s1, s2, s3, s4, s5, s6, s7, s8⟩
          go_simp
          with_reducible rfl
         rotate_left
         ·simp only [Act.put, List.setIfInBounds_toArray, List.set_cons_zero, List.set_cons_succ, i64_w, i32_w]
          rfl
         refine pure_ (i := 4) (N := some 17) (v := ?_) (a' := ?_) #[true, true, true, true, true, false, false, false, false, false, false, false, false, false, false] rfl rfl (any_of HT_.out (by kernel_rfl)) (fun _ _ _ h => h) (Or.inl ⟨by rfl, ?_⟩) ?_ ?_
         rotate_left
         ·intro w'
          go_simp
          with_reducible rfl
         rotate_left
         ·simp only [Act.put, List.setIfInBounds_toArray, List.set_cons_zero, List.set_cons_succ, i64_w, i32_w]
          rfl
         refine pure_ (i := 5) (N := some 18) (v := ?_) (a' := ?_) #[true, true, true, true, true, true, false, false, false, false, false, false, false, false, false] rfl rfl (any_of HT_.out (by kernel_rfl)) (fun _ _ _ h => h) (Or.inl ⟨by rfl, ?_⟩) ?_ ?_
         rotate_left
         ·intro w'
          go_simp
          with_reducible rfl
         rotate_left
         ·simp only [Act.put, List.setIfInBounds_toArray, List.set_cons_zero, List.set_cons_succ, i64_w, i32_w]
          rfl
         refine pure_ (i := 6) (N := some 19) (v := ?_) (a' := ?_) #[true, true, true, true, true, true, true, false, false, false, false, false, false, false, false] rfl rfl (any_of HT_.out (by kernel_rfl)) (fun _ _ _ h => h) (Or.inl ⟨by rfl, ?_⟩) ?_ ?_
         rotate_left
         ·intro w'
          go_simp
          with_reducible rfl
         rotate_left
         ·simp only [Act.put, List.setIfInBounds_toArray, List.set_cons_zero, List.set_cons_succ, i64_w, i32_w]
          rfl
         refine pure_ (i := 7) (N := some 20) (v := ?_) (a' := ?_) #[true, true, true, true, true, true, true, true, false, false, false, false, false, false, false] rfl rfl (any_of HT_.out (by kernel_rfl)) (fun _ _ _ h => h) (Or.inl ⟨by rfl, ?_⟩) ?_ ?_
         rotate_left
         ·intro w'
          go_simp
          with_reducible rfl
         rotate_left
         ·simp only [Act.put, List.setIfInBounds_toArray, List.set_cons_zero, List.set_cons_succ, i64_w, i32_w]
          rfl
         refine pure_ (i := 8) (N := some 21) (v := ?_) (a' := ?_) #[true, true, true, true, true, true, true, true, true, false, false, false, false, false, false] rfl rfl (any_of HT_.out (by kernel_rfl)) (fun _ _ _ h => h) (Or.inl ⟨by rfl, ?_⟩) ?_ ?_
         rotate_left
         ·intro w'
          go_simp
          with_reducible rfl
         rotate_left
         ·simp only [Act.put, List.setIfInBounds_toArray, List.set_cons_zero, List.set_cons_succ, i64_w, i32_w]
          rfl
         refine pure_ (i := 10) (N := some 23) (v := ?_) (a' := ?_) #[true, true, true, true, true, true, true, true, true, false, true, false, false, false, false] rfl rfl (any_of HT_.out (by kernel_rfl)) (fun _ _ _ h => h) (Or.inl ⟨by rfl, ?_⟩) ?_ ?_
         rotate_left
         ·intro w'
          go_simp
          with_reducible rfl
         rotate_left
         ·simp only [Act.put, List.setIfInBounds_toArray, List.set_cons_zero, List.set_cons_succ, i64_w, i32_w]
          rfl
         refine take_ (i := 9) (N := some 22) (v := ?_) (a' := ?_) #[true, true, true, true, true, true, true, true, true, true, true, false, false, false, false] rfl rfl (take_ofW HT_.out HW_.out (by kernel_rfl)) (fun _ _ _ h => h) (Or.inl ⟨by rfl, ?_⟩) hHeld ?_ ?_
         rotate_left
         ·rintro w' ⟨s0, s1, s2, s3, s4, s5, s6, s7, s8⟩
          go_simp
          with_reducible rfl
         rotate_left
         ·simp only [Act.put, List.setIfInBounds_toArray, List.set_cons_zero, List.set_cons_succ, i64_w, i32_w]
          rfl
         refine take_ (i := 11) (N := some 24) (v := ?_) (a' := ?_) #[true, true, true, true, true, true, true, true, true, true, true, true, false, false, false] rfl rfl (take_ofW HT_.out HW_.out (by kernel_rfl)) (fun _ _ _ h => h) (Or.inl ⟨by rfl, ?_⟩) hHeld ?_ ?_
         rotate_left
         ·rintro w' ⟨s0, s1, s2, s3, s4, s5, s6, s7, s8⟩
          go_simp
          with_reducible rfl
         rotate_left
         ·simp only [Act.put, List.setIfInBounds_toArray, List.set_cons_zero, List.set_cons_succ, i64_w, i32_w]
          rfl
         refine pure_ (i := 12) (N := some 25) (v := ?_) (a' := ?_) #[true, true, true, true, true, true, true, true, true, true, true, true, true, false, false] rfl rfl (any_of HT_.out (by kernel_rfl)) (fun _ _ _ h => h) (Or.inl ⟨by rfl, ?_⟩) ?_ ?_
         rotate_left
         ·intro w'
          go_simp
          with_reducible rfl
         rotate_left
         ·simp only [Act.put, List.setIfInBounds_toArray, List.set_cons_zero, List.set_cons_succ, i64_w, i32_w]
          rfl
         refine pure_ (i := 13) (N := some 26) (v := ?_) (a' := ?_) #[true, true, true, true, true, true, true, true, true, true, true, true, true, true, false] rfl rfl (any_of HT_.out (by kernel_rfl)) (fun _ _ _ h => h) (Or.inl ⟨by rfl, ?_⟩) ?_ ?_
         rotate_left
         ·intro w'
          go_simp
          with_reducible rfl
         rotate_left
         ·simp only [Act.put, List.setIfInBounds_toArray, List.set_cons_zero, List.set_cons_succ, i64_w, i32_w]
          rfl
         refine pure_ (i := 14) (N := some 27) (v := ?_) (a' := ?_) #[true, true, true, true, true, true, true, true, true, true, true, true, true, true, true] rfl rfl (any_of HT_.out (by kernel_rfl)) (fun _ _ _ h => h) (Or.inl ⟨by rfl, ?_⟩) ?_ ?_
         rotate_left
         ·intro w'
          go_simp
          with_reducible rfl
         rotate_left
         ·simp only [Act.put, List.setIfInBounds_toArray, List.set_cons_zero, List.set_cons_succ, i64_w, i32_w]
          rfl
         refine done_ (done_of HT_.out (by kernel_rfl)) ?_
         try go_wp2
         have n0_ := Az.mk (Kd.V_drew HO_307004.out)
         have n1_ := Az.mk (Kd.V_drew HO_307006.out)
         have n2_ := Az.mk (kD_ BK306.out)
         have n3_ := Az.mk (kD_ BK307.out)
         have n4_ := Az.mk (bD_ HB.out)
         clear HO_307004
         clear HO_307006
         clear BK306
         clear BK307
         clear HB
         have HO_307004 := n0_
         have HO_307006 := n1_
         have BK306 := n2_
         have BK307 := n3_
         have HB := n4_
         clear n0_ n1_ n2_ n3_ n4_
         have p310 : 0 ≤ (x6_1 : Int) := of_decide_eq_true (by first | (with_reducible assumption) | assumption)
         have q310 : x6_1 < (l1.length : Int) := of_decide_eq_true (by first | (with_reducible assumption) | assumption)
         obtain ⟨ad310, e310, hx310_0⟩ := Kd.at_int HR1.out x6_1 p310 q310
         have hw310_0 := hx310_0
         obtain rfl : ad308 = ad310 := (by injection e310)
         replace hx310_0 := (HB.out.cell (World.block_lt_of_cell? w _ hx310_0)).trans hx310_0
         replace p310 := eq_true p310
         replace q310 := eq_true q310
         have p311 : 0 ≤ ((rd l1 x6_1) : Int) := of_decide_eq_true (by first | (with_reducible assumption) | assumption)
         have q311 : (rd l1 x6_1) < (x307006_1.length : Int) := of_decide_eq_true (by first | (with_reducible assumption) | assumption)
         obtain ⟨ad311, A311_4, c311_4, A311_6, c311_6, e311, hx311_0, hx311_1, hx311_2, hx311_3, hx311_4, hx311_5, hx311_6, hl311_4, hi311_4, hl311_6, hi311_6⟩ := at_T32 (Kd.V_reads' HO_307006.out).2.2 (rd l1 x6_1) p311 q311
         cases e311
         obtain ⟨ce311, hce311, hMe311, hcc311⟩ := Kd.V_get HO_307006.out z32 (rd l1 x6_1) p311 (by first | exact q311 | exact of_decide_eq_true (by first | (with_reducible assumption) | assumption) | (have e_ := (Kd.V_reads' HO_307006.out).1; omega))
         obtain ⟨ua311_4, uc311_4, ua311_6, uc311_6, rfl, ul311_4, ge311_4, ul311_6, ge311_6⟩ := k32_openF hMe311
         have hv311_4 := hcc311 4 _ rfl
         rw [add_field _ _ 4 (by omega)] at hv311_4
         replace hv311_4 := Option.some.inj (hv311_4.symm.trans hx311_4)
         injection hv311_4 with hva_ hvn_ hvc_
         rw [hva_] at ge311_4
         rw [hvc_] at ul311_4
         have HL311_4 := Az.mk (show Kd.V k53 53 _ w.heap.size _ _ ((rd_T32 x307006_1 (rd l1 x6_1)).f4) from Kd.V_mk ul311_4 ge311_4)
         clear hva_ hvn_ hvc_ ge311_4 ul311_4
         have hv311_6 := hcc311 6 _ rfl
         rw [add_field _ _ 6 (by omega)] at hv311_6
         replace hv311_6 := Option.some.inj (hv311_6.symm.trans hx311_6)
         injection hv311_6 with hva_ hvn_ hvc_
         rw [hva_] at ge311_6
         rw [hvc_] at ul311_6
         have HL311_6 := Az.mk (show Kd.V k32 32 _ w.heap.size _ _ ((rd_T32 x307006_1 (rd l1 x6_1)).f6) from Kd.V_mk ul311_6 ge311_6)
         clear hva_ hvn_ hvc_ ge311_6 ul311_6
         clear hcc311 hce311
         have HR311_4 := Az.mk hi311_4
         have HC311_4 := Az.mk hl311_4
         clear hi311_4 hl311_4
         have HR311_6 := Az.mk hi311_6
         have HC311_6 := Az.mk hl311_6
         clear hi311_6 hl311_6
         replace p311 := eq_true p311
         replace q311 := eq_true q311
         refine start_ (n := 9) (S := fun w' => w'.cell? ⟨gb306, 0, none⟩ = some (.int .i64 x307000_1) ∧ w'.cell? ⟨gb306, 1, none⟩ = some (.int .i64 x307001_1) ∧ w'.cell? ⟨gb306, 2, none⟩ = some (.int .i64 x307002_1) ∧ w'.cell? ⟨gb306, 3, none⟩ = some (.int .i64 x307003_1) ∧ w'.cell? ⟨gb306, 4, none⟩ = some (u307004) ∧ w'.cell? ⟨gb306, 5, none⟩ = some (.string x307005_1) ∧ w'.cell? ⟨gb306, 6, none⟩ = some (.slice (some ad311) x307006_1.length co19) ∧ w'.cell? (ad308.add (x6_1).toNat) = some (.int .i64 (rd l1 x6_1)) ∧ w'.cell? (ad311.add (((rd l1 x6_1)).toNat * 7)) = some (.int .i64 ((rd_T32 x307006_1 (rd l1 x6_1)).f0)) ∧ w'.cell? ⟨(ad311.add (((rd l1 x6_1)).toNat * 7)).block, (ad311.add (((rd l1 x6_1)).toNat * 7)).off + 1, none⟩ = some (.int .i64 ((rd_T32 x307006_1 (rd l1 x6_1)).f1)) ∧ w'.cell? ⟨(ad311.add (((rd l1 x6_1)).toNat * 7)).block, (ad311.add (((rd l1 x6_1)).toNat * 7)).off + 2, none⟩ = some (.int .i64 ((rd_T32 x307006_1 (rd l1 x6_1)).f2)) ∧ w'.cell? ⟨(ad311.add (((rd l1 x6_1)).toNat * 7)).block, (ad311.add (((rd l1 x6_1)).toNat * 7)).off + 3, none⟩ = some (.int .i64 ((rd_T32 x307006_1 (rd l1 x6_1)).f3)) ∧ w'.cell? ⟨(ad311.add (((rd l1 x6_1)).toNat * 7)).block, (ad311.add (((rd l1 x6_1)).toNat * 7)).off + 4, none⟩ = some (.slice A311_4 ((rd_T32 x307006_1 (rd l1 x6_1)).f4).length c311_4) ∧ w'.cell? ⟨(ad311.add (((rd l1 x6_1)).toNat * 7)).block, (ad311.add (((rd l1 x6_1)).toNat * 7)).off + 5, none⟩ = some (.string ((rd_T32 x307006_1 (rd l1 x6_1)).f5)) ∧ w'.cell? ⟨(ad311.add (((rd l1 x6_1)).toNat * 7)).block, (ad311.add (((rd l1 x6_1)).toNat * 7)).off + 6, none⟩ = some (.slice A311_6 ((rd_T32 x307006_1 (rd l1 x6_1)).f6).length c311_6)) (ds := [8]) #[false, false, false, false, false, false, false, false, false] (by kernel_rfl) rfl rfl ⟨(bC_ BK306.out 0).trans rfl, (bC_ BK306.out 1).trans rfl, (bC_ BK306.out 2).trans rfl, (bC_ BK306.out 3).trans rfl, (bC_ BK306.out 4).trans rfl, (bC_ BK306.out 5).trans rfl, (bC_ BK306.out 6).trans rfl, ((HB.out.cell (World.block_lt_of_cell? w _ hw310_0)).trans hw310_0), hx311_0, hx311_1, hx311_2, hx311_3, hx311_4, hx311_5, hx311_6⟩ (fun hHeld => ?_); refine with_tabW arboristlaw46_get.tab6 arboristlaw46_get.bits6 (fun HT_ HW_ => ?_)
         generalize w18.drew = w20 at HO_307004 HO_307006 BK306 BK307 HB HL311_4 HL311_6 HR311_4 HR311_6 hx310_0 hx311_0 hx311_1 hx311_2 hx311_3 hx311_4 hx311_5 hx311_6 hHeld ⊢
         refine pure_ (i := 0) (N := some 29) (v := ?_) (a' := ?_) #[true, false, false, false, false, false, false, false, false] rfl rfl (any_of HT_.out (by kernel_rfl)) (fun _ _ _ h => h) (Or.inl ⟨by rfl, ?_⟩) ?_ ?_
         rotate_left
         ·intro w'
          go_simp
          with_reducible rfl
         rotate_left
         ·simp only [Act.put, List.setIfInBounds_toArray, List.set_cons_zero, List.set_cons_succ, i64_w, i32_w]
          rfl
         refine pure_ (i := 2) (N := some 31) (v := ?_) (a' := ?_) #[true, false, true, false, false, false, false, false, false] rfl rfl (any_of HT_.out (by kernel_rfl)) (fun _ _ _ h => h) (Or.inl ⟨by rfl, ?_⟩) ?_ ?_
         rotate_left
         ·intro w'
          go_simp
          with_reducible rfl
         rotate_left
         ·simp only [Act.put, List.setIfInBounds_toArray, List.set_cons_zero, List.set_cons_succ, i64_w, i32_w]
          rfl
         refine pure_ (i := 3) (N := some 32) (v := ?_) (a' := ?_) #[true, false, true, true, false, false, false, false, false] rfl rfl (any_of HT_.out (by kernel_rfl)) (fun _ _ _ h => h) (Or.inl ⟨by rfl, ?_⟩) ?_ ?_
         rotate_left
         ·intro w'
          go_simp
          with_reducible rfl
         rotate_left
         ·simp only [Act.put, List.setIfInBounds_toArray, List.set_cons_zero, List.set_cons_succ, i64_w, i32_w]
          rfl
         refine pure_ (i := 4) (N := some 33) (v := ?_) (a' := ?_) #[true, false, true, true, true, false, false, false, false] rfl rfl (any_of HT_.out (by kernel_rfl)) (fun _ _ _ h => h) (Or.inl ⟨by rfl, ?_⟩) ?_ ?_
         rotate_left
         ·intro w'
          go_simp
          with_reducible rfl
         rotate_left
         ·simp only [Act.put, List.setIfInBounds_toArray, List.set_cons_zero, List.set_cons_succ, i64_w, i32_w]
          rfl
         refine take_ (i := 1) (N := some 30) (v := ?_) (a' := ?_) #[true, true, true, true, true, false, false, false, false] rfl rfl (take_ofW HT_.out HW_.out (by kernel_rfl)) (fun _ _ _ h => h) (Or.inl ⟨by rfl, ?_⟩) hHeld ?_ ?_
         rotate_left
         ·rintro w' ⟨s0, s1, s2, s3, s4, s5, s6, s7, s8, s9, s10, s11, s12, s13, s14⟩
          go_simp
          with_reducible rfl
         rotate_left
         ·simp only [Act.put, List.setIfInBounds_toArray, List.set_cons_zero, List.set_cons_succ, i64_w, i32_w]
          rfl
         refine take_ (i := 5) (N := some 34) (v := ?_) (a' := ?_) #[true, true, true, true, true, true, false, false, false] rfl rfl (take_ofW HT_.out HW_.out (by kernel_rfl)) (fun _ _ _ h => h) (Or.inl ⟨by rfl, ?_⟩) hHeld ?_ ?_
         rotate_left
         ·rintro w' ⟨s0, s1, s2, s3, s4, s5, s6, s7, s8, s9, s10, s11, s12, s13, s14⟩
          go_simp
          with_reducible rfl
         rotate_left
         ·simp only [Act.put, List.setIfInBounds_toArray, List.set_cons_zero, List.set_cons_succ, i64_w, i32_w]
          rfl
         refine pure_ (i := 6) (N := some 35) (v := ?_) (a' := ?_) #[true, true, true, true, true, true, true, false, false] rfl rfl (any_of HT_.out (by kernel_rfl)) (fun _ _ _ h => h) (Or.inl ⟨by rfl, ?_⟩) ?_ ?_
         rotate_left
         ·intro w'
          go_simp
          with_reducible rfl
         rotate_left
         ·simp only [Act.put, List.setIfInBounds_toArray, List.set_cons_zero, List.set_cons_succ, i64_w, i32_w]
          rfl
         refine take_ (i := 7) (N := some 36) (v := ?_) (a' := ?_) #[true, true, true, true, true, true, true, true, false] rfl rfl (take_ofW HT_.out HW_.out (by kernel_rfl)) (fun _ _ _ h => h) (Or.inl ⟨by rfl, ?_⟩) hHeld ?_ ?_
         rotate_left
         ·rintro w' ⟨s0, s1, s2, s3, s4, s5, s6, s7, s8, s9, s10, s11, s12, s13, s14⟩
          go_simp
          with_reducible rfl
         rotate_left
         ·simp only [Act.put, List.setIfInBounds_toArray, List.set_cons_zero, List.set_cons_succ, i64_w, i32_w]
          rfl
         refine last_ (i := 8) (N := none) #[true, true, true, true, true, true, true, true, true] rfl rfl (one_of HT_.out (by kernel_rfl)) (by decide) (fun K hK => ?_)
         have hs21 : w20.cell? ⟨gb306, 0, none⟩ = some (.int .i64 x307000_1) := (bC_ BK306.out 0).trans rfl
         have hfs21 := bF_ BK306.out 0
         have hns21_1 := NB307_306.out
         have hms21_1 := NB306_307.out
         have hs22 : w20.cell? ⟨gb306, 1, none⟩ = some (.int .i64 x307001_1) := (bC_ BK306.out 1).trans rfl
         have hfs22 := bF_ BK306.out 1
         have hns22_1 := NB307_306.out
         have hms22_1 := NB306_307.out
         have hs23 : w20.cell? ⟨gb306, 2, none⟩ = some (.int .i64 x307002_1) := (bC_ BK306.out 2).trans rfl
         have hfs23 := bF_ BK306.out 2
         have hns23_1 := NB307_306.out
         have hms23_1 := NB306_307.out
         have hs24 : w20.cell? ⟨gb306, 3, none⟩ = some (.int .i64 x307003_1) := (bC_ BK306.out 3).trans rfl
         have hfs24 := bF_ BK306.out 3
         have hns24_1 := NB307_306.out
         have hms24_1 := NB306_307.out
         have hs25 : w20.cell? ⟨gb306, 4, none⟩ = some (u307004) := (bC_ BK306.out 4).trans rfl
         have hfs25 := bF_ BK306.out 4
         have hns25_1 := NB307_306.out
         have hms25_1 := NB306_307.out
         have hs26 : w20.cell? ⟨gb306, 5, none⟩ = some (.string x307005_1) := (bC_ BK306.out 5).trans rfl
         have hfs26 := bF_ BK306.out 5
         have hns26_1 := NB307_306.out
         have hms26_1 := NB306_307.out
         have hs27 : w20.cell? ⟨gb306, 6, none⟩ = some (.slice (some ad311) x307006_1.length co19) := (bC_ BK306.out 6).trans rfl
         have hfs27 := bF_ BK306.out 6
         have hns27_1 := NB307_306.out
         have hms27_1 := NB306_307.out
         refine skip_ (w1 := ?_) (by rfl) rfl ?_ ?_
         rotate_left
         ·go_simp
          rfl
         refine hK.out _ _ ?_
         clear hK K
         refine done_ (done_of HT_.out (by kernel_rfl)) ?_
         try go_wp2
         go_roundg k1
         case measure => have := HK1.out; omega
         case rel => exact ⟨(wrap64 (x6_1 + 1)), ((rd_T32 x307006_1 (rd l1 x6_1)).f0), ((rd_T32 x307006_1 (rd l1 x6_1)).f1), ((rd_T32 x307006_1 (rd l1 x6_1)).f2), ((rd_T32 x307006_1 (rd l1 x6_1)).f3), ((rd_T32 x307006_1 (rd l1 x6_1)).f4), ((rd_T32 x307006_1 (rd l1 x6_1)).f5), ((rd_T32 x307006_1 (rd l1 x6_1)).f6), (x308000_1), (x308001_1), (x308002_1), (x308003_1), (x308005_1), (.slice A311_4 ((rd_T32 x307006_1 (rd l1 x6_1)).f4).length c311_4), (.slice A311_6 ((rd_T32 x307006_1 (rd l1 x6_1)).f6).length c311_6), (by first | rfl | (simp; done) | (simp [*]; done) | (refine congrArg Value.bool ?_; exact isE_ _)), H', ⟨by have := HK1.out; omega⟩, ⟨by (with_reducible repeat (first | apply Kd.V_alloc | apply Kd.V_drewN | apply Kd.V_drew)); exact Kd.V_mono (Kd.V_far (p := ⟨gb306, 6, none⟩) (Kd.V_far (p := ⟨gb306, 5, none⟩) (Kd.V_far (p := ⟨gb306, 4, none⟩) (Kd.V_far (p := ⟨gb306, 3, none⟩) (Kd.V_far (p := ⟨gb306, 2, none⟩) (Kd.V_far (p := ⟨gb306, 1, none⟩) (Kd.V_far (p := ⟨gb306, 0, none⟩) (Kd.V_mono HL311_4.out (fun k_ hk => (⟨hk, hk.2.1⟩ : _ ∧ k_ ≠ gb306))) (fun _ hk => hk.2) (.int .i64 ((rd_T32 x307006_1 (rd l1 x6_1)).f0))) (fun _ hk => hk.2) (.int .i64 ((rd_T32 x307006_1 (rd l1 x6_1)).f1))) (fun _ hk => hk.2) (.int .i64 ((rd_T32 x307006_1 (rd l1 x6_1)).f2))) (fun _ hk => hk.2) (.int .i64 ((rd_T32 x307006_1 (rd l1 x6_1)).f3))) (fun _ hk => hk.2) (.slice A311_4 ((rd_T32 x307006_1 (rd l1 x6_1)).f4).length c311_4)) (fun _ hk => hk.2) (.string ((rd_T32 x307006_1 (rd l1 x6_1)).f5))) (fun _ hk => hk.2) (.slice A311_6 ((rd_T32 x307006_1 (rd l1 x6_1)).f6).length c311_6)) (fun _ hk => ⟨hk.1.1, ⟨hk.1.2.1, hk.1.2.2⟩⟩)⟩, ⟨by (with_reducible repeat (first | apply Kd.V_alloc | apply Kd.V_drewN | apply Kd.V_drew)); exact Kd.V_mono (Kd.V_far (p := ⟨gb306, 6, none⟩) (Kd.V_far (p := ⟨gb306, 5, none⟩) (Kd.V_far (p := ⟨gb306, 4, none⟩) (Kd.V_far (p := ⟨gb306, 3, none⟩) (Kd.V_far (p := ⟨gb306, 2, none⟩) (Kd.V_far (p := ⟨gb306, 1, none⟩) (Kd.V_far (p := ⟨gb306, 0, none⟩) (Kd.V_mono HL311_6.out (fun k_ hk => (⟨hk, hk.2.1⟩ : _ ∧ k_ ≠ gb306))) (fun _ hk => hk.2) (.int .i64 ((rd_T32 x307006_1 (rd l1 x6_1)).f0))) (fun _ hk => hk.2) (.int .i64 ((rd_T32 x307006_1 (rd l1 x6_1)).f1))) (fun _ hk => hk.2) (.int .i64 ((rd_T32 x307006_1 (rd l1 x6_1)).f2))) (fun _ hk => hk.2) (.int .i64 ((rd_T32 x307006_1 (rd l1 x6_1)).f3))) (fun _ hk => hk.2) (.slice A311_4 ((rd_T32 x307006_1 (rd l1 x6_1)).f4).length c311_4)) (fun _ hk => hk.2) (.string ((rd_T32 x307006_1 (rd l1 x6_1)).f5))) (fun _ hk => hk.2) (.slice A311_6 ((rd_T32 x307006_1 (rd l1 x6_1)).f6).length c311_6)) (fun _ hk => ⟨hk.1.1, ⟨hk.1.2.1, hk.1.2.2⟩⟩)⟩, ⟨by (with_reducible repeat (first | refine kN_ ?_ _ | refine kD_ ?_ | refine kA_ ?_ _)); refine kP_ (cs := #[.int .i64 ((rd_T32 x307006_1 (rd l1 x6_1)).f0), .int .i64 ((rd_T32 x307006_1 (rd l1 x6_1)).f1), .int .i64 ((rd_T32 x307006_1 (rd l1 x6_1)).f2), .int .i64 ((rd_T32 x307006_1 (rd l1 x6_1)).f3), .slice A311_4 ((rd_T32 x307006_1 (rd l1 x6_1)).f4).length c311_4, .string ((rd_T32 x307006_1 (rd l1 x6_1)).f5), .slice (some ad311) x307006_1.length co19]) ?_ 6 _ rfl; (with_reducible repeat (first | refine kN_ ?_ _ | refine kD_ ?_ | refine kA_ ?_ _)); refine kP_ (cs := #[.int .i64 ((rd_T32 x307006_1 (rd l1 x6_1)).f0), .int .i64 ((rd_T32 x307006_1 (rd l1 x6_1)).f1), .int .i64 ((rd_T32 x307006_1 (rd l1 x6_1)).f2), .int .i64 ((rd_T32 x307006_1 (rd l1 x6_1)).f3), .slice A311_4 ((rd_T32 x307006_1 (rd l1 x6_1)).f4).length c311_4, .string x307005_1, .slice (some ad311) x307006_1.length co19]) ?_ 5 _ rfl; (with_reducible repeat (first | refine kN_ ?_ _ | refine kD_ ?_ | refine kA_ ?_ _)); refine kP_ (cs := #[.int .i64 ((rd_T32 x307006_1 (rd l1 x6_1)).f0), .int .i64 ((rd_T32 x307006_1 (rd l1 x6_1)).f1), .int .i64 ((rd_T32 x307006_1 (rd l1 x6_1)).f2), .int .i64 ((rd_T32 x307006_1 (rd l1 x6_1)).f3), u307004, .string x307005_1, .slice (some ad311) x307006_1.length co19]) ?_ 4 _ rfl; (with_reducible repeat (first | refine kN_ ?_ _ | refine kD_ ?_ | refine kA_ ?_ _)); refine kP_ (cs := #[.int .i64 ((rd_T32 x307006_1 (rd l1 x6_1)).f0), .int .i64 ((rd_T32 x307006_1 (rd l1 x6_1)).f1), .int .i64 ((rd_T32 x307006_1 (rd l1 x6_1)).f2), .int .i64 x307003_1, u307004, .string x307005_1, .slice (some ad311) x307006_1.length co19]) ?_ 3 _ rfl; (with_reducible repeat (first | refine kN_ ?_ _ | refine kD_ ?_ | refine kA_ ?_ _)); refine kP_ (cs := #[.int .i64 ((rd_T32 x307006_1 (rd l1 x6_1)).f0), .int .i64 ((rd_T32 x307006_1 (rd l1 x6_1)).f1), .int .i64 x307002_1, .int .i64 x307003_1, u307004, .string x307005_1, .slice (some ad311) x307006_1.length co19]) ?_ 2 _ rfl; (with_reducible repeat (first | refine kN_ ?_ _ | refine kD_ ?_ | refine kA_ ?_ _)); refine kP_ (cs := #[.int .i64 ((rd_T32 x307006_1 (rd l1 x6_1)).f0), .int .i64 x307001_1, .int .i64 x307002_1, .int .i64 x307003_1, u307004, .string x307005_1, .slice (some ad311) x307006_1.length co19]) ?_ 1 _ rfl; (with_reducible repeat (first | refine kN_ ?_ _ | refine kD_ ?_ | refine kA_ ?_ _)); refine kP_ (cs := #[.int .i64 x307000_1, .int .i64 x307001_1, .int .i64 x307002_1, .int .i64 x307003_1, u307004, .string x307005_1, .slice (some ad311) x307006_1.length co19]) ?_ 0 _ rfl; (with_reducible repeat (first | refine kN_ ?_ _ | refine kD_ ?_ | refine kA_ ?_ _)); exact BK306.out⟩, ⟨by (with_reducible repeat (first | refine kN_ ?_ _ | refine kD_ ?_ | refine kA_ ?_ _)); refine kF_ ?_ NB307_306.out _; (with_reducible repeat (first | refine kN_ ?_ _ | refine kD_ ?_ | refine kA_ ?_ _)); refine kF_ ?_ NB307_306.out _; (with_reducible repeat (first | refine kN_ ?_ _ | refine kD_ ?_ | refine kA_ ?_ _)); refine kF_ ?_ NB307_306.out _; (with_reducible repeat (first | refine kN_ ?_ _ | refine kD_ ?_ | refine kA_ ?_ _)); refine kF_ ?_ NB307_306.out _; (with_reducible repeat (first | refine kN_ ?_ _ | refine kD_ ?_ | refine kA_ ?_ _)); refine kF_ ?_ NB307_306.out _; (with_reducible repeat (first | refine kN_ ?_ _ | refine kD_ ?_ | refine kA_ ?_ _)); refine kF_ ?_ NB307_306.out _; (with_reducible repeat (first | refine kN_ ?_ _ | refine kD_ ?_ | refine kA_ ?_ _)); refine kF_ ?_ NB307_306.out _; (with_reducible repeat (first | refine kN_ ?_ _ | refine kD_ ?_ | refine kA_ ?_ _)); exact BK307.out⟩, ⟨by repeat (first | (with_reducible first | exact HB.out | apply bA_ | apply bN_ | apply bD_ | refine bS_ ?_ GE306.out | refine bS_ ?_ GE307.out) | exact HB.out)⟩⟩
        ·rw [if_neg c17] at H
         exact absurd H (by simp)
       ·rw [if_neg c16] at H
        exact absurd H (by simp)
    ·rw [if_neg c6] at H
     exact absurd H (by simp)
   ·rw [if_neg c5] at H
    have c5b0 : decide (x6_1 < (l1.length : Int)) = false := decide_eq_false c5
    clear c5
    simp only [Option.some.injEq, Prod.mk.injEq] at H
    obtain ⟨rfl, rfl, rfl, rfl, rfl, rfl, rfl, rfl⟩ := H
    have hnb28 := NB306_307.out
    have hnc28 := NB307_306.out
    have hcz29_0 : wr.cell? ⟨gb306, 0, none⟩ = some (.int .i64 x307000_1) := (bC_ BK306.out 0).trans rfl
    have hcz29_1 : wr.cell? ⟨gb306, 1, none⟩ = some (.int .i64 x307001_1) := (bC_ BK306.out 1).trans rfl
    have hcz29_2 : wr.cell? ⟨gb306, 2, none⟩ = some (.int .i64 x307002_1) := (bC_ BK306.out 2).trans rfl
    have hcz29_3 : wr.cell? ⟨gb306, 3, none⟩ = some (.int .i64 x307003_1) := (bC_ BK306.out 3).trans rfl
    have hcz29_4 : wr.cell? ⟨gb306, 4, none⟩ = some (u307004) := (bC_ BK306.out 4).trans rfl
    have hcz29_5 : wr.cell? ⟨gb306, 5, none⟩ = some (.string x307005_1) := (bC_ BK306.out 5).trans rfl
    have hcz29_6 : wr.cell? ⟨gb306, 6, none⟩ = some (u307006) := (bC_ BK306.out 6).trans rfl
    have hfz29_0 := bF_ BK306.out 0
    have hfz29_1 := bF_ BK306.out 1
    have hfz29_2 := bF_ BK306.out 2
    have hfz29_3 := bF_ BK306.out 3
    have hfz29_4 := bF_ BK306.out 4
    have hfz29_5 := bF_ BK306.out 5
    have hfz29_6 := bF_ BK306.out 6
    have hcz30_0 : wr.cell? ⟨gb307, 0, none⟩ = some (.int .i64 x308000_1) := (bC_ BK307.out 0).trans rfl
    have hcz30_1 : wr.cell? ⟨gb307, 1, none⟩ = some (.int .i64 x308001_1) := (bC_ BK307.out 1).trans rfl
    have hcz30_2 : wr.cell? ⟨gb307, 2, none⟩ = some (.int .i64 x308002_1) := (bC_ BK307.out 2).trans rfl
    have hcz30_3 : wr.cell? ⟨gb307, 3, none⟩ = some (.int .i64 x308003_1) := (bC_ BK307.out 3).trans rfl
    have hcz30_4 : wr.cell? ⟨gb307, 4, none⟩ = some (.slice none 0 0) := (bC_ BK307.out 4).trans rfl
    have hcz30_5 : wr.cell? ⟨gb307, 5, none⟩ = some (.string x308005_1) := (bC_ BK307.out 5).trans rfl
    have hcz30_6 : wr.cell? ⟨gb307, 6, none⟩ = some (.slice none 0 0) := (bC_ BK307.out 6).trans rfl
    have hfz30_0 := bF_ BK307.out 0
    have hfz30_1 := bF_ BK307.out 1
    have hfz30_2 := bF_ BK307.out 2
    have hfz30_3 := bF_ BK307.out 3
    have hfz30_4 := bF_ BK307.out 4
    have hfz30_5 := bF_ BK307.out 5
    have hfz30_6 := bF_ BK307.out 6
    obtain ⟨Ao31, co31, eo31⟩ := Kd.V_slice HO_307004.out
    subst eo31
    obtain ⟨Ao32, co32, eo32⟩ := Kd.V_slice HO_307006.out
    subst eo32
    go_wp2
    refine bodyPost_ret (results_ct rfl _ _ gb307 32 #[.int .i64 x307000_1, .int .i64 x307001_1, .int .i64 x307002_1, .int .i64 x307003_1, .slice Ao31 x307004_1.length co31, .string x307005_1, .slice Ao32 x307006_1.length co32] (0, 0) _ rfl (by (with_reducible repeat (first | refine kN_ ?_ _ | refine kD_ ?_ | refine kA_ ?_ _)); refine kP_ (cs := #[.int .i64 x307000_1, .int .i64 x307001_1, .int .i64 x307002_1, .int .i64 x307003_1, .slice Ao31 x307004_1.length co31, .string x307005_1, .slice none 0 0]) ?_ 6 _ rfl; (with_reducible repeat (first | refine kN_ ?_ _ | refine kD_ ?_ | refine kA_ ?_ _)); refine kP_ (cs := #[.int .i64 x307000_1, .int .i64 x307001_1, .int .i64 x307002_1, .int .i64 x307003_1, .slice Ao31 x307004_1.length co31, .string x308005_1, .slice none 0 0]) ?_ 5 _ rfl; (with_reducible repeat (first | refine kN_ ?_ _ | refine kD_ ?_ | refine kA_ ?_ _)); refine kP_ (cs := #[.int .i64 x307000_1, .int .i64 x307001_1, .int .i64 x307002_1, .int .i64 x307003_1, .slice none 0 0, .string x308005_1, .slice none 0 0]) ?_ 4 _ rfl; (with_reducible repeat (first | refine kN_ ?_ _ | refine kD_ ?_ | refine kA_ ?_ _)); refine kP_ (cs := #[.int .i64 x307000_1, .int .i64 x307001_1, .int .i64 x307002_1, .int .i64 x308003_1, .slice none 0 0, .string x308005_1, .slice none 0 0]) ?_ 3 _ rfl; (with_reducible repeat (first | refine kN_ ?_ _ | refine kD_ ?_ | refine kA_ ?_ _)); refine kP_ (cs := #[.int .i64 x307000_1, .int .i64 x307001_1, .int .i64 x308002_1, .int .i64 x308003_1, .slice none 0 0, .string x308005_1, .slice none 0 0]) ?_ 2 _ rfl; (with_reducible repeat (first | refine kN_ ?_ _ | refine kD_ ?_ | refine kA_ ?_ _)); refine kP_ (cs := #[.int .i64 x307000_1, .int .i64 x308001_1, .int .i64 x308002_1, .int .i64 x308003_1, .slice none 0 0, .string x308005_1, .slice none 0 0]) ?_ 1 _ rfl; (with_reducible repeat (first | refine kN_ ?_ _ | refine kD_ ?_ | refine kA_ ?_ _)); refine kP_ (cs := #[.int .i64 x308000_1, .int .i64 x308001_1, .int .i64 x308002_1, .int .i64 x308003_1, .slice none 0 0, .string x308005_1, .slice none 0 0]) ?_ 0 _ rfl; (with_reducible repeat (first | refine kN_ ?_ _ | refine kD_ ?_ | refine kA_ ?_ _)); exact BK307.out) Try.underlying32 rfl (by kernel_rfl)) rfl ?_
    exact ⟨_, _, by first | rfl | (simp [errW_none, errW_some] <;> rfl) | (simp [*, errW_none, errW_some] <;> rfl), by (with_reducible repeat (first | apply Kd.V_alloc | apply Kd.V_drewN | apply Kd.V_drew)); exact Kd.V_mono (Kd.V_far (p := ⟨gb307, 6, none⟩) (Kd.V_far (p := ⟨gb307, 5, none⟩) (Kd.V_far (p := ⟨gb307, 4, none⟩) (Kd.V_far (p := ⟨gb307, 3, none⟩) (Kd.V_far (p := ⟨gb307, 2, none⟩) (Kd.V_far (p := ⟨gb307, 1, none⟩) (Kd.V_far (p := ⟨gb307, 0, none⟩) (Kd.V_mono HO_307004.out (fun k_ hk => (⟨hk, hk.2.2⟩ : _ ∧ k_ ≠ gb307))) (fun _ hk => hk.2) (.int .i64 x307000_1)) (fun _ hk => hk.2) (.int .i64 x307001_1)) (fun _ hk => hk.2) (.int .i64 x307002_1)) (fun _ hk => hk.2) (.int .i64 x307003_1)) (fun _ hk => hk.2) (.slice Ao31 x307004_1.length co31)) (fun _ hk => hk.2) (.string x307005_1)) (fun _ hk => hk.2) (.slice Ao32 x307006_1.length co32)) (fun _ hk => hk.1.1), by (with_reducible repeat (first | apply Kd.V_alloc | apply Kd.V_drewN | apply Kd.V_drew)); exact Kd.V_mono (Kd.V_far (p := ⟨gb307, 6, none⟩) (Kd.V_far (p := ⟨gb307, 5, none⟩) (Kd.V_far (p := ⟨gb307, 4, none⟩) (Kd.V_far (p := ⟨gb307, 3, none⟩) (Kd.V_far (p := ⟨gb307, 2, none⟩) (Kd.V_far (p := ⟨gb307, 1, none⟩) (Kd.V_far (p := ⟨gb307, 0, none⟩) (Kd.V_mono HO_307006.out (fun k_ hk => (⟨hk, hk.2.2⟩ : _ ∧ k_ ≠ gb307))) (fun _ hk => hk.2) (.int .i64 x307000_1)) (fun _ hk => hk.2) (.int .i64 x307001_1)) (fun _ hk => hk.2) (.int .i64 x307002_1)) (fun _ hk => hk.2) (.int .i64 x307003_1)) (fun _ hk => hk.2) (.slice Ao31 x307004_1.length co31)) (fun _ hk => hk.2) (.string x307005_1)) (fun _ hk => hk.2) (.slice Ao32 x307006_1.length co32)) (fun _ hk => hk.1.1), by repeat (first | (with_reducible first | exact HB.out | apply bA_ | apply bN_ | apply bD_ | refine bS_ ?_ GE306.out | refine bS_ ?_ GE307.out) | exact HB.out)⟩
end Go.Proofs.Ytgdbcogbbghjaaa.Q
