import Derived.Test.YtfofdmoakjkndaaHc
import Derived.Test.YtfofdmoakjkndaaQf27
namespace Go.Proofs.Ytfofdmoakjkndaa.Hand
open Go.RowKit Go.Proofs.YtfofdmoakjkndaaW.PrintWords Go.Proofs.YtfofdmoakjkndaaW.PrintLast Go.Proofs.YtfofdmoakjkndaaW.PrintMore
set_option linter.unusedVariables false
set_option linter.unusedSimpArgs false

theorem smallR_calls (p d : Int) (s : ByteArray) (w : World) (b : Bool) (hb : decide (0 ≤ p ∧ p ≤ 65536 ∧ 0 ≤ d ∧ d ≤ 65536 ∧ s.size ≤ 65536) = b) :
   Calls Try.prog 27 #[.agg #[.int .i64 p, .int .i64 d, .string s]] w fun e w' => e = .returned (.bool b) ∧ Below w.heap.size w w' := by
  refine Q.arboristref02_Small.calls p d s b w ?_
  rw [← hb]
  unfold Q.arboristref02_Small.f
  by_cases h1 : p ≥ 0 <;> by_cases h2 : p ≤ 65536 <;> by_cases h3 : d ≥ 0 <;> by_cases h4 : d ≤ 65536 <;> simp [h1, h2, h3, h4] <;> omega

def insR1 (p p2 : Int) (s s2 : ByteArray) : ByteArray := if p2 > p then s.extract 0 (p2 - p).toNat ++ s2 else s2
def insR (p p2 d2 : Int) (s s2 : ByteArray) : ByteArray := if p2 + d2 < p + s.size then insR1 p p2 s s2 ++ s.extract (p2 + d2 - p).toNat s.size else insR1 p p2 s s2
def joinsR (p d p2 d2 : Int) (s s2 : ByteArray) : Int × Int × ByteArray × Bool :=
  if ((0 ≤ p ∧ p ≤ 65536 ∧ 0 ≤ d ∧ d ≤ 65536 ∧ s.size ≤ 65536) ∧ (0 ≤ p2 ∧ p2 ≤ 65536 ∧ 0 ≤ d2 ∧ d2 ≤ 65536 ∧ s2.size ≤ 65536)) ∧ p2 ≤ p + s.size ∧ p ≤ p2 + d2 then
    (mni p p2, d + (mxi 0 (p - p2) + mxi 0 (p2 + d2 - (p + s.size))), insR p p2 d2 s s2, true)
  else (0, 0, ⟨#[]⟩, false)

attribute [local go_sem] max2_int min2_int max_two min_two in
set_option maxHeartbeats 16000000 in
theorem refJoin_calls (p d p2 d2 : Int) (s s2 : ByteArray) (w : World) :
   Calls Try.prog 22 #[.agg #[.int .i64 p, .int .i64 d, .string s], .agg #[.int .i64 p2, .int .i64 d2, .string s2]] w fun e w' =>
     e = .returned (.tuple #[.agg #[.int .i64 (joinsR p d p2 d2 s s2).1, .int .i64 (joinsR p d p2 d2 s s2).2.1, .string (joinsR p d p2 d2 s s2).2.2.1], .bool (joinsR p d p2 d2 s s2).2.2.2]) ∧ Below w.heap.size w w' := by
  have hu := Try.underlying32
  obtain ⟨b1, hb1⟩ : ∃ b, decide (0 ≤ p ∧ p ≤ 65536 ∧ 0 ≤ d ∧ d ≤ 65536 ∧ s.size ≤ 65536) = b := ⟨_, rfl⟩
  obtain ⟨b2, hb2⟩ : ∃ b, decide (0 ≤ p2 ∧ p2 ≤ 65536 ∧ 0 ≤ d2 ∧ d2 ≤ 65536 ∧ s2.size ≤ 65536) = b := ⟨_, rfl⟩
  replace hb1 := Aside0.mk hb1
  replace hb2 := Aside0.mk hb2
  obtain ⟨r, hr⟩ : ∃ r, joinsR p d p2 d2 s s2 = r := ⟨_, rfl⟩
  rw [hr]
  replace hr := Aside0.mk hr
  go_enter Try.func22, Try.ntmps22
  go_wp2_with (fail)
  obtain ⟨W, hW⟩ : ∃ W : World, (((w.alloc (Obj.cells #[.int .i64 p, .int .i64 d, .string s] 32)).alloc (Obj.cells #[.int .i64 p2, .int .i64 d2, .string s2] 32)).alloc
    (Obj.cells #[Value.int IntKind.i64 0, Value.int IntKind.i64 0, Value.string { data := #[] }] 32)) = W := ⟨_, rfl⟩
  have f1 : W.heap[w.heap.size]? = some (.cells #[.int .i64 p, .int .i64 d, .string s] 32 (0,0)) := by rw [← hW]; exact blk_alloc (blk_alloc (heap_alloc_new _ _) _) _
  have f2 : W.heap[w.heap.size + 1]? = some (.cells #[.int .i64 p2, .int .i64 d2, .string s2] 32 (0,0)) := by rw [← hW]; exact blk_alloc (by simpa using heap_alloc_new (w.alloc (Obj.cells #[.int .i64 p, .int .i64 d, .string s] 32)) (Obj.cells #[.int .i64 p2, .int .i64 d2, .string s2] 32)) _
  have f3 : W.heap[w.heap.size + 1 + 1]? = some (.cells #[.int .i64 0, .int .i64 0, .string ⟨#[]⟩] 32 (0,0)) := by rw [← hW]; simpa using heap_alloc_new ((w.alloc (Obj.cells #[.int .i64 p, .int .i64 d, .string s] 32)).alloc (Obj.cells #[.int .i64 p2, .int .i64 d2, .string s2] 32)) (Obj.cells #[Value.int IntKind.i64 0, Value.int IntKind.i64 0, Value.string { data := #[] }] 32)
  have hB : Below w.heap.size w W := by rw [← hW]; exact below_alloc (below_alloc (below_alloc (Below.refl _ _) _) _) _
  rw [hW]
  clear hW
  obtain ⟨A, hA⟩ : ∃ A, w.heap.size = A := ⟨_, rfl⟩
  rw [hA] at f1 f2 f3 ⊢
  have hS : St w W p d p2 d2 s s2 A := ⟨f1, f2, f3, hA, hB⟩
  clear f1 f2 f3 hA hB
  refine (smallR_calls p d s _ _ hb1.out).mono ?_
  rintro e W1 ⟨rfl, hb⟩
  replace hS := hS.step hb
  clear hb
  have c1 : ∀ {W1 : World}, St w W1 p d p2 d2 s s2 A → (W1.cell? ⟨A, 0, none⟩ = some (.int .i64 p) ∧ W1.cell? ⟨A, 1, none⟩ = some (.int .i64 d) ∧ W1.cell? ⟨A, 2, none⟩ = some (.string s)) ∧ (W1.cell? ⟨A + 1, 0, none⟩ = some (.int .i64 p2) ∧ W1.cell? ⟨A + 1, 1, none⟩ = some (.int .i64 d2) ∧ W1.cell? ⟨A + 1, 2, none⟩ = some (.string s2)) ∧
      (W1.cell? ⟨A + 1 + 1, 0, none⟩ = some (.int .i64 0) ∧ W1.cell? ⟨A + 1 + 1, 1, none⟩ = some (.int .i64 0) ∧ W1.cell? ⟨A + 1 + 1, 2, none⟩ = some (.string ⟨#[]⟩)) ∧ (∀ i, W1.frozen? ⟨A + 1 + 1, i, none⟩ = false) := fun h =>
    ⟨⟨(blk_cell h.f1 0).trans rfl, (blk_cell h.f1 1).trans rfl, (blk_cell h.f1 2).trans rfl⟩, ⟨(blk_cell h.f2 0).trans rfl, (blk_cell h.f2 1).trans rfl, (blk_cell h.f2 2).trans rfl⟩, ⟨(blk_cell h.f3 0).trans rfl, (blk_cell h.f3 1).trans rfl, (blk_cell h.f3 2).trans rfl⟩, fun i => blk_frozen h.f3 i⟩
  replace c1 := Aside0.mk @c1
  cases b1 with
  | false =>
    have hr0 : r = (0, 0, ⟨#[]⟩, false) := by rw [← hr.out]; unfold joinsR; rw [if_neg (fun h => by have := of_decide_eq_false hb1.out; exact this h.1.1)]
    subst hr0
    obtain ⟨⟨q1, q2, q3⟩, ⟨q4, q5, q6⟩, ⟨q7, q8, q9⟩, q10⟩ := c1.out hS
    clear hr hb1 hb2 c1
    go_wp2
    refine bodyPost_ret (results_ct rfl _ _ (A + 1 + 1) 32 #[.int .i64 0, .int .i64 0, .string (⟨#[]⟩ : ByteArray)] (0, 0) _ rfl (blk_put (blk_put (blk_put (blk_drewN hS.f3 0) 0 _ rfl) 1 _ rfl) 2 _ rfl) Try.underlying32 rfl (by kernel_rfl)) rfl ?_
    exact ⟨rfl, below_set (below_set (below_set (pw_below_drewN hS.hB 0) (by rw [hS.hA]; omega)) (by rw [hS.hA]; omega)) (by rw [hS.hA]; omega)⟩
  | true =>
    have g1 := of_decide_eq_true hb1.out
    obtain ⟨⟨q1, q2, q3⟩, ⟨q4, q5, q6⟩, ⟨q7, q8, q9⟩, q10⟩ := c1.out hS
    clear hb1
    go_wp2_with (fail)
    refine (smallR_calls p2 d2 s2 _ _ hb2.out).mono ?_
    clear q1 q2 q3 q4 q5 q6 q7 q8 q9 q10
    rintro e W2 ⟨rfl, hb⟩
    replace hS := hS.step hb
    clear hb
    have hbad : ¬ (((0 ≤ p ∧ p ≤ 65536 ∧ 0 ≤ d ∧ d ≤ 65536 ∧ s.size ≤ 65536) ∧ (0 ≤ p2 ∧ p2 ≤ 65536 ∧ 0 ≤ d2 ∧ d2 ≤ 65536 ∧ s2.size ≤ 65536)) ∧ p2 ≤ p + s.size ∧ p ≤ p2 + d2) → r = (0, 0, ⟨#[]⟩, false) := fun h => by rw [← hr.out]; unfold joinsR; rw [if_neg h]
    replace hbad := Aside0.mk hbad
    obtain ⟨⟨q1, q2, q3⟩, ⟨q4, q5, q6⟩, ⟨q7, q8, q9⟩, q10⟩ := c1.out hS
    have c1' := c1
    clear c1
    cases b2 with
    | false =>
      have hr0 := hbad.out (fun h => by have := of_decide_eq_false hb2.out; exact this h.1.2)
      subst hr0
      clear hr hb2 hbad
      go_wp2
      refine bodyPost_ret (results_ct rfl _ _ (A + 1 + 1) 32 #[.int .i64 0, .int .i64 0, .string (⟨#[]⟩ : ByteArray)] (0, 0) _ rfl (blk_put (blk_put (blk_put (blk_drewN hS.f3 0) 0 _ rfl) 1 _ rfl) 2 _ rfl) Try.underlying32 rfl (by kernel_rfl)) rfl ?_
      exact ⟨rfl, below_set (below_set (below_set (pw_below_drewN hS.hB 0) (by rw [hS.hA]; omega)) (by rw [hS.hA]; omega)) (by rw [hS.hA]; omega)⟩
    | true =>
      have g2 := of_decide_eq_true hb2.out
      clear hb2
      obtain ⟨g11, g12, g13, g14, g15⟩ := g1
      obtain ⟨g21, g22, g23, g24, g25⟩ := g2
      have w1 : IntKind.i64.wrap (p2 + d2) = p2 + d2 := IntWalk.i64_in _ (by omega)
      have w2 : IntKind.i64.wrap (p + s.size) = p + s.size := IntWalk.i64_in _ (by omega)
      by_cases h1 : p2 > p + s.size
      · have hr0 := hbad.out (fun h => by omega)
        subst hr0
        have h1' : decide (p + s.size < p2) = true := decide_eq_true h1
        clear hr hbad
        go_wp2
        go_quiet (fail)
        go_wp2
        refine bodyPost_ret (results_ct rfl _ _ (A + 1 + 1) 32 #[.int .i64 0, .int .i64 0, .string (⟨#[]⟩ : ByteArray)] (0, 0) _ rfl (blk_put (blk_put (blk_put (blk_drewN hS.f3 _) 0 _ rfl) 1 _ rfl) 2 _ rfl) Try.underlying32 rfl (by kernel_rfl)) rfl ?_
        exact ⟨rfl, below_set (below_set (below_set (pw_below_drewN hS.hB _) (by rw [hS.hA]; omega)) (by rw [hS.hA]; omega)) (by rw [hS.hA]; omega)⟩
      · have h1' : decide (p + s.size < p2) = false := decide_eq_false h1
        by_cases h2 : p2 + d2 < p
        · have hr0 := hbad.out (fun h => by omega)
          subst hr0
          have h2' : decide (p2 + d2 < p) = true := decide_eq_true h2
          clear hr hbad
          go_wp2
          go_quiet (fail)
          go_wp2
          refine bodyPost_ret (results_ct rfl _ _ (A + 1 + 1) 32 #[.int .i64 0, .int .i64 0, .string (⟨#[]⟩ : ByteArray)] (0, 0) _ rfl (blk_put (blk_put (blk_put (blk_drewN hS.f3 _) 0 _ rfl) 1 _ rfl) 2 _ rfl) Try.underlying32 rfl (by kernel_rfl)) rfl ?_
          exact ⟨rfl, below_set (below_set (below_set (pw_below_drewN hS.hB _) (by rw [hS.hA]; omega)) (by rw [hS.hA]; omega)) (by rw [hS.hA]; omega)⟩
        · have h2' : decide (p2 + d2 < p) = false := decide_eq_false h2
          have hgood : r = (mni p p2, d + (mxi 0 (p - p2) + mxi 0 (p2 + d2 - (p + s.size))), insR p p2 d2 s s2, true) := by
            rw [← hr.out]; unfold joinsR; rw [if_pos ⟨⟨⟨g11, g12, g13, g14, g15⟩, ⟨g21, g22, g23, g24, g25⟩⟩, by omega, by omega⟩]
          replace hr : Aside0 ((mni p p2, d + (mxi 0 (p - p2) + mxi 0 (p2 + d2 - (p + s.size))), insR p p2 d2 s s2, true) = r) := ⟨hgood.symm⟩
          clear hbad hgood
          go_wp2
          go_quiet (fail)
          generalize hW3 : World.drewN W2 _ = W3
          have hS3 : St w W3 p d p2 d2 s s2 A := by rw [← hW3]; exact ⟨hS.f1, hS.f2, hS.f3, hS.hA, pw_below_drewN hS.hB _⟩
          clear q1 q2 q3 q4 q5 q6 q7 q8 q9 q10 hS hW3
          obtain ⟨⟨q1, q2, q3⟩, ⟨q4, q5, q6⟩, ⟨q7, q8, q9⟩, q10⟩ := c1'.out hS3
          clear c1'
          have v0 : ∀ o, (W3.alloc o).cell? ⟨A, 0, none⟩ = some (.int .i64 p) := fun o => (blk_cell (blk_alloc hS3.f1 o) 0).trans rfl
          have v1 : ∀ o, (W3.alloc o).cell? ⟨A, 1, none⟩ = some (.int .i64 d) := fun o => (blk_cell (blk_alloc hS3.f1 o) 1).trans rfl
          have v2 : ∀ o, (W3.alloc o).cell? ⟨A, 2, none⟩ = some (.string s) := fun o => (blk_cell (blk_alloc hS3.f1 o) 2).trans rfl
          have v3 : ∀ o, (W3.alloc o).cell? ⟨A + 1, 0, none⟩ = some (.int .i64 p2) := fun o => (blk_cell (blk_alloc hS3.f2 o) 0).trans rfl
          have v4 : ∀ o, (W3.alloc o).cell? ⟨A + 1, 1, none⟩ = some (.int .i64 d2) := fun o => (blk_cell (blk_alloc hS3.f2 o) 1).trans rfl
          have v5 : ∀ o, (W3.alloc o).cell? ⟨A + 1, 2, none⟩ = some (.string s2) := fun o => (blk_cell (blk_alloc hS3.f2 o) 2).trans rfl
          have v6 : ∀ o, (W3.alloc o).cell? ⟨A + 1 + 1, 0, none⟩ = some (.int .i64 0) := fun o => (blk_cell (blk_alloc hS3.f3 o) 0).trans rfl
          have v7 : ∀ o, (W3.alloc o).cell? ⟨A + 1 + 1, 1, none⟩ = some (.int .i64 0) := fun o => (blk_cell (blk_alloc hS3.f3 o) 1).trans rfl
          have v8 : ∀ o, (W3.alloc o).cell? ⟨A + 1 + 1, 2, none⟩ = some (.string ⟨#[]⟩) := fun o => (blk_cell (blk_alloc hS3.f3 o) 2).trans rfl
          have v9 : ∀ o i, (W3.alloc o).frozen? ⟨A + 1 + 1, i, none⟩ = false := fun o i => blk_frozen (blk_alloc hS3.f3 o) i
          have hlt : A + 1 + 1 < W3.heap.size := blk_lt hS3.f3
          have w7 : IntKind.i64.wrap (p2 - p) = p2 - p := IntWalk.i64_in _ (by omega)
          have w8 : IntKind.i64.wrap (p2 + d2 - p) = p2 + d2 - p := IntWalk.i64_in _ (by omega)
          rcases Int.lt_trichotomy p p2 with h3 | h3 | h3
          · have h3' : decide (p < p2) = true := decide_eq_true h3
            have zz3 : (p2 < p) = False := eq_false (by omega)
            rcases Int.lt_trichotomy (p2 + d2) (p + s.size) with h4 | h4 | h4
            · have h4' : decide (p2 + d2 < p + s.size) = true := decide_eq_true h4
              have zz4 : (p + s.size < p2 + d2) = False := eq_false (by omega)
              obtain rfl : r = (p, d, ((s.extract 0 (p2 - p).toNat ++ s2) ++ s.extract (p2 + d2 - p).toNat s.size), true) := by
                rw [← hr.out]; unfold mni mxi insR insR1
                rw [if_neg (show ¬ p2 < p by omega), if_neg (show ¬ 0 < p - p2 by omega), if_neg (show ¬ 0 < p2 + d2 - (p + s.size) by omega)]
                rw [if_pos h4, if_pos h3]
                simp only [Int.add_zero, Int.zero_add]
              clear hr
              have w10 : IntKind.i64.wrap (d) = d := IntWalk.i64_in _ (by omega)
              have u1 : (0 : Int) ≤ p2 + d2 - p := by omega
              have u2 : p2 + d2 - p ≤ s.size := by omega
              have u3 : (0 : Int) ≤ p2 - p := by omega
              have u4 : p2 - p ≤ s.size := by omega
              go_wp2
              obtain ⟨W4, hW4⟩ : ∃ W4, W3.alloc (Obj.cells #[.int .i64 (p), .int .i64 (d), .string s2] 32) = W4 := ⟨_, rfl⟩
              rw [hW4]
              have e1 : W4.heap[A]? = _ := hW4 ▸ blk_alloc hS3.f1 _
              have e2 : W4.heap[A + 1]? = _ := hW4 ▸ blk_alloc hS3.f2 _
              have e3 : W4.heap[A + 1 + 1]? = _ := hW4 ▸ blk_alloc hS3.f3 _
              have e4 : W4.heap[W3.heap.size]? = _ := hW4 ▸ blk_new _ _
              have eB : Below w.heap.size w W4 := hW4 ▸ below_alloc hS3.hB _
              generalize W3.heap.size = Bk at e4 hlt ⊢
              clear hW4 v0 v1 v2 v3 v4 v5 v6 v7 v8 v9 q1 q2 q3 q4 q5 q6 q7 q8 q9 q10
              have ca0 : W4.cell? ⟨A, 0, none⟩ = some (.int .i64 p) := (blk_cell e1 0).trans rfl
              have ca2 : W4.cell? ⟨A, 2, none⟩ = some (.string s) := (blk_cell e1 2).trans rfl
              have cb0 : W4.cell? ⟨A + 1, 0, none⟩ = some (.int .i64 p2) := (blk_cell e2 0).trans rfl
              have cn2 : W4.cell? ⟨Bk, 2, none⟩ = some (.string s2) := (blk_cell e4 2).trans rfl
              have fn2 : W4.frozen? ⟨Bk, 2, none⟩ = false := blk_frozen e4 2
              obtain ⟨t10, ht10⟩ : ∃ t, s.extract 0 (p2 - p).toNat = t := ⟨_, rfl⟩
              have zs10 : t10.size ≤ 65536 := by rw [← ht10, ByteArray.size_extract]; omega
              have zt10 : (9223372036854775807 < t10.size + s2.size) = False := eq_false (by omega)
              have zu10 : t10.size + s2.size ≤ 9223372036854775807 := by omega
              go_region
              obtain ⟨W5, hW5⟩ : ∃ W_, ((W4.setCell { block := Bk, off := 2 } (Value.string (t10 ++ s2))).drew) = W_ := ⟨_, rfl⟩
              rw [hW5]
              replace e1 : W5.heap[A]? = _ := hW5 ▸ blk_drew (blk_far e1 (by simp; omega) _)
              replace e2 : W5.heap[A + 1]? = _ := hW5 ▸ blk_drew (blk_far e2 (by simp; omega) _)
              replace e3 : W5.heap[A + 1 + 1]? = _ := hW5 ▸ blk_drew (blk_far e3 (by simp; omega) _)
              replace e4 : W5.heap[Bk]? = some (.cells #[.int .i64 (p), .int .i64 (d), .string (t10 ++ s2)] 32 (0,0)) := hW5 ▸ blk_drew (blk_put e4 2 _ rfl)
              replace eB : Below w.heap.size w W5 := hW5 ▸ below_drew (below_set eB (by rw [hS3.hA]; omega))
              clear hW5 ca0 ca2 cb0 cn2 fn2
              obtain ⟨y, hy⟩ : ∃ y, t10 ++ s2 = y := ⟨_, rfl⟩
              have zy : y.size ≤ 200000 := by rw [← hy, ByteArray.size_append]; omega
              rw [hy] at e4
              skip
              simp only [hy]
              go_wp2
              have ca0 : W5.cell? ⟨A, 0, none⟩ = some (.int .i64 p) := (blk_cell e1 0).trans rfl
              have ca2 : W5.cell? ⟨A, 2, none⟩ = some (.string s) := (blk_cell e1 2).trans rfl
              have cb0 : W5.cell? ⟨A + 1, 0, none⟩ = some (.int .i64 p2) := (blk_cell e2 0).trans rfl
              have cn2 : W5.cell? ⟨Bk, 2, none⟩ = some (.string y) := (blk_cell e4 2).trans rfl
              have fn2 : W5.frozen? ⟨Bk, 2, none⟩ = false := blk_frozen e4 2
              obtain ⟨t12, ht12⟩ : ∃ t, s.extract (p2 + d2 - p).toNat s.size = t := ⟨_, rfl⟩
              have zs12 : t12.size ≤ 65536 := by rw [← ht12, ByteArray.size_extract]; omega
              have zt12 : (9223372036854775807 < y.size + t12.size) = False := eq_false (by omega)
              have zu12 : y.size + t12.size ≤ 9223372036854775807 := by omega
              go_region
              obtain ⟨W6, hW6⟩ : ∃ W_, ((W5.setCell { block := Bk, off := 2 } (Value.string (y ++ t12))).drew) = W_ := ⟨_, rfl⟩
              rw [hW6]
              replace e1 : W6.heap[A]? = _ := hW6 ▸ blk_drew (blk_far e1 (by simp; omega) _)
              replace e2 : W6.heap[A + 1]? = _ := hW6 ▸ blk_drew (blk_far e2 (by simp; omega) _)
              replace e3 : W6.heap[A + 1 + 1]? = _ := hW6 ▸ blk_drew (blk_far e3 (by simp; omega) _)
              replace e4 : W6.heap[Bk]? = some (.cells #[.int .i64 (p), .int .i64 (d), .string (y ++ t12)] 32 (0,0)) := hW6 ▸ blk_drew (blk_put e4 2 _ rfl)
              replace eB : Below w.heap.size w W6 := hW6 ▸ below_drew (below_set eB (by rw [hS3.hA]; omega))
              clear hW6 ca0 ca2 cb0 cn2 fn2
              have cz0 : W6.cell? ⟨A + 1 + 1, 0, none⟩ = some (.int .i64 0) := (blk_cell e3 0).trans rfl
              have cz1 : W6.cell? ⟨A + 1 + 1, 1, none⟩ = some (.int .i64 0) := (blk_cell e3 1).trans rfl
              have cz2 : W6.cell? ⟨A + 1 + 1, 2, none⟩ = some (.string ⟨#[]⟩) := (blk_cell e3 2).trans rfl
              have fz : ∀ i, W6.frozen? ⟨A + 1 + 1, i, none⟩ = false := fun i => blk_frozen e3 i
              have cy0 : W6.cell? ⟨Bk, 0, none⟩ = some (.int .i64 (p)) := (blk_cell e4 0).trans rfl
              have cy1 : W6.cell? ⟨Bk, 1, none⟩ = some (.int .i64 (d)) := (blk_cell e4 1).trans rfl
              have cy2 : W6.cell? ⟨Bk, 2, none⟩ = some (.string ((y ++ t12))) := (blk_cell e4 2).trans rfl
              go_wp2
              refine bodyPost_ret (results_ct rfl _ _ (A + 1 + 1) 32 #[.int .i64 (p), .int .i64 (d), .string ((y ++ t12))] (0, 0) _ rfl (blk_put (blk_put (blk_put (blk_drewN e3 0) 0 _ rfl) 1 _ rfl) 2 _ rfl) Try.underlying32 rfl (by kernel_rfl)) rfl ?_
              refine ⟨?_, below_set (below_set (below_set (pw_below_drewN eB 0) (by rw [hS3.hA]; omega)) (by rw [hS3.hA]; omega)) (by rw [hS3.hA]; omega)⟩
              simp only [ht10, ht12, hy]
              rfl
            · have h4' : decide (p2 + d2 < p + s.size) = false := decide_eq_false (by omega)
              have zz4 : (p + s.size < p2 + d2) = False := eq_false (by omega)
              obtain rfl : r = (p, d, (s.extract 0 (p2 - p).toNat ++ s2), true) := by
                rw [← hr.out]; unfold mni mxi insR insR1
                rw [if_neg (show ¬ p2 < p by omega), if_neg (show ¬ 0 < p - p2 by omega), if_neg (show ¬ 0 < p2 + d2 - (p + s.size) by omega)]
                rw [if_neg (show ¬ p2 + d2 < p + s.size by omega), if_pos h3]
                simp only [Int.add_zero, Int.zero_add]
              clear hr
              have w10 : IntKind.i64.wrap (d) = d := IntWalk.i64_in _ (by omega)
              have u1 : (0 : Int) ≤ p2 + d2 - p := by omega
              have u3 : (0 : Int) ≤ p2 - p := by omega
              have u4 : p2 - p ≤ s.size := by omega
              replace h4 := Aside0.mk h4
              go_wp2
              obtain ⟨W4, hW4⟩ : ∃ W4, W3.alloc (Obj.cells #[.int .i64 (p), .int .i64 (d), .string s2] 32) = W4 := ⟨_, rfl⟩
              rw [hW4]
              have e1 : W4.heap[A]? = _ := hW4 ▸ blk_alloc hS3.f1 _
              have e2 : W4.heap[A + 1]? = _ := hW4 ▸ blk_alloc hS3.f2 _
              have e3 : W4.heap[A + 1 + 1]? = _ := hW4 ▸ blk_alloc hS3.f3 _
              have e4 : W4.heap[W3.heap.size]? = _ := hW4 ▸ blk_new _ _
              have eB : Below w.heap.size w W4 := hW4 ▸ below_alloc hS3.hB _
              generalize W3.heap.size = Bk at e4 hlt ⊢
              clear hW4 v0 v1 v2 v3 v4 v5 v6 v7 v8 v9 q1 q2 q3 q4 q5 q6 q7 q8 q9 q10
              have ca0 : W4.cell? ⟨A, 0, none⟩ = some (.int .i64 p) := (blk_cell e1 0).trans rfl
              have ca2 : W4.cell? ⟨A, 2, none⟩ = some (.string s) := (blk_cell e1 2).trans rfl
              have cb0 : W4.cell? ⟨A + 1, 0, none⟩ = some (.int .i64 p2) := (blk_cell e2 0).trans rfl
              have cn2 : W4.cell? ⟨Bk, 2, none⟩ = some (.string s2) := (blk_cell e4 2).trans rfl
              have fn2 : W4.frozen? ⟨Bk, 2, none⟩ = false := blk_frozen e4 2
              obtain ⟨t10, ht10⟩ : ∃ t, s.extract 0 (p2 - p).toNat = t := ⟨_, rfl⟩
              have zs10 : t10.size ≤ 65536 := by rw [← ht10, ByteArray.size_extract]; omega
              have zt10 : (9223372036854775807 < t10.size + s2.size) = False := eq_false (by omega)
              have zu10 : t10.size + s2.size ≤ 9223372036854775807 := by omega
              go_region
              obtain ⟨W5, hW5⟩ : ∃ W_, ((W4.setCell { block := Bk, off := 2 } (Value.string (t10 ++ s2))).drew) = W_ := ⟨_, rfl⟩
              rw [hW5]
              replace e1 : W5.heap[A]? = _ := hW5 ▸ blk_drew (blk_far e1 (by simp; omega) _)
              replace e2 : W5.heap[A + 1]? = _ := hW5 ▸ blk_drew (blk_far e2 (by simp; omega) _)
              replace e3 : W5.heap[A + 1 + 1]? = _ := hW5 ▸ blk_drew (blk_far e3 (by simp; omega) _)
              replace e4 : W5.heap[Bk]? = some (.cells #[.int .i64 (p), .int .i64 (d), .string (t10 ++ s2)] 32 (0,0)) := hW5 ▸ blk_drew (blk_put e4 2 _ rfl)
              replace eB : Below w.heap.size w W5 := hW5 ▸ below_drew (below_set eB (by rw [hS3.hA]; omega))
              clear hW5 ca0 ca2 cb0 cn2 fn2
              have cz0 : W5.cell? ⟨A + 1 + 1, 0, none⟩ = some (.int .i64 0) := (blk_cell e3 0).trans rfl
              have cz1 : W5.cell? ⟨A + 1 + 1, 1, none⟩ = some (.int .i64 0) := (blk_cell e3 1).trans rfl
              have cz2 : W5.cell? ⟨A + 1 + 1, 2, none⟩ = some (.string ⟨#[]⟩) := (blk_cell e3 2).trans rfl
              have fz : ∀ i, W5.frozen? ⟨A + 1 + 1, i, none⟩ = false := fun i => blk_frozen e3 i
              have cy0 : W5.cell? ⟨Bk, 0, none⟩ = some (.int .i64 (p)) := (blk_cell e4 0).trans rfl
              have cy1 : W5.cell? ⟨Bk, 1, none⟩ = some (.int .i64 (d)) := (blk_cell e4 1).trans rfl
              have cy2 : W5.cell? ⟨Bk, 2, none⟩ = some (.string ((t10 ++ s2))) := (blk_cell e4 2).trans rfl
              go_wp2
              refine bodyPost_ret (results_ct rfl _ _ (A + 1 + 1) 32 #[.int .i64 (p), .int .i64 (d), .string ((t10 ++ s2))] (0, 0) _ rfl (blk_put (blk_put (blk_put (blk_drewN e3 0) 0 _ rfl) 1 _ rfl) 2 _ rfl) Try.underlying32 rfl (by kernel_rfl)) rfl ?_
              refine ⟨?_, below_set (below_set (below_set (pw_below_drewN eB 0) (by rw [hS3.hA]; omega)) (by rw [hS3.hA]; omega)) (by rw [hS3.hA]; omega)⟩
              simp only [ht10]
              rfl
            · have h4' : decide (p2 + d2 < p + s.size) = false := decide_eq_false (by omega)
              have zz4 : (p + s.size < p2 + d2) = True := eq_true h4
              obtain rfl : r = (p, d + (p2 + d2 - (p + s.size)), (s.extract 0 (p2 - p).toNat ++ s2), true) := by
                rw [← hr.out]; unfold mni mxi insR insR1
                rw [if_neg (show ¬ p2 < p by omega), if_neg (show ¬ 0 < p - p2 by omega), if_pos (show 0 < p2 + d2 - (p + s.size) by omega)]
                rw [if_neg (show ¬ p2 + d2 < p + s.size by omega), if_pos h3]
                simp only [Int.add_zero, Int.zero_add]
              clear hr
              have w10 : IntKind.i64.wrap (d + (p2 + d2 - (p + s.size))) = d + (p2 + d2 - (p + s.size)) := IntWalk.i64_in _ (by omega)
              have u1 : (0 : Int) ≤ p2 + d2 - p := by omega
              have u3 : (0 : Int) ≤ p2 - p := by omega
              have u4 : p2 - p ≤ s.size := by omega
              go_wp2
              obtain ⟨W4, hW4⟩ : ∃ W4, W3.alloc (Obj.cells #[.int .i64 (p), .int .i64 (d + (p2 + d2 - (p + s.size))), .string s2] 32) = W4 := ⟨_, rfl⟩
              rw [hW4]
              have e1 : W4.heap[A]? = _ := hW4 ▸ blk_alloc hS3.f1 _
              have e2 : W4.heap[A + 1]? = _ := hW4 ▸ blk_alloc hS3.f2 _
              have e3 : W4.heap[A + 1 + 1]? = _ := hW4 ▸ blk_alloc hS3.f3 _
              have e4 : W4.heap[W3.heap.size]? = _ := hW4 ▸ blk_new _ _
              have eB : Below w.heap.size w W4 := hW4 ▸ below_alloc hS3.hB _
              generalize W3.heap.size = Bk at e4 hlt ⊢
              clear hW4 v0 v1 v2 v3 v4 v5 v6 v7 v8 v9 q1 q2 q3 q4 q5 q6 q7 q8 q9 q10
              have ca0 : W4.cell? ⟨A, 0, none⟩ = some (.int .i64 p) := (blk_cell e1 0).trans rfl
              have ca2 : W4.cell? ⟨A, 2, none⟩ = some (.string s) := (blk_cell e1 2).trans rfl
              have cb0 : W4.cell? ⟨A + 1, 0, none⟩ = some (.int .i64 p2) := (blk_cell e2 0).trans rfl
              have cn2 : W4.cell? ⟨Bk, 2, none⟩ = some (.string s2) := (blk_cell e4 2).trans rfl
              have fn2 : W4.frozen? ⟨Bk, 2, none⟩ = false := blk_frozen e4 2
              obtain ⟨t10, ht10⟩ : ∃ t, s.extract 0 (p2 - p).toNat = t := ⟨_, rfl⟩
              have zs10 : t10.size ≤ 65536 := by rw [← ht10, ByteArray.size_extract]; omega
              have zt10 : (9223372036854775807 < t10.size + s2.size) = False := eq_false (by omega)
              have zu10 : t10.size + s2.size ≤ 9223372036854775807 := by omega
              go_region
              obtain ⟨W5, hW5⟩ : ∃ W_, ((W4.setCell { block := Bk, off := 2 } (Value.string (t10 ++ s2))).drew) = W_ := ⟨_, rfl⟩
              rw [hW5]
              replace e1 : W5.heap[A]? = _ := hW5 ▸ blk_drew (blk_far e1 (by simp; omega) _)
              replace e2 : W5.heap[A + 1]? = _ := hW5 ▸ blk_drew (blk_far e2 (by simp; omega) _)
              replace e3 : W5.heap[A + 1 + 1]? = _ := hW5 ▸ blk_drew (blk_far e3 (by simp; omega) _)
              replace e4 : W5.heap[Bk]? = some (.cells #[.int .i64 (p), .int .i64 (d + (p2 + d2 - (p + s.size))), .string (t10 ++ s2)] 32 (0,0)) := hW5 ▸ blk_drew (blk_put e4 2 _ rfl)
              replace eB : Below w.heap.size w W5 := hW5 ▸ below_drew (below_set eB (by rw [hS3.hA]; omega))
              clear hW5 ca0 ca2 cb0 cn2 fn2
              have cz0 : W5.cell? ⟨A + 1 + 1, 0, none⟩ = some (.int .i64 0) := (blk_cell e3 0).trans rfl
              have cz1 : W5.cell? ⟨A + 1 + 1, 1, none⟩ = some (.int .i64 0) := (blk_cell e3 1).trans rfl
              have cz2 : W5.cell? ⟨A + 1 + 1, 2, none⟩ = some (.string ⟨#[]⟩) := (blk_cell e3 2).trans rfl
              have fz : ∀ i, W5.frozen? ⟨A + 1 + 1, i, none⟩ = false := fun i => blk_frozen e3 i
              have cy0 : W5.cell? ⟨Bk, 0, none⟩ = some (.int .i64 (p)) := (blk_cell e4 0).trans rfl
              have cy1 : W5.cell? ⟨Bk, 1, none⟩ = some (.int .i64 (d + (p2 + d2 - (p + s.size)))) := (blk_cell e4 1).trans rfl
              have cy2 : W5.cell? ⟨Bk, 2, none⟩ = some (.string ((t10 ++ s2))) := (blk_cell e4 2).trans rfl
              go_wp2
              refine bodyPost_ret (results_ct rfl _ _ (A + 1 + 1) 32 #[.int .i64 (p), .int .i64 (d + (p2 + d2 - (p + s.size))), .string ((t10 ++ s2))] (0, 0) _ rfl (blk_put (blk_put (blk_put (blk_drewN e3 0) 0 _ rfl) 1 _ rfl) 2 _ rfl) Try.underlying32 rfl (by kernel_rfl)) rfl ?_
              refine ⟨?_, below_set (below_set (below_set (pw_below_drewN eB 0) (by rw [hS3.hA]; omega)) (by rw [hS3.hA]; omega)) (by rw [hS3.hA]; omega)⟩
              simp only [ht10]
              rfl
          · have h3' : decide (p < p2) = false := decide_eq_false (by omega)
            have h3c : decide (p2 < p) = false := decide_eq_false (by omega)
            have zz3 : (p2 < p) = False := eq_false (by omega)
            have zz3b : (p < p2) = False := eq_false (by omega)
            rcases Int.lt_trichotomy (p2 + d2) (p + s.size) with h4 | h4 | h4
            · have h4' : decide (p2 + d2 < p + s.size) = true := decide_eq_true h4
              have zz4 : (p + s.size < p2 + d2) = False := eq_false (by omega)
              obtain rfl : r = (p, d, (s2 ++ s.extract (p2 + d2 - p).toNat s.size), true) := by
                rw [← hr.out]; unfold mni mxi insR insR1
                rw [if_neg (show ¬ p2 < p by omega), if_neg (show ¬ 0 < p - p2 by omega), if_neg (show ¬ 0 < p2 + d2 - (p + s.size) by omega)]
                rw [if_pos h4, if_neg (show ¬ p2 > p by omega)]
                simp only [Int.add_zero, Int.zero_add]
              clear hr
              have w10 : IntKind.i64.wrap (d) = d := IntWalk.i64_in _ (by omega)
              have u1 : (0 : Int) ≤ p2 + d2 - p := by omega
              have u2 : p2 + d2 - p ≤ s.size := by omega
              replace h3 := Aside0.mk h3
              go_wp2
              obtain ⟨W4, hW4⟩ : ∃ W4, W3.alloc (Obj.cells #[.int .i64 (p), .int .i64 (d), .string s2] 32) = W4 := ⟨_, rfl⟩
              rw [hW4]
              have e1 : W4.heap[A]? = _ := hW4 ▸ blk_alloc hS3.f1 _
              have e2 : W4.heap[A + 1]? = _ := hW4 ▸ blk_alloc hS3.f2 _
              have e3 : W4.heap[A + 1 + 1]? = _ := hW4 ▸ blk_alloc hS3.f3 _
              have e4 : W4.heap[W3.heap.size]? = _ := hW4 ▸ blk_new _ _
              have eB : Below w.heap.size w W4 := hW4 ▸ below_alloc hS3.hB _
              generalize W3.heap.size = Bk at e4 hlt ⊢
              clear hW4 v0 v1 v2 v3 v4 v5 v6 v7 v8 v9 q1 q2 q3 q4 q5 q6 q7 q8 q9 q10
              have ca0 : W4.cell? ⟨A, 0, none⟩ = some (.int .i64 p) := (blk_cell e1 0).trans rfl
              have ca2 : W4.cell? ⟨A, 2, none⟩ = some (.string s) := (blk_cell e1 2).trans rfl
              have cb0 : W4.cell? ⟨A + 1, 0, none⟩ = some (.int .i64 p2) := (blk_cell e2 0).trans rfl
              have cn2 : W4.cell? ⟨Bk, 2, none⟩ = some (.string s2) := (blk_cell e4 2).trans rfl
              have fn2 : W4.frozen? ⟨Bk, 2, none⟩ = false := blk_frozen e4 2
              obtain ⟨t12, ht12⟩ : ∃ t, s.extract (p2 + d2 - p).toNat s.size = t := ⟨_, rfl⟩
              have zs12 : t12.size ≤ 65536 := by rw [← ht12, ByteArray.size_extract]; omega
              have zt12 : (9223372036854775807 < s2.size + t12.size) = False := eq_false (by omega)
              have zu12 : s2.size + t12.size ≤ 9223372036854775807 := by omega
              go_region
              obtain ⟨W5, hW5⟩ : ∃ W_, ((W4.setCell { block := Bk, off := 2 } (Value.string (s2 ++ t12))).drew) = W_ := ⟨_, rfl⟩
              rw [hW5]
              replace e1 : W5.heap[A]? = _ := hW5 ▸ blk_drew (blk_far e1 (by simp; omega) _)
              replace e2 : W5.heap[A + 1]? = _ := hW5 ▸ blk_drew (blk_far e2 (by simp; omega) _)
              replace e3 : W5.heap[A + 1 + 1]? = _ := hW5 ▸ blk_drew (blk_far e3 (by simp; omega) _)
              replace e4 : W5.heap[Bk]? = some (.cells #[.int .i64 (p), .int .i64 (d), .string (s2 ++ t12)] 32 (0,0)) := hW5 ▸ blk_drew (blk_put e4 2 _ rfl)
              replace eB : Below w.heap.size w W5 := hW5 ▸ below_drew (below_set eB (by rw [hS3.hA]; omega))
              clear hW5 ca0 ca2 cb0 cn2 fn2
              have cz0 : W5.cell? ⟨A + 1 + 1, 0, none⟩ = some (.int .i64 0) := (blk_cell e3 0).trans rfl
              have cz1 : W5.cell? ⟨A + 1 + 1, 1, none⟩ = some (.int .i64 0) := (blk_cell e3 1).trans rfl
              have cz2 : W5.cell? ⟨A + 1 + 1, 2, none⟩ = some (.string ⟨#[]⟩) := (blk_cell e3 2).trans rfl
              have fz : ∀ i, W5.frozen? ⟨A + 1 + 1, i, none⟩ = false := fun i => blk_frozen e3 i
              have cy0 : W5.cell? ⟨Bk, 0, none⟩ = some (.int .i64 (p)) := (blk_cell e4 0).trans rfl
              have cy1 : W5.cell? ⟨Bk, 1, none⟩ = some (.int .i64 (d)) := (blk_cell e4 1).trans rfl
              have cy2 : W5.cell? ⟨Bk, 2, none⟩ = some (.string ((s2 ++ t12))) := (blk_cell e4 2).trans rfl
              go_wp2
              refine bodyPost_ret (results_ct rfl _ _ (A + 1 + 1) 32 #[.int .i64 (p), .int .i64 (d), .string ((s2 ++ t12))] (0, 0) _ rfl (blk_put (blk_put (blk_put (blk_drewN e3 0) 0 _ rfl) 1 _ rfl) 2 _ rfl) Try.underlying32 rfl (by kernel_rfl)) rfl ?_
              refine ⟨?_, below_set (below_set (below_set (pw_below_drewN eB 0) (by rw [hS3.hA]; omega)) (by rw [hS3.hA]; omega)) (by rw [hS3.hA]; omega)⟩
              simp only [ht12]
              rfl
            · have h4' : decide (p2 + d2 < p + s.size) = false := decide_eq_false (by omega)
              have zz4 : (p + s.size < p2 + d2) = False := eq_false (by omega)
              obtain rfl : r = (p, d, s2, true) := by
                rw [← hr.out]; unfold mni mxi insR insR1
                rw [if_neg (show ¬ p2 < p by omega), if_neg (show ¬ 0 < p - p2 by omega), if_neg (show ¬ 0 < p2 + d2 - (p + s.size) by omega)]
                rw [if_neg (show ¬ p2 + d2 < p + s.size by omega), if_neg (show ¬ p2 > p by omega)]
                simp only [Int.add_zero, Int.zero_add]
              clear hr
              have w10 : IntKind.i64.wrap (d) = d := IntWalk.i64_in _ (by omega)
              have u1 : (0 : Int) ≤ p2 + d2 - p := by omega
              replace h3 := Aside0.mk h3
              replace h4 := Aside0.mk h4
              go_wp2
              refine bodyPost_ret (results_ct rfl _ _ (A + 1 + 1) 32 #[.int .i64 (p), .int .i64 (d), .string (s2)] (0, 0) _ rfl (blk_alloc (blk_put (blk_put (blk_put hS3.f3 0 _ rfl) 1 _ rfl) 2 _ rfl) _) Try.underlying32 rfl (by kernel_rfl)) rfl ?_
              exact ⟨rfl, below_alloc (below_set (below_set (below_set hS3.hB (by rw [hS3.hA]; omega)) (by rw [hS3.hA]; omega)) (by rw [hS3.hA]; omega)) _⟩
            · have h4' : decide (p2 + d2 < p + s.size) = false := decide_eq_false (by omega)
              have zz4 : (p + s.size < p2 + d2) = True := eq_true h4
              obtain rfl : r = (p, d + (p2 + d2 - (p + s.size)), s2, true) := by
                rw [← hr.out]; unfold mni mxi insR insR1
                rw [if_neg (show ¬ p2 < p by omega), if_neg (show ¬ 0 < p - p2 by omega), if_pos (show 0 < p2 + d2 - (p + s.size) by omega)]
                rw [if_neg (show ¬ p2 + d2 < p + s.size by omega), if_neg (show ¬ p2 > p by omega)]
                simp only [Int.add_zero, Int.zero_add]
              clear hr
              have w10 : IntKind.i64.wrap (d + (p2 + d2 - (p + s.size))) = d + (p2 + d2 - (p + s.size)) := IntWalk.i64_in _ (by omega)
              have u1 : (0 : Int) ≤ p2 + d2 - p := by omega
              replace h3 := Aside0.mk h3
              go_wp2
              refine bodyPost_ret (results_ct rfl _ _ (A + 1 + 1) 32 #[.int .i64 (p), .int .i64 (d + (p2 + d2 - (p + s.size))), .string (s2)] (0, 0) _ rfl (blk_alloc (blk_put (blk_put (blk_put hS3.f3 0 _ rfl) 1 _ rfl) 2 _ rfl) _) Try.underlying32 rfl (by kernel_rfl)) rfl ?_
              exact ⟨rfl, below_alloc (below_set (below_set (below_set hS3.hB (by rw [hS3.hA]; omega)) (by rw [hS3.hA]; omega)) (by rw [hS3.hA]; omega)) _⟩
          · have h3' : decide (p < p2) = false := decide_eq_false (by omega)
            have zz3 : (p2 < p) = True := eq_true h3
            rcases Int.lt_trichotomy (p2 + d2) (p + s.size) with h4 | h4 | h4
            · have h4' : decide (p2 + d2 < p + s.size) = true := decide_eq_true h4
              have zz4 : (p + s.size < p2 + d2) = False := eq_false (by omega)
              obtain rfl : r = (p2, d + (p - p2), (s2 ++ s.extract (p2 + d2 - p).toNat s.size), true) := by
                rw [← hr.out]; unfold mni mxi insR insR1
                rw [if_pos h3, if_pos (show 0 < p - p2 by omega), if_neg (show ¬ 0 < p2 + d2 - (p + s.size) by omega)]
                rw [if_pos h4, if_neg (show ¬ p2 > p by omega)]
                simp only [Int.add_zero, Int.zero_add]
              clear hr
              have w10 : IntKind.i64.wrap (d + (p - p2)) = d + (p - p2) := IntWalk.i64_in _ (by omega)
              have u1 : (0 : Int) ≤ p2 + d2 - p := by omega
              have u2 : p2 + d2 - p ≤ s.size := by omega
              go_wp2
              obtain ⟨W4, hW4⟩ : ∃ W4, W3.alloc (Obj.cells #[.int .i64 (p2), .int .i64 (d + (p - p2)), .string s2] 32) = W4 := ⟨_, rfl⟩
              rw [hW4]
              have e1 : W4.heap[A]? = _ := hW4 ▸ blk_alloc hS3.f1 _
              have e2 : W4.heap[A + 1]? = _ := hW4 ▸ blk_alloc hS3.f2 _
              have e3 : W4.heap[A + 1 + 1]? = _ := hW4 ▸ blk_alloc hS3.f3 _
              have e4 : W4.heap[W3.heap.size]? = _ := hW4 ▸ blk_new _ _
              have eB : Below w.heap.size w W4 := hW4 ▸ below_alloc hS3.hB _
              generalize W3.heap.size = Bk at e4 hlt ⊢
              clear hW4 v0 v1 v2 v3 v4 v5 v6 v7 v8 v9 q1 q2 q3 q4 q5 q6 q7 q8 q9 q10
              have ca0 : W4.cell? ⟨A, 0, none⟩ = some (.int .i64 p) := (blk_cell e1 0).trans rfl
              have ca2 : W4.cell? ⟨A, 2, none⟩ = some (.string s) := (blk_cell e1 2).trans rfl
              have cb0 : W4.cell? ⟨A + 1, 0, none⟩ = some (.int .i64 p2) := (blk_cell e2 0).trans rfl
              have cn2 : W4.cell? ⟨Bk, 2, none⟩ = some (.string s2) := (blk_cell e4 2).trans rfl
              have fn2 : W4.frozen? ⟨Bk, 2, none⟩ = false := blk_frozen e4 2
              obtain ⟨t12, ht12⟩ : ∃ t, s.extract (p2 + d2 - p).toNat s.size = t := ⟨_, rfl⟩
              have zs12 : t12.size ≤ 65536 := by rw [← ht12, ByteArray.size_extract]; omega
              have zt12 : (9223372036854775807 < s2.size + t12.size) = False := eq_false (by omega)
              have zu12 : s2.size + t12.size ≤ 9223372036854775807 := by omega
              go_region
              obtain ⟨W5, hW5⟩ : ∃ W_, ((W4.setCell { block := Bk, off := 2 } (Value.string (s2 ++ t12))).drew) = W_ := ⟨_, rfl⟩
              rw [hW5]
              replace e1 : W5.heap[A]? = _ := hW5 ▸ blk_drew (blk_far e1 (by simp; omega) _)
              replace e2 : W5.heap[A + 1]? = _ := hW5 ▸ blk_drew (blk_far e2 (by simp; omega) _)
              replace e3 : W5.heap[A + 1 + 1]? = _ := hW5 ▸ blk_drew (blk_far e3 (by simp; omega) _)
              replace e4 : W5.heap[Bk]? = some (.cells #[.int .i64 (p2), .int .i64 (d + (p - p2)), .string (s2 ++ t12)] 32 (0,0)) := hW5 ▸ blk_drew (blk_put e4 2 _ rfl)
              replace eB : Below w.heap.size w W5 := hW5 ▸ below_drew (below_set eB (by rw [hS3.hA]; omega))
              clear hW5 ca0 ca2 cb0 cn2 fn2
              have cz0 : W5.cell? ⟨A + 1 + 1, 0, none⟩ = some (.int .i64 0) := (blk_cell e3 0).trans rfl
              have cz1 : W5.cell? ⟨A + 1 + 1, 1, none⟩ = some (.int .i64 0) := (blk_cell e3 1).trans rfl
              have cz2 : W5.cell? ⟨A + 1 + 1, 2, none⟩ = some (.string ⟨#[]⟩) := (blk_cell e3 2).trans rfl
              have fz : ∀ i, W5.frozen? ⟨A + 1 + 1, i, none⟩ = false := fun i => blk_frozen e3 i
              have cy0 : W5.cell? ⟨Bk, 0, none⟩ = some (.int .i64 (p2)) := (blk_cell e4 0).trans rfl
              have cy1 : W5.cell? ⟨Bk, 1, none⟩ = some (.int .i64 (d + (p - p2))) := (blk_cell e4 1).trans rfl
              have cy2 : W5.cell? ⟨Bk, 2, none⟩ = some (.string ((s2 ++ t12))) := (blk_cell e4 2).trans rfl
              go_wp2
              refine bodyPost_ret (results_ct rfl _ _ (A + 1 + 1) 32 #[.int .i64 (p2), .int .i64 (d + (p - p2)), .string ((s2 ++ t12))] (0, 0) _ rfl (blk_put (blk_put (blk_put (blk_drewN e3 0) 0 _ rfl) 1 _ rfl) 2 _ rfl) Try.underlying32 rfl (by kernel_rfl)) rfl ?_
              refine ⟨?_, below_set (below_set (below_set (pw_below_drewN eB 0) (by rw [hS3.hA]; omega)) (by rw [hS3.hA]; omega)) (by rw [hS3.hA]; omega)⟩
              simp only [ht12]
              rfl
            · have h4' : decide (p2 + d2 < p + s.size) = false := decide_eq_false (by omega)
              have zz4 : (p + s.size < p2 + d2) = False := eq_false (by omega)
              obtain rfl : r = (p2, d + (p - p2), s2, true) := by
                rw [← hr.out]; unfold mni mxi insR insR1
                rw [if_pos h3, if_pos (show 0 < p - p2 by omega), if_neg (show ¬ 0 < p2 + d2 - (p + s.size) by omega)]
                rw [if_neg (show ¬ p2 + d2 < p + s.size by omega), if_neg (show ¬ p2 > p by omega)]
                simp only [Int.add_zero, Int.zero_add]
              clear hr
              have w10 : IntKind.i64.wrap (d + (p - p2)) = d + (p - p2) := IntWalk.i64_in _ (by omega)
              have u1 : (0 : Int) ≤ p2 + d2 - p := by omega
              replace h4 := Aside0.mk h4
              go_wp2
              refine bodyPost_ret (results_ct rfl _ _ (A + 1 + 1) 32 #[.int .i64 (p2), .int .i64 (d + (p - p2)), .string (s2)] (0, 0) _ rfl (blk_alloc (blk_put (blk_put (blk_put hS3.f3 0 _ rfl) 1 _ rfl) 2 _ rfl) _) Try.underlying32 rfl (by kernel_rfl)) rfl ?_
              exact ⟨rfl, below_alloc (below_set (below_set (below_set hS3.hB (by rw [hS3.hA]; omega)) (by rw [hS3.hA]; omega)) (by rw [hS3.hA]; omega)) _⟩
            · have h4' : decide (p2 + d2 < p + s.size) = false := decide_eq_false (by omega)
              have zz4 : (p + s.size < p2 + d2) = True := eq_true h4
              obtain rfl : r = (p2, d + (p - p2 + (p2 + d2 - (p + s.size))), s2, true) := by
                rw [← hr.out]; unfold mni mxi insR insR1
                rw [if_pos h3, if_pos (show 0 < p - p2 by omega), if_pos (show 0 < p2 + d2 - (p + s.size) by omega)]
                rw [if_neg (show ¬ p2 + d2 < p + s.size by omega), if_neg (show ¬ p2 > p by omega)]
              clear hr
              have w9 : IntKind.i64.wrap (p - p2 + (p2 + d2 - (p + s.size))) = p - p2 + (p2 + d2 - (p + s.size)) := IntWalk.i64_in _ (by omega)
              have w10 : IntKind.i64.wrap (d + (p - p2 + (p2 + d2 - (p + s.size)))) = d + (p - p2 + (p2 + d2 - (p + s.size))) := IntWalk.i64_in _ (by omega)
              have u1 : (0 : Int) ≤ p2 + d2 - p := by omega
              go_wp2
              refine bodyPost_ret (results_ct rfl _ _ (A + 1 + 1) 32 #[.int .i64 (p2), .int .i64 (d + (p - p2 + (p2 + d2 - (p + s.size)))), .string (s2)] (0, 0) _ rfl (blk_alloc (blk_put (blk_put (blk_put hS3.f3 0 _ rfl) 1 _ rfl) 2 _ rfl) _) Try.underlying32 rfl (by kernel_rfl)) rfl ?_
              exact ⟨rfl, below_alloc (below_set (below_set (below_set hS3.hB (by rw [hS3.hA]; omega)) (by rw [hS3.hA]; omega)) (by rw [hS3.hA]; omega)) _⟩
end Go.Proofs.Ytfofdmoakjkndaa.Hand
