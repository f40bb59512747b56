import Derived.Test.YtfofdmoakjkndaaHb
import Derived.Test.YtfofdmoakjkndaaQf26
import Derived.Deep.RegionHeld3
namespace Go.Proofs.Ytfofdmoakjkndaa.Hand
open Go.RowKit Go.Proofs.YtfofdmoakjkndaaW.PrintWords Go.Proofs.YtfofdmoakjkndaaW.PrintLast Go.Proofs.YtfofdmoakjkndaaW.PrintMore
set_option linter.unusedVariables false
set_option linter.unusedSimpArgs false

def mxi (a b : Int) : Int := if a < b then b else a
def mni (a b : Int) : Int := if b < a then b else a
/-- How far the place x lies in an inserted text of length n at p. -/
def wi (x p : Int) (n : Nat) : Int := mni (mxi (x - p) 0) n
theorem wi_range (x p : Int) (n : Nat) : 0 ≤ wi x p n ∧ wi x p n ≤ n := by unfold wi mni mxi; split <;> split <;> omega

attribute [local go_sem] max2_int min2_int max_two min_two in
theorem within_calls (x p : Int) (s : ByteArray) (A : Nat) (w : World) (c0 : w.cell? ⟨A, 0, none⟩ = some (.int .i64 p)) (c2 : w.cell? ⟨A, 2, none⟩ = some (.string s))
   (h1 : 0 ≤ p) (h2 : p ≤ 65536) (h3 : 0 ≤ x) (h4 : x ≤ 200000) :
   Calls Try.prog 28 #[.int .i64 x, .pointer (some ⟨A,0,none⟩)] w fun e w' => e = .returned (.int .i64 (wi x p s.size)) ∧ w = w' := by
  have hu := Try.underlying32
  obtain ⟨m, hm⟩ : ∃ m, (if x - p < 0 then 0 else x - p) = m := ⟨_, rfl⟩
  obtain ⟨r, hr⟩ : ∃ r : Int, (if (s.size : Int) < m then (s.size : Int) else m) = r := ⟨_, rfl⟩
  have hR : Aside0 (wi x p s.size = r) := ⟨by rw [← hr, ← hm]; unfold wi mni mxi; rfl⟩
  go_enter Try.func28, Try.ntmps28
  go_wp2
  go_ret
  exact ⟨by rw [hR.out]; rfl, rfl⟩

theorem small_calls (p d : Int) (s : ByteArray) (w : World) (b : Bool) (hb : decide (0 ≤ p ∧ p ≤ 65536 ∧ 0 ≤ d ∧ d ≤ 65536 ∧ s.size ≤ 65536) = b) :
   Calls Try.prog 26 #[.agg #[.int .i64 p, .int .i64 d, .string s]] w fun e w' => e = .returned (.bool b) ∧ Below w.heap.size w w' := by
  refine Q.edit_small.calls p d s b w ?_
  rw [← hb]
  unfold Q.edit_small.f
  by_cases h1 : p ≥ 0 <;> by_cases h2 : p ≤ 65536 <;> by_cases h3 : d ≥ 0 <;> by_cases h4 : d ≤ 65536 <;> simp [h1, h2, h3, h4] <;> omega

structure St (w W : World) (p d p2 d2 : Int) (s s2 : ByteArray) (A : Nat) : Prop where
  f1 : W.heap[A]? = some (.cells #[.int .i64 p, .int .i64 d, .string s] 32 (0,0))
  f2 : W.heap[A + 1]? = some (.cells #[.int .i64 p2, .int .i64 d2, .string s2] 32 (0,0))
  f3 : W.heap[A + 1 + 1]? = some (.cells #[.int .i64 0, .int .i64 0, .string ⟨#[]⟩] 32 (0,0))
  hA : w.heap.size = A
  hB : Below w.heap.size w W
theorem St.step {w W W1 : World} {p d p2 d2 : Int} {s s2 : ByteArray} {A : Nat} (h : St w W p d p2 d2 s s2 A) (hb : Below W.heap.size W W1) : St w W1 p d p2 d2 s s2 A :=
  ⟨blk_below h.f1 hb, blk_below h.f2 hb, blk_below h.f3 hb, h.hA, below_then h.hB h.hB.size hb⟩

def joins (p d p2 d2 : Int) (s s2 : ByteArray) : Int × Int × ByteArray × Bool :=
  if ((0 ≤ p ∧ p ≤ 65536 ∧ 0 ≤ d ∧ d ≤ 65536 ∧ s.size ≤ 65536) ∧ (0 ≤ p2 ∧ p2 ≤ 65536 ∧ 0 ≤ d2 ∧ d2 ≤ 65536 ∧ s2.size ≤ 65536)) ∧ p2 ≤ p + s.size ∧ p ≤ p2 + d2 then
    (mni p p2, d + mxi (p - p2) 0 + mxi (p2 + d2 - p - s.size) 0, s.extract 0 (wi p2 p s.size).toNat ++ s2 ++ s.extract (wi (p2 + d2) p s.size).toNat s.size, true)
  else (0, 0, ⟨#[]⟩, false)

attribute [local go_sem] max2_int min2_int max_two min_two in
set_option maxHeartbeats 1600000 in
theorem Join_calls (p d p2 d2 : Int) (s s2 : ByteArray) (w : World) :
   Calls Try.prog 21 #[.agg #[.int .i64 p, .int .i64 d, .string s], .agg #[.int .i64 p2, .int .i64 d2, .string s2]] w fun e w' =>
     e = .returned (.tuple #[.agg #[.int .i64 (joins p d p2 d2 s s2).1, .int .i64 (joins p d p2 d2 s s2).2.1, .string (joins p d p2 d2 s s2).2.2.1], .bool (joins p d p2 d2 s s2).2.2.2]) ∧ Below w.heap.size w w' := by
  have hu := Try.underlying32
  obtain ⟨b1, hb1⟩ : ∃ b, decide (0 ≤ p ∧ p ≤ 65536 ∧ 0 ≤ d ∧ d ≤ 65536 ∧ s.size ≤ 65536) = b := ⟨_, rfl⟩
  obtain ⟨b2, hb2⟩ : ∃ b, decide (0 ≤ p2 ∧ p2 ≤ 65536 ∧ 0 ≤ d2 ∧ d2 ≤ 65536 ∧ s2.size ≤ 65536) = b := ⟨_, rfl⟩
  replace hb1 := Aside0.mk hb1
  replace hb2 := Aside0.mk hb2
  obtain ⟨r, hr⟩ : ∃ r, joins p d p2 d2 s s2 = r := ⟨_, rfl⟩
  rw [hr]
  replace hr := Aside0.mk hr
  go_enter Try.func21, Try.ntmps21
  go_wp2_with (fail)
  obtain ⟨W, hW⟩ : ∃ W : World, (((w.alloc (Obj.cells #[.int .i64 p, .int .i64 d, .string s] 32)).alloc (Obj.cells #[.int .i64 p2, .int .i64 d2, .string s2] 32)).alloc
    (Obj.cells #[Value.int IntKind.i64 0, Value.int IntKind.i64 0, Value.string { data := #[] }] 32)) = W := ⟨_, rfl⟩
  have f1 : W.heap[w.heap.size]? = some (.cells #[.int .i64 p, .int .i64 d, .string s] 32 (0,0)) := by rw [← hW]; exact blk_alloc (blk_alloc (heap_alloc_new _ _) _) _
  have f2 : W.heap[w.heap.size + 1]? = some (.cells #[.int .i64 p2, .int .i64 d2, .string s2] 32 (0,0)) := by rw [← hW]; exact blk_alloc (by simpa using heap_alloc_new (w.alloc (Obj.cells #[.int .i64 p, .int .i64 d, .string s] 32)) (Obj.cells #[.int .i64 p2, .int .i64 d2, .string s2] 32)) _
  have f3 : W.heap[w.heap.size + 1 + 1]? = some (.cells #[.int .i64 0, .int .i64 0, .string ⟨#[]⟩] 32 (0,0)) := by rw [← hW]; simpa using heap_alloc_new ((w.alloc (Obj.cells #[.int .i64 p, .int .i64 d, .string s] 32)).alloc (Obj.cells #[.int .i64 p2, .int .i64 d2, .string s2] 32)) (Obj.cells #[Value.int IntKind.i64 0, Value.int IntKind.i64 0, Value.string { data := #[] }] 32)
  have hB : Below w.heap.size w W := by rw [← hW]; exact below_alloc (below_alloc (below_alloc (Below.refl _ _) _) _) _
  rw [hW]
  clear hW
  obtain ⟨A, hA⟩ : ∃ A, w.heap.size = A := ⟨_, rfl⟩
  rw [hA] at f1 f2 f3 ⊢
  have hS : St w W p d p2 d2 s s2 A := ⟨f1, f2, f3, hA, hB⟩
  clear f1 f2 f3 hA hB
  refine (small_calls p d s _ _ hb1.out).mono ?_
  rintro e W1 ⟨rfl, hb⟩
  replace hS := hS.step hb
  clear hb
  have c1 : ∀ {W1 : World}, St w W1 p d p2 d2 s s2 A → (W1.cell? ⟨A, 0, none⟩ = some (.int .i64 p) ∧ W1.cell? ⟨A, 1, none⟩ = some (.int .i64 d) ∧ W1.cell? ⟨A, 2, none⟩ = some (.string s)) ∧ (W1.cell? ⟨A + 1, 0, none⟩ = some (.int .i64 p2) ∧ W1.cell? ⟨A + 1, 1, none⟩ = some (.int .i64 d2) ∧ W1.cell? ⟨A + 1, 2, none⟩ = some (.string s2)) ∧
      (W1.cell? ⟨A + 1 + 1, 0, none⟩ = some (.int .i64 0) ∧ W1.cell? ⟨A + 1 + 1, 1, none⟩ = some (.int .i64 0) ∧ W1.cell? ⟨A + 1 + 1, 2, none⟩ = some (.string ⟨#[]⟩)) ∧ (∀ i, W1.frozen? ⟨A + 1 + 1, i, none⟩ = false) := fun h =>
    ⟨⟨(blk_cell h.f1 0).trans rfl, (blk_cell h.f1 1).trans rfl, (blk_cell h.f1 2).trans rfl⟩, ⟨(blk_cell h.f2 0).trans rfl, (blk_cell h.f2 1).trans rfl, (blk_cell h.f2 2).trans rfl⟩, ⟨(blk_cell h.f3 0).trans rfl, (blk_cell h.f3 1).trans rfl, (blk_cell h.f3 2).trans rfl⟩, fun i => blk_frozen h.f3 i⟩
  replace c1 := Aside0.mk @c1
  cases b1 with
  | false =>
    have hr0 : r = (0, 0, ⟨#[]⟩, false) := by rw [← hr.out]; unfold joins; rw [if_neg (fun h => by have := of_decide_eq_false hb1.out; exact this h.1.1)]
    subst hr0
    obtain ⟨⟨q1, q2, q3⟩, ⟨q4, q5, q6⟩, ⟨q7, q8, q9⟩, q10⟩ := c1.out hS
    clear hr hb1 hb2 c1
    go_wp2
    refine bodyPost_ret (results_ct rfl _ _ (A + 1 + 1) 32 #[.int .i64 0, .int .i64 0, .string (⟨#[]⟩ : ByteArray)] (0, 0) _ rfl (blk_put (blk_put (blk_put (blk_drewN hS.f3 0) 0 _ rfl) 1 _ rfl) 2 _ rfl) Try.underlying32 rfl (by kernel_rfl)) rfl ?_
    exact ⟨rfl, below_set (below_set (below_set (pw_below_drewN hS.hB 0) (by rw [hS.hA]; omega)) (by rw [hS.hA]; omega)) (by rw [hS.hA]; omega)⟩
  | true =>
    have g1 := of_decide_eq_true hb1.out
    obtain ⟨⟨q1, q2, q3⟩, ⟨q4, q5, q6⟩, ⟨q7, q8, q9⟩, q10⟩ := c1.out hS
    clear hb1
    go_wp2_with (fail)
    refine (small_calls p2 d2 s2 _ _ hb2.out).mono ?_
    clear q1 q2 q3 q4 q5 q6 q7 q8 q9 q10
    rintro e W2 ⟨rfl, hb⟩
    replace hS := hS.step hb
    clear hb
    have hbad : ¬ (((0 ≤ p ∧ p ≤ 65536 ∧ 0 ≤ d ∧ d ≤ 65536 ∧ s.size ≤ 65536) ∧ (0 ≤ p2 ∧ p2 ≤ 65536 ∧ 0 ≤ d2 ∧ d2 ≤ 65536 ∧ s2.size ≤ 65536)) ∧ p2 ≤ p + s.size ∧ p ≤ p2 + d2) → r = (0, 0, ⟨#[]⟩, false) := fun h => by rw [← hr.out]; unfold joins; rw [if_neg h]
    replace hbad := Aside0.mk hbad
    obtain ⟨⟨q1, q2, q3⟩, ⟨q4, q5, q6⟩, ⟨q7, q8, q9⟩, q10⟩ := c1.out hS
    clear c1
    cases b2 with
    | false =>
      have hr0 := hbad.out (fun h => by have := of_decide_eq_false hb2.out; exact this h.1.2)
      subst hr0
      clear hr hb2 hbad
      go_wp2
      refine bodyPost_ret (results_ct rfl _ _ (A + 1 + 1) 32 #[.int .i64 0, .int .i64 0, .string (⟨#[]⟩ : ByteArray)] (0, 0) _ rfl (blk_put (blk_put (blk_put (blk_drewN hS.f3 0) 0 _ rfl) 1 _ rfl) 2 _ rfl) Try.underlying32 rfl (by kernel_rfl)) rfl ?_
      exact ⟨rfl, below_set (below_set (below_set (pw_below_drewN hS.hB 0) (by rw [hS.hA]; omega)) (by rw [hS.hA]; omega)) (by rw [hS.hA]; omega)⟩
    | true =>
      have g2 := of_decide_eq_true hb2.out
      clear hb2
      obtain ⟨g11, g12, g13, g14, g15⟩ := g1
      obtain ⟨g21, g22, g23, g24, g25⟩ := g2
      by_cases h1 : p2 > p + s.size
      · have hr0 := hbad.out (fun h => by omega)
        subst hr0
        have h1' : decide (p + s.size < p2) = true := decide_eq_true h1
        clear hr hbad
        go_wp2
        refine bodyPost_ret (results_ct rfl _ _ (A + 1 + 1) 32 #[.int .i64 0, .int .i64 0, .string (⟨#[]⟩ : ByteArray)] (0, 0) _ rfl (blk_put (blk_put (blk_put (blk_drewN hS.f3 0) 0 _ rfl) 1 _ rfl) 2 _ rfl) Try.underlying32 rfl (by kernel_rfl)) rfl ?_
        exact ⟨rfl, below_set (below_set (below_set (pw_below_drewN hS.hB 0) (by rw [hS.hA]; omega)) (by rw [hS.hA]; omega)) (by rw [hS.hA]; omega)⟩
      · have h1' : decide (p + s.size < p2) = false := decide_eq_false h1
        by_cases h2 : p2 + d2 < p
        · have hr0 := hbad.out (fun h => by omega)
          subst hr0
          have h2' : decide (p2 + d2 < p) = true := decide_eq_true h2
          clear hr hbad
          go_wp2
          refine bodyPost_ret (results_ct rfl _ _ (A + 1 + 1) 32 #[.int .i64 0, .int .i64 0, .string (⟨#[]⟩ : ByteArray)] (0, 0) _ rfl (blk_put (blk_put (blk_put (blk_drewN hS.f3 0) 0 _ rfl) 1 _ rfl) 2 _ rfl) Try.underlying32 rfl (by kernel_rfl)) rfl ?_
          exact ⟨rfl, below_set (below_set (below_set (pw_below_drewN hS.hB 0) (by rw [hS.hA]; omega)) (by rw [hS.hA]; omega)) (by rw [hS.hA]; omega)⟩
        · have h2' : decide (p2 + d2 < p) = false := decide_eq_false h2
          have hgood : r = (mni p p2, d + mxi (p - p2) 0 + mxi (p2 + d2 - p - s.size) 0, s.extract 0 (wi p2 p s.size).toNat ++ s2 ++ s.extract (wi (p2 + d2) p s.size).toNat s.size, true) := by
            rw [← hr.out]; unfold joins; rw [if_pos ⟨⟨⟨g11, g12, g13, g14, g15⟩, ⟨g21, g22, g23, g24, g25⟩⟩, by omega, by omega⟩]
          clear hr hbad
          subst hgood
          obtain ⟨m1, hm1⟩ : ∃ m, (if p - p2 < 0 then 0 else p - p2) = m := ⟨_, rfl⟩
          obtain ⟨m2, hm2⟩ : ∃ m, (if p2 + d2 - p - s.size < 0 then 0 else p2 + d2 - p - s.size) = m := ⟨_, rfl⟩
          obtain ⟨m3, hm3⟩ : ∃ m, (if p2 < p then p2 else p) = m := ⟨_, rfl⟩
          have w1 : IntKind.i64.wrap (p2 + d2) = p2 + d2 := IntWalk.i64_in _ (by omega)
          have w2 : IntKind.i64.wrap (p - p2) = p - p2 := IntWalk.i64_in _ (by omega)
          have w3 : IntKind.i64.wrap (p2 + d2 - p) = p2 + d2 - p := IntWalk.i64_in _ (by omega)
          have w4 : IntKind.i64.wrap (p2 + d2 - p - s.size) = p2 + d2 - p - s.size := IntWalk.i64_in _ (by omega)
          go_wp2
          go_quiet (fail)
          go_wp2
          go_quiet (fail)
          go_wp2
          obtain ⟨x1, hx1⟩ : ∃ x, wi p2 p s.size = x := ⟨_, rfl⟩
          obtain ⟨x2, hx2⟩ : ∃ x, wi (p2 + d2) p s.size = x := ⟨_, rfl⟩
          have r1 := wi_range p2 p s.size
          have r2 := wi_range (p2 + d2) p s.size
          rw [hx1] at r1
          rw [hx2] at r2
          obtain ⟨r11, r12⟩ := r1
          obtain ⟨r21, r22⟩ := r2
          clear w2 w3 w4
          obtain ⟨t1, ht1⟩ : ∃ t, s.extract 0 x1.toNat = t := ⟨_, rfl⟩
          obtain ⟨t2, ht2⟩ : ∃ t, t1 ++ s2 = t := ⟨_, rfl⟩
          obtain ⟨t3, ht3⟩ : ∃ t, s.extract x2.toNat s.size = t := ⟨_, rfl⟩
          have z1 : t1.size + s2.size ≤ 9223372036854775807 := by rw [← ht1, ByteArray.size_extract]; omega
          have z2 : t2.size + t3.size ≤ 9223372036854775807 := by rw [← ht2, ← ht1, ← ht3, ByteArray.size_append, ByteArray.size_extract, ByteArray.size_extract]; omega
          have zz1 : (9223372036854775807 < t1.size + s2.size) = False := eq_false (by omega)
          have zz2 : (9223372036854775807 < t2.size + t3.size) = False := eq_false (by omega)
          have hm1' : 0 ≤ m1 ∧ m1 ≤ 65536 := by rw [← hm1]; split <;> omega
          have hm2' : 0 ≤ m2 ∧ m2 ≤ 200000 := by rw [← hm2]; split <;> omega
          have w5 : IntKind.i64.wrap (d + m1) = d + m1 := IntWalk.i64_in _ (by omega)
          have w6 : IntKind.i64.wrap (d + m1 + m2) = d + m1 + m2 := IntWalk.i64_in _ (by omega)
          have ne1 : ¬ A + 1 + 1 = A := by omega
          have ne2 : ¬ A = A + 1 + 1 := by omega
          replace hm1 := Aside0.mk hm1
          replace hm2 := Aside0.mk hm2
          clear hm1' hm2'
          go_region_held3 (fun w' => w'.cell? ⟨A, 0, none⟩ = some (.int .i64 p) ∧ w'.cell? ⟨A, 1, none⟩ = some (.int .i64 d) ∧ w'.cell? ⟨A, 2, none⟩ = some (.string s) ∧ w'.cell? ⟨A + 1, 2, none⟩ = some (.string s2)) (go_keep)
            (first
              | (go_at_call_of 28 (Value.int .i64 p2); refine (within_calls p2 p s A _ ?_ ?_ g11 g12 (by omega) (by omega)).mono ?_; (simp [*]); (simp [*]); rintro e w' ⟨rfl, rfl⟩)
              | (go_at_call_of 28 (Value.int .i64 (p2 + d2)); refine (within_calls (p2 + d2) p s A _ ?_ ?_ g11 g12 (by omega) (by omega)).mono ?_; (simp [*]); (simp [*]); rintro e w' ⟨rfl, rfl⟩))
          all_goals (try go_wp2)
          all_goals
            refine bodyPost_ret (results_ct rfl _ _ (A + 1 + 1) 32 #[.int .i64 m3, .int .i64 (d + m1 + m2), .string (t2 ++ t3)] (0, 0) _ rfl (blk_put (blk_put (blk_put (blk_drewN hS.f3 _) 0 _ rfl) 1 _ rfl) 2 _ rfl) Try.underlying32 rfl (by kernel_rfl)) rfl ?_
            refine ⟨?_, below_set (below_set (below_set (pw_below_drewN hS.hB _) (by rw [hS.hA]; omega)) (by rw [hS.hA]; omega)) (by rw [hS.hA]; omega)⟩
            rw [show mni p p2 = m3 from hm3, show mxi (p - p2) 0 = m1 from hm1.out, show mxi (p2 + d2 - p - s.size) 0 = m2 from hm2.out]
            rfl
end Go.Proofs.Ytfofdmoakjkndaa.Hand
