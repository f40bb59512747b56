import Derived.Test.YtfofdmoakjkndaaHa
namespace Go.Proofs.Ytfofdmoakjkndaa.Hand
open Go.RowKit Go.Proofs.YtfofdmoakjkndaaW.PrintWords Go.Proofs.YtfofdmoakjkndaaW.PrintLast Go.Proofs.YtfofdmoakjkndaaW.PrintMore
set_option linter.unusedVariables false

theorem Drawn0.heap {w w' : World} (h : Drawn0 w w') : w'.heap = w.heap := by obtain ⟨n, rfl⟩ := h; rfl
def pre (a b : ByteArray) : Int := run (fun i => bt a i == bt b i) (min a.size b.size) 0
def post (a b : ByteArray) : Int := run (fun i => bt a (a.size - 1 - i) == bt b (b.size - 1 - i)) (min a.size b.size) 0

theorem min_cast (a b : Nat) : (if b < a then (b : Int) else (a : Int)) = ((min a b : Nat) : Int) := by split <;> omega
theorem alike1 (a b : ByteArray) (m : Nat) (hm : m = min a.size b.size) (ba bb : Nat) (w : World) (ha : w.heap[ba]? = some (.cells #[.string a] 9 (0,0))) (hb : w.heap[bb]? = some (.cells #[.string b] 9 (0,0)))
   (ha' : a.size ≤ 9223372036854775807) (hb' : b.size ≤ 9223372036854775807) :
   Calls Try.prog 23 #[.int .i64 (m : Nat), .func (.func 24) #[] #[.pointer (some ⟨ba,0,none⟩), .pointer (some ⟨bb,0,none⟩)]] w fun e w' => e = .returned (.int .i64 (pre a b)) ∧ Drawn0 w w' := by
  subst hm
  refine alike _ _ (by omega) 24 _ w (fun args W => by rfl) fun i h0 h1 W hW => ?_
  refine (same1 a b i ba bb W (by rw [Drawn0.heap hW]; exact ha) (by rw [Drawn0.heap hW]; exact hb) h0 (by omega) (by omega)).mono ?_
  rintro e w' ⟨rfl, ⟨h⟩⟩
  exact ⟨rfl, h⟩
theorem alike2 (a b : ByteArray) (m : Nat) (hm : m = min a.size b.size) (ba bb : Nat) (w : World) (ha : w.heap[ba]? = some (.cells #[.string a] 9 (0,0))) (hb : w.heap[bb]? = some (.cells #[.string b] 9 (0,0)))
   (ha' : a.size ≤ 9223372036854775807) (hb' : b.size ≤ 9223372036854775807) :
   Calls Try.prog 23 #[.int .i64 (m : Nat), .func (.func 25) #[] #[.pointer (some ⟨ba,0,none⟩), .pointer (some ⟨bb,0,none⟩)]] w fun e w' => e = .returned (.int .i64 (post a b)) ∧ Drawn0 w w' := by
  subst hm
  refine alike _ _ (by omega) 25 _ w (fun args W => by rfl) fun i h0 h1 W hW => ?_
  refine (same2 a b i ba bb W (by rw [Drawn0.heap hW]; exact ha) (by rw [Drawn0.heap hW]; exact hb) h0 (by omega) (by omega) ha' hb').mono ?_
  rintro e w' ⟨rfl, ⟨h⟩⟩
  exact ⟨rfl, h⟩

def dif (a b : ByteArray) : Int × Int × ByteArray :=
  let n := pre a b
  let a' := a.extract n.toNat a.size
  let b' := b.extract n.toNat b.size
  let k := post a' b'
  (n, (a'.size : Int) - k, b'.extract 0 ((b'.size : Int) - k).toNat)

attribute [local go_sem] max2_int min2_int max_two min_two in
set_option maxHeartbeats 1600000 in
theorem Diff_calls (a b : ByteArray) (w : World) (ha : a.size ≤ 9223372036854775807) (hb : b.size ≤ 9223372036854775807) :
   Calls Try.prog 17 #[.string a, .string b] w fun e w' => e = .returned (.agg #[.int .i64 (dif a b).1, .int .i64 (dif a b).2.1, .string (dif a b).2.2]) ∧ Below w.heap.size w w' := by
  obtain ⟨m, hm⟩ : ∃ m, m = min a.size b.size := ⟨_, rfl⟩
  have hmn : (if b.size < a.size then (b.size : Int) else (a.size : Int)) = (m : Int) := by rw [hm]; exact min_cast _ _
  replace hm := Aside0.mk hm
  go_enter Try.func17, Try.ntmps17
  go_wp2_with (fail)
  obtain ⟨W, hW⟩ : ∃ W : World, (((w.alloc (Obj.cells #[Value.string a] 9)).alloc (Obj.cells #[Value.string b] 9)).alloc
    (Obj.cells #[Value.int IntKind.i64 0, Value.int IntKind.i64 0, Value.string { data := #[] }] 32)) = W := ⟨_, rfl⟩
  have f1 : W.heap[w.heap.size]? = some (.cells #[.string a] 9 (0,0)) := by rw [← hW]; exact blk_alloc (blk_alloc (heap_alloc_new _ _) _) _
  have f2 : W.heap[w.heap.size + 1]? = some (.cells #[.string b] 9 (0,0)) := by rw [← hW]; exact blk_alloc (by simpa using heap_alloc_new (w.alloc (Obj.cells #[Value.string a] 9)) (Obj.cells #[Value.string b] 9)) _
  have f3 : W.heap[w.heap.size + 1 + 1]? = some (.cells #[.int .i64 0, .int .i64 0, .string ⟨#[]⟩] 32 (0,0)) := by rw [← hW]; simpa using heap_alloc_new ((w.alloc (Obj.cells #[Value.string a] 9)).alloc (Obj.cells #[Value.string b] 9)) (Obj.cells #[Value.int IntKind.i64 0, Value.int IntKind.i64 0, Value.string { data := #[] }] 32)
  have hB : Below w.heap.size w W := by rw [← hW]; exact below_alloc (below_alloc (below_alloc (Below.refl _ _) _) _) _
  rw [hW]
  clear hW hmn
  obtain ⟨A, hA⟩ : ∃ A, w.heap.size = A := ⟨_, rfl⟩
  rw [hA] at f1 f2 f3 ⊢
  replace hA := Aside0.mk hA
  replace hB := Aside0.mk hB
  refine (alike1 a b m hm.out A (A + 1) W f1 f2 ha hb).mono ?_
  obtain ⟨n, hn⟩ : ∃ n, n = pre a b := ⟨_, rfl⟩
  rw [← hn]
  rintro e W1 ⟨rfl, ⟨n1, rfl⟩⟩
  have hn0 : 0 ≤ n ∧ n ≤ a.size ∧ n ≤ b.size := by
    have := run_le (fun i => bt a i == bt b i) (min a.size b.size) 0
    unfold pre at hn
    omega
  obtain ⟨hn1, hn2, hn3⟩ := hn0
  replace hn := Aside0.mk hn
  have c1 : W.cell? ⟨A, 0, none⟩ = some (.string a) := (blk_cell f1 0).trans rfl
  have c2 : W.cell? ⟨A + 1, 0, none⟩ = some (.string b) := (blk_cell f2 0).trans rfl
  have g1 : W.frozen? ⟨A, 0, none⟩ = false := blk_frozen f1 0
  have g2 : W.frozen? ⟨A + 1, 0, none⟩ = false := blk_frozen f2 0
  go_wp2_with (fail)
  go_region
  clear c1 c2 g1 g2
  obtain ⟨a', ha1⟩ : ∃ a', a' = a.extract n.toNat a.size := ⟨_, rfl⟩
  obtain ⟨b', hb1⟩ : ∃ b', b' = b.extract n.toNat b.size := ⟨_, rfl⟩
  have ha2 : a'.size ≤ 9223372036854775807 := by rw [ha1, ByteArray.size_extract]; omega
  have hb2 : b'.size ≤ 9223372036854775807 := by rw [hb1, ByteArray.size_extract]; omega
  rw [← ha1, ← hb1]
  replace f1 : (((W.drewN (n1 + 1)).setCell { block := A, off := 0 } (Value.string a')).setCell { block := A + 1, off := 0 } (Value.string b')).heap[A]? = some (.cells #[.string a'] 9 (0,0)) := blk_far (blk_put (blk_drewN f1 _) 0 _ rfl) (by simp) _
  replace f2 : (((W.drewN (n1 + 1)).setCell { block := A, off := 0 } (Value.string a')).setCell { block := A + 1, off := 0 } (Value.string b')).heap[A+1]? = some (.cells #[.string b'] 9 (0,0)) := blk_put (blk_far (blk_drewN f2 _) (by simp) _) 0 _ rfl
  replace f3 : (((W.drewN (n1 + 1)).setCell { block := A, off := 0 } (Value.string a')).setCell { block := A + 1, off := 0 } (Value.string b')).heap[A+1+1]? = some (.cells #[.int .i64 0, .int .i64 0, .string ⟨#[]⟩] 32 (0,0)) := blk_far (blk_far (blk_drewN f3 _) (by simp; omega) _) (by simp) _
  replace hB : Aside0 (Below w.heap.size w (((W.drewN (n1 + 1)).setCell { block := A, off := 0 } (Value.string a')).setCell { block := A + 1, off := 0 } (Value.string b'))) := ⟨below_set (below_set (pw_below_drewN hB.out _) (by rw [hA.out]; omega)) (by rw [hA.out]; omega)⟩
  generalize (((W.drewN (n1 + 1)).setCell { block := A, off := 0 } (Value.string a')).setCell { block := A + 1, off := 0 } (Value.string b')) = W2 at f1 f2 f3 hB ⊢
  have c1 : W2.cell? ⟨A, 0, none⟩ = some (.string a') := (blk_cell f1 0).trans rfl
  have c2 : W2.cell? ⟨A + 1, 0, none⟩ = some (.string b') := (blk_cell f2 0).trans rfl
  obtain ⟨m', hm'⟩ : ∃ m, m = min a'.size b'.size := ⟨_, rfl⟩
  have hmn : (if b'.size < a'.size then (b'.size : Int) else (a'.size : Int)) = (m' : Int) := by rw [hm']; exact min_cast _ _
  replace hm' := Aside0.mk hm'
  replace ha1 := Aside0.mk ha1
  replace hb1 := Aside0.mk hb1
  go_wp2_with (fail)
  refine (alike2 a' b' m' hm'.out A (A + 1) W2 f1 f2 ha2 hb2).mono ?_
  obtain ⟨k, hk⟩ : ∃ k, k = post a' b' := ⟨_, rfl⟩
  rw [← hk]
  rintro e W1 ⟨rfl, ⟨n2, rfl⟩⟩
  have hk0 : 0 ≤ k ∧ k ≤ a'.size ∧ k ≤ b'.size := by
    have := run_le (fun i => bt a' (a'.size - 1 - i) == bt b' (b'.size - 1 - i)) (min a'.size b'.size) 0
    unfold post at hk
    omega
  obtain ⟨hk1, hk2, hk3⟩ := hk0
  replace hk := Aside0.mk hk
  clear hmn
  have c3 : W2.cell? ⟨A + 1 + 1, 0, none⟩ = some (.int .i64 0) := (blk_cell f3 0).trans rfl
  have c4 : W2.cell? ⟨A + 1 + 1, 1, none⟩ = some (.int .i64 0) := (blk_cell f3 1).trans rfl
  have c5 : W2.cell? ⟨A + 1 + 1, 2, none⟩ = some (.string ⟨#[]⟩) := (blk_cell f3 2).trans rfl
  have g3 : ∀ i, W2.frozen? ⟨A + 1 + 1, i, none⟩ = false := fun i => blk_frozen f3 i
  have w1 : IntKind.i64.wrap ((a'.size : Int) - k) = a'.size - k := IntWalk.i64_in _ (by omega)
  have w2 : IntKind.i64.wrap ((b'.size : Int) - k) = b'.size - k := IntWalk.i64_in _ (by omega)
  have hu := Try.underlying32
  go_wp2_with (fail)
  go_region
  clear w1 w2 c1 c2 c3 c4 c5 g3
  go_wp2
  refine bodyPost_ret (results_cell_row rfl _ _ (A + 1 + 1) 32 #[.int .i64 n, .int .i64 (a'.size - k), .string (b'.extract 0 ((b'.size : Int) - k).toNat)] (0, 0) _ rfl (blk_put (blk_put (blk_put (blk_drewN f3 _) 0 _ rfl) 1 _ rfl) 2 _ rfl) Try.underlying32 rfl (by kernel_rfl)) rfl ?_
  refine ⟨?_, below_set (below_set (below_set (pw_below_drewN hB.out _) (by rw [hA.out]; omega)) (by rw [hA.out]; omega)) (by rw [hA.out]; omega)⟩
  simp only [dif, ← hn.out, ← ha1.out, ← hb1.out, ← hk.out]
end Go.Proofs.Ytfofdmoakjkndaa.Hand
