import Derived.Test.YtfekpmbecoeijaaPuK
import Derived.Laws.CopyOwn
import Derived.Laws.IdiomStrings
/- How much text a tree that passes the check has. -/
set_option linter.unusedVariables false
namespace Go.Proofs.Ytfekpmbecoeijaa.Pure
open Go.RowKit Go.Proofs.Ytfekpmbecoeijaa.Q Go.Proofs.YtfekpmbecoeijaaW.PrintWords Go.Proofs.YtfekpmbecoeijaaW.PrintLast
open Hand (cloneB textLen lenL ownL sizes preF preL lenOf cOwn lens offF Cu downF nextUp nextF prevF lastF leafF)

/-- What a tree weighs. -/
def wt : Nat → S26 → Nat
  | 0, _ => 0
  | d + 1, n => 1 + n.f4.length + n.f5.size / 16 + (n.f4.map (fun p => p.f2.size / 16)).sum + (n.f6.map (wt d)).sum
theorem wt_mono : ∀ (d : Nat) (n : S26), small d n = true → wt (d + 1) n = wt d n
  | 0, _, h => by simp [small] at h
  | d + 1, n, h => by
    obtain ⟨h1, h2, h3⟩ := small_succ.1 h
    show 1 + n.f4.length + n.f5.size / 16 + (n.f4.map (fun p => p.f2.size / 16)).sum + (n.f6.map (wt (d + 1))).sum = 1 + n.f4.length + n.f5.size / 16 + (n.f4.map (fun p => p.f2.size / 16)).sum + (n.f6.map (wt d)).sum
    rw [List.map_congr_left (fun y hy => wt_mono d y (h3 y hy))]
theorem wsum_mono {l : List S26} {d : Nat} (h : ∀ y ∈ l, small d y = true) : (l.map (wt (d + 1))).sum = (l.map (wt d)).sum := by
  rw [List.map_congr_left (fun y hy => wt_mono d y (h y hy))]
def WSpec (k : Nat) : Prop := ∀ (n : S26) (m t : Int), Bnd n → NF k n m = some t → 0 ≤ m → m ≤ 300 → (1 ≤ t ∧ t ≤ m + 281474976710656) ∧ (t ≤ m → small k n = true ∧ (wt k n : Int) ≤ t)
theorem w1_spec (x1 : Int) (n : S26) (hB : Bnd n) (hx0 : 0 ≤ x1) (hx : x1 ≤ 300) : ∀ (k : Nat), (∀ j, j < k → WSpec j) → ∀ (x5 t : Int) (i : Nat), arboristref42_weigh.l1 k x1 x5 (i : Int) n.f0 n.f1 n.f2 n.f3 n.f4 n.f5 n.f6 = some t → 1 ≤ x5 → x5 ≤ x1 + 281474976710656 → (i : Int) ≤ x5 →
    x5 ≤ t ∧ t ≤ x1 + 281474976710656 ∧ (t ≤ x1 → (∀ y ∈ n.f6.drop i, small k y = true) ∧ (((n.f6.drop i).map (wt k)).sum : Int) + x5 ≤ t) := by
  intro k
  induction k with
  | zero => intro _ x5 t i h; simp [arboristref42_weigh.l1] at h
  | succ k ih =>
    intro H x5 t i h h1 h2 h3
    simp only [arboristref42_weigh.l1] at h
    by_cases hi : (i : Int) < (n.f6.length : Int)
    · rw [if_pos hi] at h
      by_cases hlt : x5 ≤ x1
      · rw [if_pos hlt, if_pos (by omega)] at h
        obtain ⟨u, hu, h⟩ := Option.bind_eq_some_iff.1 h
        rw [w64 (by omega) (by omega)] at hu
        have hin : i < n.f6.length := by omega
        have hrd : rd_T26 n.f6 (i : Int) = n.f6[i] := by simp [rd_T26, hin]
        obtain ⟨hu1, hu2⟩ := H k (by omega) (rd_T26 n.f6 (i : Int)) _ _ (by rw [hrd]; exact hB.kids _ (List.getElem_mem hin)) hu (by omega) (by omega)
        rw [w64 (by omega) (by omega), w64 (by omega) (by omega), show (i : Int) + 1 = ((i + 1 : Nat) : Int) from by omega] at h
        obtain ⟨g1, g2, g3⟩ := ih (fun j hj => H j (by omega)) (x5 + u) t (i + 1) h (by omega) (by omega) (by omega)
        refine ⟨by omega, g2, fun ht => ?_⟩
        obtain ⟨g4, g5⟩ := g3 ht
        obtain ⟨hs, hc⟩ := hu2 (by omega)
        rw [hrd] at hs hc
        rw [List.drop_eq_getElem_cons hin]
        refine ⟨fun y hy => ?_, ?_⟩
        · rcases List.mem_cons.1 hy with rfl | hy
          · exact (small_mono k _ hs).1
          · exact (small_mono k _ (g4 y hy)).1
        · rw [List.map_cons, List.sum_cons, (wt_mono k _ hs), wsum_mono g4]
          omega
      · rw [if_neg hlt] at h
        obtain rfl := Option.some.inj h
        exact ⟨by omega, h2, fun h => by omega⟩
    · rw [if_neg hi] at h
      obtain rfl := Option.some.inj h
      refine ⟨by omega, h2, fun _ => ?_⟩
      rw [List.drop_of_length_le (by omega)]
      exact ⟨fun y hy => (by cases hy), by rw [List.map_nil, List.sum_nil]; simp⟩
theorem w0_spec (x1 : Int) (n : S26) (hB : Bnd n) (hx0 : 0 ≤ x1) (hx : x1 ≤ 300) : ∀ (k : Nat), (∀ j, j < k → WSpec j) → ∀ (x5 t : Int) (i : Nat), arboristref42_weigh.l0 k x1 x5 (i : Int) n.f0 n.f1 n.f2 n.f3 n.f4 n.f5 n.f6 = some t → 1 + (n.f4.length : Int) ≤ x5 → x5 ≤ x1 + 281474976710656 →
    x5 ≤ t ∧ t ≤ x1 + 281474976710656 ∧ (t ≤ x1 → (∀ y ∈ n.f6, small k y = true) ∧ ((n.f6.map (wt k)).sum : Int) + (((n.f4.drop i).map (fun p => p.f2.size / 16)).sum : Nat) + x5 ≤ t) := by
  intro k
  have hj : ∀ k, (∀ j, j < k + 1 → WSpec j) → ∀ (x5 t : Int), arboristref42_weigh.j1 k x1 x5 n.f0 n.f1 n.f2 n.f3 n.f4 n.f5 n.f6 = some t → 1 + (n.f4.length : Int) ≤ x5 → x5 ≤ x1 + 281474976710656 →
      x5 ≤ t ∧ t ≤ x1 + 281474976710656 ∧ (t ≤ x1 → (∀ y ∈ n.f6, small (k + 1) y = true) ∧ ((n.f6.map (wt (k + 1))).sum : Int) + x5 ≤ t) := by
    intro k H x5 t h h1 h2
    cases k with
    | zero => simp [arboristref42_weigh.j1] at h
    | succ k =>
      simp only [arboristref42_weigh.j1] at h
      obtain ⟨g1, g2, g3⟩ := w1_spec x1 n hB hx0 hx k (fun j hj => H j (by omega)) x5 t 0 h (by omega) h2 (by omega)
      refine ⟨g1, g2, fun ht => ?_⟩
      obtain ⟨g4, g5⟩ := g3 ht
      rw [List.drop_zero] at g4 g5
      refine ⟨fun y hy => (small_mono _ _ (small_mono _ _ (g4 y hy)).1).1, ?_⟩
      rw [wsum_mono (fun y hy => (small_mono _ _ (g4 y hy)).1), wsum_mono g4]
      exact g5
  induction k with
  | zero => intro _ x5 t i h; simp [arboristref42_weigh.l0] at h
  | succ k ih =>
    intro H x5 t i h h1 h2
    simp only [arboristref42_weigh.l0] at h
    by_cases hi : (i : Int) < (n.f4.length : Int)
    · rw [if_pos hi] at h
      by_cases hlt : x5 ≤ x1
      · rw [if_pos hlt, if_pos (by omega)] at h
        have hs := rdB n hB i hi
        have hq : 0 ≤ ((rd_T76 n.f4 (i : Int)).f2.size : Int) / 16 ∧ ((rd_T76 n.f4 (i : Int)).f2.size : Int) / 16 ≤ 8796093021952 := by omega
        rw [w64 (n := ((rd_T76 n.f4 (i : Int)).f2.size : Int) / 16) (by omega) (by omega), w64 (by omega) (by omega), w64 (by omega) (by omega), show (i : Int) + 1 = ((i + 1 : Nat) : Int) from by omega] at h
        obtain ⟨g1, g2, g3⟩ := ih (fun j hj => H j (by omega)) _ t (i + 1) h (by omega) (by omega)
        refine ⟨by omega, g2, fun ht => ?_⟩
        obtain ⟨g4, g5⟩ := g3 ht
        have hin : i < n.f4.length := by omega
        have hrd : rd_T76 n.f4 (i : Int) = n.f4[i] := by simp [rd_T76, hin]
        rw [hrd] at g5 hq
        rw [List.drop_eq_getElem_cons hin, List.map_cons, List.sum_cons]
        exact ⟨fun y hy => (small_mono _ _ (g4 y hy)).1, by rw [wsum_mono g4]; omega⟩
      · rw [if_neg hlt] at h
        obtain ⟨g1, g2, g3⟩ := hj k H x5 t h h1 h2
        exact ⟨g1, g2, fun ht => by omega⟩
    · rw [if_neg hi] at h
      rw [List.drop_of_length_le (by omega)]
      simpa using hj k H x5 t h h1 h2
theorem wspec : ∀ k, WSpec k := by
  intro k
  induction k using Nat.strongRecOn with
  | _ k ih =>
    intro n m t hB h h0 h1
    cases k with
    | zero => simp [NF, arboristref42_weigh.f] at h
    | succ k =>
      simp only [NF, arboristref42_weigh.f] at h
      have hm := hB.leadLen
      have hs := hB.text
      have hq : 0 ≤ (n.f5.size : Int) / 16 ∧ (n.f5.size : Int) / 16 ≤ 8796093021952 := by omega
      rw [w64 (n := (n.f5.size : Int) / 16) (by omega) (by omega), w64 (n := 1 + (n.f4.length : Int)) (by omega) (by omega), w64 (by omega) (by omega)] at h
      obtain ⟨g1, g2, g3⟩ := w0_spec m n hB h0 h1 k (fun j hj => ih j (by omega)) _ t 0 h (by omega) (by omega)
      refine ⟨⟨by omega, g2⟩, fun ht => ?_⟩
      obtain ⟨g4, g5⟩ := g3 ht
      rw [List.drop_zero] at g5
      refine ⟨small_succ.2 ⟨by omega, by have := (spec (k + 1) n m t hB (by simp only [NF, arboristref42_weigh.f]; rw [w64 (n := (n.f5.size : Int) / 16) (by omega) (by omega), w64 (n := 1 + (n.f4.length : Int)) (by omega) (by omega), w64 (by omega) (by omega)]; exact h) h0 h1).2 ht; exact (small_succ.1 this.1).2.1, g4⟩, ?_⟩
      have e : ((n.f5.size / 16 : Nat) : Int) = (n.f5.size : Int) / 16 := by omega
      show ((1 + n.f4.length + n.f5.size / 16 + (n.f4.map (fun p => p.f2.size / 16)).sum + (n.f6.map (wt k)).sum : Nat) : Int) ≤ t
      omega
theorem lead_le : ∀ (l : List S76), sizes (l.map (·.f2)) ≤ 16 * (l.map (fun p => p.f2.size / 16)).sum + 15 * l.length
  | [] => by simp [sizes]
  | p :: l => by
    have := lead_le l
    simp only [List.map_cons, sizes_cons, List.sum_cons, List.length_cons]
    omega
theorem sizes_app (a b : List ByteArray) : sizes (a ++ b) = sizes a + sizes b := by simp [sizes]
theorem tot_wt : ∀ (d : Nat) (n : S26), small d n = true → tot d n ≤ 31 * wt d n
  | 0, n, h => by simp [small] at h
  | d + 1, n, h => by
    obtain ⟨h1, h2, h3⟩ := small_succ.1 h
    have hk : ∀ (l : List S26), (∀ y ∈ l, small d y = true) → (l.map (tot d)).sum ≤ 31 * (l.map (wt d)).sum := by
      intro l
      induction l with
      | nil => intro _; simp
      | cons y l ih =>
        intro hl
        have := tot_wt d y (hl y List.mem_cons_self)
        have := ih (fun z hz => hl z (List.mem_cons_of_mem _ hz))
        simp only [List.map_cons, List.sum_cons]
        omega
    have h4 := hk n.f6 h3
    have h5 := lead_le n.f4
    have h6 : textLen n ≤ sizes (n.f4.map (·.f2)) + n.f5.size := by
      unfold textLen ownL
      by_cases hn : n.f0 < 0
      · rw [if_pos hn]; simp [sizes]
      · rw [if_neg hn, sizes_app]; simp [sizes]
    simp only [tot, wt]
    omega
/-- A tree that passes the check has little text. -/
theorem few80_tot (n : S26) (hB : Bnd n) {k : Nat} (h : arboristref42_Few.f k n.f0 n.f1 n.f2 n.f3 n.f4 n.f5 n.f6 80 = some true) : OkT n ∧ tot 100 n ≤ 2480 := by
  obtain ⟨b, hb, hO⟩ := few80 n hB
  obtain ⟨k0, hk0⟩ := hb
  have hb1 : b = true := by
    have e1 := hk0 (max k k0) (Nat.le_max_right _ _)
    have e2 := at_rounds (g := fun k => arboristref42_Few.f k n.f0 n.f1 n.f2 n.f3 n.f4 n.f5 n.f6 80) (arboristref42_Few.mono _ _ _ _ _ _ _ _) (Nat.le_max_left k k0) h
    exact Option.some.inj (e1.symm.trans e2)
  have hT := hO hb1
  refine ⟨hT, ?_⟩
  unfold arboristref42_Few.f at h
  obtain ⟨t, ht, h⟩ := Option.bind_eq_some_iff.1 h
  have hle : t ≤ 80 := of_decide_eq_true (Option.some.inj h)
  obtain ⟨hs, hw⟩ := (wspec k n 80 t hB ht (by omega) (by omega)).2 hle
  have h1 := tot_wt k n hs
  have h2 : tot 100 n = tot k n := by
    rcases Nat.le_total k 100 with h3 | h3
    · exact (small_up hs h3).2
    · exact ((small_up hT.sm h3).2).symm
  omega
end Go.Proofs.Ytfekpmbecoeijaa.Pure

/- cst.Text: the texts of a tree's nodes, copied one behind the other. -/
namespace Go.Proofs.Ytfekpmbecoeijaa.Hand
open Go.RowKit Go.Proofs.YtfekpmbecoeijaaW.PrintWords Go.Proofs.YtfekpmbecoeijaaW.PrintLast Go.Proofs.YtfekpmbecoeijaaW.PrintMore Go.Proofs.Ytfekpmbecoeijaa.Q Go.Proofs.Ytfekpmbecoeijaa.RF
open Go.Proofs.Ytfekpmbecoeijaa.Pure (cat cat_size sizes_cons sizes_app)
attribute [local go_sem] Oper.semAt_some
set_option linter.unusedVariables false
set_option linter.unusedSimpArgs false
set_option maxRecDepth 100000

/-- The bytes of a text, as cells. -/
def bv (b : ByteArray) : List Value := b.data.toList.map fun x => .int .u8 (x.toNat : Int)
theorem bv_len (b : ByteArray) : (bv b).length = b.size := by
  unfold bv
  rw [List.length_map, Array.length_toList]
  rfl
theorem bv_append (a b : ByteArray) : bv (a ++ b) = bv a ++ bv b := by simp [bv, ByteArray.data_append]
theorem bv_one (b : ByteArray) : ∀ v ∈ bv b, v.oneCell' = true := by
  intro v hv
  obtain ⟨x, _, rfl⟩ := List.mem_map.1 hv
  rfl
/-- A row of N bytes that begins with a text. -/
def rowOf (N : Nat) (t : ByteArray) : List Value := bv t ++ List.replicate (N - t.size) (.int .u8 0)
theorem rowOf_len {N : Nat} {t : ByteArray} (h : t.size ≤ N) : (rowOf N t).length = N := by
  simp only [rowOf, List.length_append, bv_len, List.length_replicate]
  omega
theorem rowOf_splice {N : Nat} {t s : ByteArray} (h : t.size + s.size ≤ N) : splice (rowOf N t) t.size (bv s) = rowOf N (t ++ s) := by
  have hz : (t ++ s).size = t.size + s.size := ByteArray.size_append
  unfold splice rowOf
  rw [List.take_left' (bv_len t), bv_len, bv_append, List.append_assoc, hz]
  congr 2
  rw [List.drop_append, List.drop_of_length_le (by rw [bv_len]; omega), List.nil_append, bv_len, List.drop_replicate]
  congr 1
  omega
theorem made_bytes (N : Nat) : madeCells #[.int .u8 0] N = (List.replicate N (Value.int .u8 0)).toArray := by
  apply Array.ext
  · simp [madeCells]
  · intro i h1 h2
    simp [madeCells, Nat.mod_one]
theorem inf5 : (Try.prog.info? 5).map (fun i => (i.zero, i.size, i.bytes)) = some (some (.int .u8 0), 1, 1) := by kernel_rfl
theorem mk_bytes (N : Nat) (hN : N ≤ 16777216) (W : World) : (Instr.makeSlice 69 (.int .i64 (N : Int)) (.int .i64 (N : Int))).run Try.prog W = .ok (.slice (some ⟨W.heap.size, 0, none⟩) N N) (W.alloc (.cells (rowOf N ⟨#[]⟩).toArray 5)) := by
  obtain ⟨i0, hi, hzz⟩ := Option.map_eq_some_iff.1 inf5
  simp only [Prod.mk.injEq] at hzz
  obtain ⟨hz0, hz1, hz2⟩ := hzz
  have h := run_make (P := Try.prog) W 69 5 i0 (.int .u8 0) Try.underlying69 hi hz0 .i64 .i64 (N : Int) (N : Int) (by omega) (by omega) (by rw [hz2]; omega) (by omega)
  rw [h, hz1]
  have e : (Value.int .u8 0).cells = #[.int .u8 0] := rfl
  rw [e, Nat.mul_one, Int.toNat_natCast, made_bytes]
  rfl
/-- copy of a text into a row that is known whole. -/
theorem run_copy_text {P : Program} (w : World) (dT sT ty elem : TypeId) (hu : P.underlying dT = some (.slice elem)) (hsz : (P.info? elem).map (·.size) = some 1) (dp : Option Addr) (dLen dCap : Nat) (b : ByteArray) (hn : b.size ≤ dLen)
    (g off : Nat) (cur : List Value) (t : TypeId) (hg : w.heap[g]? = some (.cells cur.toArray t (0, 0))) (hpos : 0 < b.size → dp = some ⟨g, off, none⟩) (hfit : off + b.size ≤ cur.length) :
    ∃ w', (Builtin.copy_ #[dT, sT] ty #[.slice dp dLen dCap, .string b]).run P w = .ok (goInt b.size) w' ∧ w'.heap[g]? = some (.cells (splice cur off (bv b)).toArray t (0, 0)) ∧ Chg (fun k => k = g) w w' := by
  have hmin : Nat.min b.size dLen = b.size := Nat.min_eq_left hn
  have hex : (b.extract 0 b.size) = b := ByteArray.extract_zero_size
  have hcs2 : List.take b.size (List.map (fun x => Value.int .u8 (x.toNat : Int)) b.data.toList) = bv b := List.take_of_length_le (by rw [List.length_map, Array.length_toList]; exact Nat.le_refl _)
  have hcs : (b.data.map fun x => Value.int .u8 (x.toNat : Int)).toList = bv b := by simp [bv]
  cases hq : P.info? elem with
  | none => simp [hq] at hsz
  | some i =>
    have hi : i.size = 1 := by simpa [hq] using hsz
    by_cases h0 : b.size = 0
    · have hb0 : bv b = [] := List.eq_nil_of_length_eq_zero ((bv_len b).trans h0)
      refine ⟨w, ?_, ?_, Chg.refl _ _⟩
      · cases dp <;> simp [Builtin.copy_, run_underlying hu, Builtin.lenOf, Builtin.firstCells, Go.sizeOf, typeInfo, hq, hi, hmin, hex, hcs, hcs2, hb0, storeCells]
      · rw [hb0]
        simpa [splice] using hg
    · have hp := hpos (by omega)
      subst hp
      have hst := run_storeCells_at P g off t (bv b) 0 cur.toArray w hg (by rw [bv_len]; simpa using hfit) (bv_one b)
      refine ⟨_, ?_, setRow_heap w g cur.toArray (splice cur off (bv b)).toArray t _ hg, ⟨rfl, rfl, rfl, by simp [World.setRow], fun k hk hne => setRow_other w g k _ hne⟩⟩
      simp only [Nat.add_zero] at hst
      simp only [Builtin.copy_, Sem.run_bind, Sem.run_pure, run_underlying hu, Builtin.lenOf, Builtin.firstCells, Go.sizeOf, typeInfo, hq, hi, hmin, hex, hcs, Result.andThen_ok]
      simp [Builtin.copy_, run_underlying hu, Builtin.lenOf, Builtin.firstCells, Go.sizeOf, typeInfo, hq, hi, hmin, hex, hcs, hcs2, hst, splice]
end Go.Proofs.Ytfekpmbecoeijaa.Hand

/- cst.Text: the walk. -/
namespace Go.Proofs.Ytfekpmbecoeijaa.Hand
open Go.RowKit Go.Proofs.YtfekpmbecoeijaaW.PrintWords Go.Proofs.YtfekpmbecoeijaaW.PrintLast Go.Proofs.YtfekpmbecoeijaaW.PrintMore Go.Proofs.Ytfekpmbecoeijaa.Q Go.Proofs.Ytfekpmbecoeijaa.RF
open Go.Proofs.Ytfekpmbecoeijaa.Pure (cat cat_size sizes_cons sizes_app)
attribute [local go_sem] Oper.semAt_some
set_option linter.unusedVariables false
set_option linter.unusedSimpArgs false
set_option maxRecDepth 100000

theorem cat_app : ∀ (l l' : List ByteArray) (x : ByteArray), cat x (l ++ l') = cat (cat x l) l'
  | [], l', x => rfl
  | s :: l, l', x => cat_app l l' (x ++ s)
theorem sizes_flat : ∀ (l : List S26), sizes (l.flatMap ownL) = lenL l
  | [] => rfl
  | n :: l => by
    rw [List.flatMap_cons, sizes_app, sizes_flat l]
    simp [lenL, textLen]
/-- The text of the first j nodes. -/
def txtJ (its : List S26) (j : Nat) : ByteArray := cat ⟨#[]⟩ ((its.take j).flatMap ownL)
theorem txtJ_size (its : List S26) (j : Nat) : (txtJ its j).size = lenL (its.take j) := by
  unfold txtJ
  rw [cat_size, sizes_flat]
  exact Nat.zero_add _
/-- .. and x pieces of the next. -/
def txtX (its : List S26) (j : Nat) (it : S26) (x : Nat) : ByteArray := cat (txtJ its j) ((ownL it).take x)
theorem txtX_size (its : List S26) (j : Nat) (it : S26) (x : Nat) : (txtX its j it x).size = lenL (its.take j) + sizes ((ownL it).take x) := by
  unfold txtX
  rw [cat_size, txtJ_size]
theorem txtX_zero (its : List S26) (j : Nat) (it : S26) : txtX its j it 0 = txtJ its j := rfl
theorem txtX_succ {its : List S26} {j : Nat} {it : S26} {x : Nat} {s : ByteArray} (h : (ownL it)[x]? = some s) : txtX its j it (x + 1) = txtX its j it x ++ s := by
  unfold txtX
  rw [List.take_add_one, h, cat_app]
  rfl
theorem txtX_all {its : List S26} {j : Nat} {it : S26} (h : its[j]? = some it) : txtX its j it (ownL it).length = txtJ its (j + 1) := by
  unfold txtX txtJ
  rw [List.take_length, List.take_add_one, h, List.flatMap_append, cat_app]
  simp
/-- Between two rounds: the offset at ba, the bytes at gb. -/
structure TxtI (N : Nat) (its : List S26) (w0 w8 : World) (ba gb : Nat) (j : Nat) (S : Nat → Prop) (W : World) : Prop where
  s : ∀ k, S k ↔ (k = ba ∨ k = gb)
  sz : w8.heap.size ≤ W.heap.size
  keep : ∀ k, k < w8.heap.size → k ≠ ba → k ≠ gb → W.heap[k]? = w8.heap[k]?
  hat : W.heap[ba]? = some (.cells #[.int .i64 ((txtJ its j).size : Int)] 3 (0, 0))
  row : W.heap[gb]? = some (.cells (rowOf N (txtJ its j)).toArray 5 (0, 0))
  lo : w0.heap.size ≤ ba ∧ w0.heap.size ≤ gb
  bel : Below w0.heap.size w0 W
theorem txt_stable {N : Nat} {its : List S26} {w0 w8 : World} {ba gb : Nat} (hB : w0.heap.size ≤ w8.heap.size) : Stable w8.heap.size (TxtI N its w0 w8 ba gb) := by
  refine ⟨fun h => ⟨h.sz, fun k hk => ?_⟩, fun {i S W W'} h hc => ?_⟩
  · rcases (h.s k).1 hk with rfl | rfl
    · exact blk_lt h.hat
    · exact blk_lt h.row
  · refine ⟨h.s, Nat.le_trans h.sz hc.size, fun k hk h1 h2 => (hc.block k (Nat.lt_of_lt_of_le hk h.sz) (fun h => by omega)).trans (h.keep k hk h1 h2), hc.same h.hat (fun x => x.2 ((h.s ba).2 (.inl rfl))), hc.same h.row (fun x => x.2 ((h.s gb).2 (.inr rfl))), h.lo, ?_⟩
    exact hc.below_then h.bel h.bel.size (fun k hk h => by omega)
theorem txt_next {N : Nat} {its : List S26} {w0 w8 : World} {ba gb : Nat} {j : Nat} {S : Nat → Prop} {W W1 W2 : World} {a : Act} (h : TxtI N its w0 w8 ba gb j S W) (g : TxtI N its w0 w8 ba gb j S W1)
    (ha : W2.heap[ba]? = some (.cells #[.int .i64 ((txtJ its (j + 1)).size : Int)] 3 (0, 0))) (hr : W2.heap[gb]? = some (.cells (rowOf N (txtJ its (j + 1))).toArray 5 (0, 0)))
    (hc : Chg (fun k => k = ba ∨ k = gb) W1 W2) : RPost (TxtI N its w0 w8 ba gb) j S W W1 .normal a W2 := by
  refine ⟨rfl, S, ⟨h.s, Nat.le_trans g.sz hc.size, fun k hk h1 h2 => (hc.block k (Nat.lt_of_lt_of_le hk g.sz) (fun h => h.elim h1 h2)).trans (g.keep k hk h1 h2), ha, hr, h.lo, ?_⟩, hc.mono (fun k _ hk => (h.s k).2 hk), fun k hk => .inl hk⟩
  exact hc.below_then g.bel g.bel.size (fun k hk h => by have := g.lo; omega)

set_option maxHeartbeats 8000000 in
theorem text_calls (fu : Nat) (n : S26) (A4 : Option Addr) (c4 : Nat) (A6 : Option Addr) (c6 : Nat) (w : World) (its : List S26)
    (hr4 : Kd.C k76 w A4 n.f4.length n.f4) (hc4 : n.f4.length ≤ c4) (hr6 : Kd.C k26 w A6 n.f6.length n.f6) (hc6 : n.f6.length ≤ c6) (hits : preF fu n = some its) (hlen : (∀ m ∈ its, m.f4.length < 4398046511104) ∧ lenL its ≤ 16777216) :
    Calls Try.prog 25 #[nodeV n A4 c4 A6 c6] w fun e w' => e = .returned (.string (txtJ its its.length)) ∧ Below w.heap.size w w' := by
  have hu26 := Try.underlying26
  have hu69 := Try.underlying69
  have hlf : lenOf fu n = some (lenL its : Int) := by
    unfold lenOf
    rw [hits, Option.bind_some, if_pos ⟨hlen.1, by omega⟩]
  obtain ⟨ob, hob⟩ : ∃ ob, ob = Obj.cells #[.int .i64 n.f0, .int .i64 n.f1, .int .i64 n.f2, .int .i64 n.f3, .slice A4 n.f4.length c4, .string n.f5, .slice A6 n.f6.length c6] 26 := ⟨_, rfl⟩
  have hB1 : Below w.heap.size w (w.alloc ob) := below_alloc (Below.refl _ _) _
  have hN1 : NodeF (w.alloc ob) (fun k => k < w.heap.size) n A4 c4 A6 c6 := ⟨hc4, Kd.F_below (Kd.C_F k76_heap hr4) hB1, hc6, Kd.F_below (Kd.C_F k26_heap hr6) hB1⟩
  have hln := len_calls fu n A4 c4 A6 c6 _ (w.alloc ob) (Kd.C_below hr4 hB1) hc4 (Kd.C_below hr6 hB1) hc6 hlf
  have hk1 : (w.alloc ob).heap[w.heap.size]? = some ob := blk_new _ _
  have hall := all_gives fu n its hits
  obtain ⟨N, hN⟩ : ∃ N, lenL its = N := ⟨_, rfl⟩
  rw [hN] at hln hlen
  have hN24 := hlen.2
  have hmk := mk_bytes N hN24
  replace hN1 := Aside0.mk hN1
  replace hB1 := Aside0.mk hB1
  replace hln := Aside0.mk hln
  replace hk1 := Aside0.mk hk1
  replace hall := Aside0.mk hall
  replace hits := Aside0.mk hits
  replace hlen := Aside0.mk hlen
  replace hN := Aside0.mk hN
  replace hlf := Aside0.mk hlf
  subst hob
  clear hr4 hc4 hr6 hc6
  refine (callsIn_wide (n := 0)).1 (callsIn_of_wp_marks Try.func25 rfl trivial ?_)
  simp only [Try.ntmps25, List.size_toArray, List.length_cons, List.length_nil, Nat.reduceAdd, Nat.reduceSub, Array.replicate_succ, Array.replicate_zero, List.push_toArray, List.append_toArray, List.nil_append, List.cons_append]
  gi_upto_region 3 with (refine ⟨trivial, rfl, ?_⟩; gi_at_call 29; refine CallsIn.mono (callsIn_wide.2 hln.out) ?_; rintro e w2 ⟨rfl, hb2⟩; have hk2 := blk_below hk1.out hb2; have x0 := (blk_cell hk2 0).trans rfl; have x1 := (blk_cell hk2 1).trans rfl; have x2 := (blk_cell hk2 2).trans rfl; have x3 := (blk_cell hk2 3).trans rfl; have x4 := (blk_cell hk2 4).trans rfl; have x5 := (blk_cell hk2 5).trans rfl; have x6 := (blk_cell hk2 6).trans rfl; replace hk2 := Aside0.mk hk2; replace hb2 := Aside0.mk hb2)
  clear x0 x1 x2 x3 x4 x5 x6
  obtain ⟨r1, hr1⟩ : ∃ r1, r1 = Obj.cells (rowOf N ⟨#[]⟩).toArray 5 := ⟨_, rfl⟩
  obtain ⟨r2, hr2⟩ : ∃ r2, r2 = Obj.cells #[Value.slice (some ⟨w2.heap.size, 0, none⟩) N N] 69 := ⟨_, rfl⟩
  obtain ⟨r3, hr3⟩ : ∃ r3, r3 = Obj.cells #[Value.int .i64 0] 3 := ⟨_, rfl⟩
  obtain ⟨w5, hw5⟩ : ∃ w5, ((w2.alloc r1).alloc r2).alloc r3 = w5 := ⟨_, rfl⟩
  have hb5 : Below w2.heap.size w2 w5 := hw5 ▸ below_alloc (below_alloc (below_alloc (Below.refl _ _) _) _) _
  have hz5 : w5.heap.size = w2.heap.size + 1 + 1 + 1 := by rw [← hw5]; simp
  have hg5 : w5.heap[w2.heap.size]? = some r1 := by rw [← hw5]; exact blk_alloc (blk_alloc (blk_new _ _) _) _
  have hs5 : w5.heap[w2.heap.size + 1]? = some r2 := by rw [← hw5]; exact blk_alloc (new_at _ _ (by simp)) _
  have ha5 : w5.heap[w2.heap.size + 1 + 1]? = some r3 := by rw [← hw5]; exact new_at _ _ (by simp)
  have hk5 := blk_below hk2.out hb5
  have x0 := (blk_cell hk5 0).trans rfl
  have x1 := (blk_cell hk5 1).trans rfl
  have x2 := (blk_cell hk5 2).trans rfl
  have x3 := (blk_cell hk5 3).trans rfl
  have x4 := (blk_cell hk5 4).trans rfl
  have x5 := (blk_cell hk5 5).trans rfl
  have x6 := (blk_cell hk5 6).trans rfl
  rw [← hr1, ← hr2, ← hr3, hw5]
  replace hb5 := Aside0.mk hb5
  replace hg5 := Aside0.mk hg5
  replace hs5 := Aside0.mk hs5
  replace ha5 := Aside0.mk ha5
  replace hk5 := Aside0.mk hk5
  replace hz5 := Aside0.mk hz5
  replace hr1 := Aside0.mk hr1
  replace hr2 := Aside0.mk hr2
  replace hr3 := Aside0.mk hr3
  clear hw5
  gi_wp2_with (refine ⟨trivial, rfl, ?_⟩; gi_at_call 44; refine CallsIn.mono (callsIn_wide.2 (all_calls n A4 c4 A6 c6 _)) ?_; rintro e w8 ⟨rfl, hb8, hz8, hn8⟩; replace hb8 := Aside0.mk hb8; replace hn8 := Aside0.mk hn8)
  have hn8' := hn8.out
  rw [hz5.out] at hn8' hz8
  have hB2 : Below w.heap.size w w2 := below_step hB1.out hb2.out
  have hB5 : Below w.heap.size w w5 := below_step hB2 hb5.out
  have hB8 : Below w.heap.size w w8 := below_step hB5 hb8.out
  have hww := hB2.size
  have hg8 := blk_below hg5.out hb8.out
  have hs8 := blk_below hs5.out hb8.out
  have ha8 := blk_below ha5.out hb8.out
  generalize hgb : w2.heap.size = gb at *
  have hr1' := hr1.out
  have hr2' := hr2.out
  have hr3' := hr3.out
  subst hr1' hr2' hr3'
  generalize hbl : gb + 1 + 1 = ba at *
  have hP8 : PreA (ba + 1) n A4 c4 A6 c6 w8 (Fr (fun k => k = ba ∨ k = gb) w8) := by
    have hB1x : Below (w.alloc (Obj.cells #[.int .i64 n.f0, .int .i64 n.f1, .int .i64 n.f2, .int .i64 n.f3, .slice A4 n.f4.length c4, .string n.f5, .slice A6 n.f6.length c6] 26)).heap.size _ w8 := below_step (below_step hb2.out (by rw [hgb]; exact hb5.out)) hb8.out
    have hsz1 : (w.alloc (Obj.cells #[.int .i64 n.f0, .int .i64 n.f1, .int .i64 n.f2, .int .i64 n.f3, .slice A4 n.f4.length c4, .string n.f5, .slice A6 n.f6.length c6] 26)).heap.size = w.heap.size + 1 := World.size_alloc _ _
    have hm : ∀ k, k < w.heap.size → k < (w.alloc (Obj.cells #[.int .i64 n.f0, .int .i64 n.f1, .int .i64 n.f2, .int .i64 n.f3, .slice A4 n.f4.length c4, .string n.f5, .slice A6 n.f6.length c6] 26)).heap.size → w8.heap[k]? = _ := fun k _ b => hB1x.block k b
    have hk : ∀ k, k < w.heap.size → k < (w.alloc (Obj.cells #[.int .i64 n.f0, .int .i64 n.f1, .int .i64 n.f2, .int .i64 n.f3, .slice A4 n.f4.length c4, .string n.f5, .slice A6 n.f6.length c6] 26)).heap.size → Fr (fun k => k = ba ∨ k = gb) w8 k := fun k a _ => ⟨fun e => by omega, Nat.lt_of_lt_of_le a hB8.size⟩
    exact ⟨hn8', ⟨by omega, blk_lt hn8'⟩, hN1.out.go hm hk⟩
  have hlo : w.heap.size ≤ ba ∧ w.heap.size ≤ gb := by omega
  have hbg : ba ≠ gb ∧ gb + 1 ≠ ba ∧ gb + 1 ≠ gb := by omega
  have htN : ∀ j, (txtJ its j).size ≤ N := fun j => by rw [txtJ_size, ← hN.out]; exact lenL_le j
  clear hb8 hn8 hn8' hb5 hg5 hs5 ha5 hk5 x0 x1 x2 x3 x4 x5 x6 hr1 hr2 hr3 hb2 hk2 hln hk1 hmk
  rw [hz5.out]
  refine wpIn_wide.2 (RF.range (gf := 49) (lb := #[.pointer (some ⟨ba + 1, 0, none⟩)]) rfl (fun args w => enters_ Try.func49 (by kernel_rfl) rfl args w)
    (hall.out (ba + 1) A4 c4 A6 c6) (TxtI N its w w8 ba gb) (txt_stable hB8.size) (fun k => k = ba ∨ k = gb)
    ⟨fun k => Iff.rfl, Nat.le_refl _, fun _ _ _ _ => rfl, ha8, hg8, hlo, hB8⟩
    (fun W' ok hb hok => hP8.go (fun x _ b => hb.block x b) (fun x a b => hok x b a.1))
    (fun h ⟨it, a, A4, c4, A6, c6, e, b⟩ => ⟨it, a, A4, c4, A6, c6, e, b.go (fun _ _ _ => rfl) (fun k a _ => h k a)⟩) ?body ?done)
  case done =>
    intro D S1 w9 hI hSD hgeD hD
    have hs9 : w9.heap[gb + 1]? = some (Obj.cells #[Value.slice (some ⟨gb, 0, none⟩) N N] 69 (0, 0)) := by
      rw [hI.keep _ (blk_lt hs8) hbg.2.1 hbg.2.2]; exact hs8
    have y0 : w9.cell? ⟨gb + 1, 0, none⟩ = some (.slice (some ⟨gb, 0, none⟩) N N) := (blk_cell hs9 0).trans rfl
    have htz : (txtJ its its.length).size = N := by rw [txtJ_size, List.take_length]; exact hN.out
    have hconv : (convert 69 9 (.slice (some ⟨gb, 0, none⟩) N N)).run Try.prog w9 = .ok (.string (txtJ its its.length)) w9 := by
      have hrow := hI.row
      have e0 : rowOf N (txtJ its its.length) = bv (txtJ its its.length) := by simp [rowOf, htz]
      rw [e0] at hrow
      have hl : (txtJ its its.length).data.toList.length = N := by rw [Array.length_toList]; exact htz
      have h := run_convert_bytes_back (P := Try.prog) w9 69 9 5 ⟨gb, 0, none⟩ N (txtJ its its.length).data.toList Try.underlying69 Try.underlying5 Try.underlying9 (fun j hj => by
        rw [add_plain, blk_cell hrow]
        have hj2 : j < (bv (txtJ its its.length)).length := by unfold bv; rw [List.length_map]; exact hj
        rw [List.getElem?_toArray, List.getElem?_eq_getElem hj2]
        simp only [bv, List.getElem_map])
      rw [hl] at h
      simpa using h
    replace hI := Aside0.mk hI
    replace hD := Aside0.mk hD
    replace hP8 := Aside0.mk hP8
    replace hB8 := Aside0.mk hB8
    clear hs9
    gi_wp2
    refine leaves_marks [D] w9 (by simp) (fun E hE => by rw [List.mem_singleton.1 hE]; exact hD.out) fun w' hc => ?_
    refine ⟨_, results_single rfl (.tmp .nil), rfl, ?_⟩
    exact hc.below_then hI.out.bel hI.out.bel.size (fun k hk hm => by rw [List.mem_singleton.1 hm] at hk; have := hB8.out.size; omega)
  case body =>
    rintro l' j S1 w9 v hj hI hl' hge' ⟨rr, hrr⟩ ⟨it, hit, B4, e4, B6, e6, rfl, hvn⟩
    have hlt' : l' < w9.heap.size := blk_lt hrr
    have hba9 : ba ≠ l' := fun e => hl' ((hI.s l').2 (.inl e.symm))
    have hgb9 : gb ≠ l' := fun e => hl' ((hI.s l').2 (.inr e.symm))
    have hbb : ba < w9.heap.size := blk_lt hI.hat
    have hbg9 : gb < w9.heap.size := blk_lt hI.row
    have hs9 : w9.heap[gb + 1]? = some (Obj.cells #[Value.slice (some ⟨gb, 0, none⟩) N N] 69 (0, 0)) := by
      rw [hI.keep _ (blk_lt hs8) hbg.2.1 hbg.2.2]; exact hs8
    have hs9lt : gb + 1 < w9.heap.size := blk_lt hs9
    have hsl : gb + 1 ≠ l' := by have := blk_lt hs8; omega
    obtain ⟨ob, hob⟩ : ∃ ob, ob = Obj.cells #[.int .i64 it.f0, .int .i64 it.f1, .int .i64 it.f2, .int .i64 it.f3, .slice B4 it.f4.length e4, .string it.f5, .slice B6 it.f6.length e6] 26 := ⟨_, rfl⟩
    have hchg : ∀ o, Chg (fun k => w8.heap.size ≤ k ∧ ¬ S1 k) w9 ((w9.alloc ob).putObj l' (.loop o)) := fun o => (Chg.alloc _ _ _).trans (Chg.put _ _ _ ⟨hge', hl'⟩) (fun _ _ h => h)
    have hI10 := fun o => (txt_stable (N := N) (its := its) (ba := ba) (gb := gb) hB8.size).step (W' := (w9.alloc ob).putObj l' (.loop o)) hI (hchg o)
    replace hI := Aside0.mk hI
    replace hP8 := Aside0.mk hP8
    replace hB8 := Aside0.mk hB8
    replace hrr := Aside0.mk hrr
    replace hI10 := Aside0.mk hI10
    replace hchg := Aside0.mk hchg
    replace hvn := Aside0.mk hvn
    replace hit := Aside0.mk hit
    replace hs9 := Aside0.mk hs9
    replace ha8 := Aside0.mk ha8
    replace hs8 := Aside0.mk hs8
    replace hg8 := Aside0.mk hg8
    simp only [List.setIfInBounds_toArray, List.set_cons_succ, List.set_cons_zero]
    gi_wp2
    refine ⟨Below.heap_alloc _ _ _ hlt', Chg.alloc _ _ _, fun o => ?_⟩
    rw [← hob]
    obtain ⟨w10, hw10⟩ : ∃ w10, (w9.alloc ob).putObj l' (.loop o) = w10 := ⟨_, rfl⟩
    have hne10 : w9.heap.size ≠ l' := by omega
    have hz10 : w10.heap[w9.heap.size]? = some (.cells #[.int .i64 it.f0, .int .i64 it.f1, .int .i64 it.f2, .int .i64 it.f3, .slice B4 it.f4.length e4, .string it.f5, .slice B6 it.f6.length e6] 26 (0, 0)) := by
      rw [← hw10]; exact (World.putObj_heap_other hne10).trans (hob ▸ blk_new _ _)
    have hsz10 : w10.heap.size = w9.heap.size + 1 := by rw [← hw10]; simp
    have hI10' : TxtI N its w w8 ba gb j S1 w10 := hw10 ▸ hI10.out o
    have hc10 : ∀ x, x < w9.heap.size → x ≠ l' → w10.heap[x]? = w9.heap[x]? := fun x h1 h2 => by
      rw [← hw10]; exact (World.putObj_heap_other h2).trans (Below.heap_alloc _ _ _ h1)
    have hs10 : w10.heap[gb + 1]? = some (Obj.cells #[Value.slice (some ⟨gb, 0, none⟩) N N] 69 (0, 0)) := (hc10 _ hs9lt hsl).trans hs9.out
    have hvn10 := hvn.out.go (W' := w10) (ok' := fun _ => True) (fun x a b => hc10 x b a.2) (fun _ _ _ => trivial)
    rw [hw10]
    have hm : it ∈ its := List.mem_of_getElem? hit.out
    have hown := own_calls it B4 e4 B6 e6 w10 (hlen.out.1 it hm) (Kd.F_now hvn10.f4) hvn10.l4
    have z0 : w10.cell? ⟨w9.heap.size, 0, none⟩ = some (.int .i64 it.f0) := (blk_cell hz10 0).trans rfl
    have z1 : w10.cell? ⟨w9.heap.size, 1, none⟩ = some (.int .i64 it.f1) := (blk_cell hz10 1).trans rfl
    have z2 : w10.cell? ⟨w9.heap.size, 2, none⟩ = some (.int .i64 it.f2) := (blk_cell hz10 2).trans rfl
    have z3 : w10.cell? ⟨w9.heap.size, 3, none⟩ = some (.int .i64 it.f3) := (blk_cell hz10 3).trans rfl
    have z4 : w10.cell? ⟨w9.heap.size, 4, none⟩ = some (.slice B4 it.f4.length e4) := (blk_cell hz10 4).trans rfl
    have z5 : w10.cell? ⟨w9.heap.size, 5, none⟩ = some (.string it.f5) := (blk_cell hz10 5).trans rfl
    have z6 : w10.cell? ⟨w9.heap.size, 6, none⟩ = some (.slice B6 it.f6.length e6) := (blk_cell hz10 6).trans rfl
    replace hz10 := Aside0.mk hz10
    replace hI10' := Aside0.mk hI10'
    replace hc10 := Aside0.mk hc10
    replace hown := Aside0.mk hown
    replace hs10 := Aside0.mk hs10
    clear hw10 hvn10
    gi_wp2_with (refine ⟨trivial, rfl, ?_⟩; gi_at_call 45; refine CallsIn.mono (CallsIn.inRound l' (callsIn_wide.2 hown.out)) ?_; rintro e w11 ⟨v, rfl, hRv, hb11⟩; obtain ⟨A, c, eA⟩ := Kd.R_slice hRv; subst eA; generalize hL : (ownL it).length = L at hRv; replace hL := Aside0.mk hL; replace hRv := Aside0.mk hRv; replace hb11 := Aside0.mk hb11)
    have hj1 : j < its.length := hj
    have hacc : (txtJ its (j + 1)).size = (txtJ its j).size + textLen it := by rw [txtJ_size, txtJ_size]; exact lenL_take hit.out
    have htot := htN (j + 1)
    gi_loopg [17] L (fun m u17 wr => ∃ x : Nat, u17 = .int .i64 x ∧ m + x = L ∧ Aside0 (wr.heap[ba]? = some (.cells #[.int .i64 ((txtX its j it x).size : Int)] 3 (0, 0)) ∧ wr.heap[gb]? = some (.cells (rowOf N (txtX its j it x)).toArray 5 (0, 0)) ∧ Chg (fun k => k = ba ∨ k = gb) w11 wr))
    case atStart =>
      refine ⟨0, rfl, by omega, ?_, ?_, Chg.refl _ _⟩
      · rw [blk_below hI10'.out.hat hb11.out, txtX_zero]
      · rw [blk_below hI10'.out.row hb11.out, txtX_zero]
    case round =>
      obtain ⟨x, rfl, hmx, hv⟩ := hrel
      by_cases hlt : x < L
      · have hb : decide ((x : Int) < (L : Int)) = true := decide_eq_true (by omega)
        obtain ⟨hva, hvr, hvc⟩ := hv.out
        have hge11 : w9.heap.size < w10.heap.size := by omega
        have hRw := Kd.R_step (Kd.R_bound hRv.out) (w1 := wr) (fun k hk hlt => hvc.block k hlt (fun e => by have := hk.2.1; omega))
        obtain ⟨hLe, hLc, hC⟩ := Kd.R_reads' hRw
        have i0 : 0 ≤ (x : Int) := by omega
        have i1 : (x : Int) < (L : Int) := by omega
        obtain ⟨ad, hA, q0⟩ := Kd.at_string hC (x : Int) i0 (by omega)
        subst hA
        simp only [Int.toNat_natCast] at q0
        have hxs : (ownL it)[x]? = some (rdOf ByteArray.empty (ownL it) (x : Int)) := by
          have hx' : x < (ownL it).length := by omega
          simp [rdOf, List.getElem?_eq_getElem hx', hx']
        generalize hss : rdOf ByteArray.empty (ownL it) (x : Int) = s at q0 hxs
        have hst := sizes_take hxs
        have hsl2 := sizes_le (l := ownL it) (x + 1)
        have htl : textLen it = sizes (ownL it) := rfl
        have hsX := txtX_size its j it x
        have hsJ := txtJ_size its j
        have hnx := txtX_succ (its := its) (j := j) hxs
        have hs11 : wr.heap[gb + 1]? = some (Obj.cells #[Value.slice (some ⟨gb, 0, none⟩) N N] 69 (0, 0)) := by
          rw [hvc.block _ (blk_lt (blk_below hs10.out hb11.out)) (fun e => by omega)]; exact blk_below hs10.out hb11.out
        have hw2 : IntKind.i64.wrap ((x : Int) + 1) = ((x + 1 : Nat) : Int) := by
          have := (hlen.out.1 it hm)
          have hLL : L ≤ it.f4.length + 1 := by
            rw [← hL.out]
            unfold ownL
            split
            · simp
            · simp
          rw [IntKind.wrap_i64]
          omega
        obtain ⟨pt, hpt⟩ : ∃ pt, txtX its j it x = pt := ⟨_, rfl⟩
        rw [hpt] at hva hvr hsX hnx
        have hfit : pt.size + s.size ≤ N := by omega
        have y0 : wr.cell? ⟨ba, 0, none⟩ = some (.int .i64 (pt.size : Int)) := (blk_cell hva 0).trans rfl
        have y2 : wr.cell? ⟨gb + 1, 0, none⟩ = some (.slice (some ⟨gb, 0, none⟩) N N) := (blk_cell hs11 0).trans rfl
        have hw : IntKind.i64.wrap ((pt.size : Int) + (s.size : Int)) = ((pt ++ s).size : Int) := by
          rw [ByteArray.size_append, IntKind.wrap_i64]; omega
        replace hva := Aside0.mk hva
        replace hvr := Aside0.mk hvr
        replace hvc := Aside0.mk hvc
        replace hRw := Aside0.mk hRw
        replace hC := Aside0.mk hC
        replace hs11 := Aside0.mk hs11
        replace hnx := Aside0.mk hnx
        replace hpt := Aside0.mk hpt
        gi_upto_region 8 with (fail)
        have hdr : Below wr.heap.size wr wr.drew := below_drew (Below.refl _ _)
        obtain ⟨q, hq⟩ : ∃ q, pt.size = q := ⟨_, rfl⟩
        rw [hq] at y0 hw hfit
        have hSof : ∀ w' : World, Below wr.heap.size wr w' → (w'.cell? ⟨ba, 0, none⟩ = some (.int .i64 (q : Int)) ∧ w'.cell? ⟨gb + 1, 0, none⟩ = some (.slice (some ⟨gb, 0, none⟩) N N)) := fun w' hb => ⟨pw_cell_below hb y0, pw_cell_below hb y2⟩
        replace hSof := Aside0.mk hSof
        have p0 : 0 ≤ (q : Int) := by omega
        have p1 : (q : Int) ≤ (N : Int) := by omega
        have hqN : q ≤ N := by omega
        replace hq := Aside0.mk hq
        clear q0 hsX hsJ hst hsl2 htl hacc htot
        refine startR_ (n := 8) (S := fun w' => w'.cell? ⟨ba, 0, none⟩ = some (.int .i64 (q : Int)) ∧ w'.cell? ⟨gb + 1, 0, none⟩ = some (.slice (some ⟨gb, 0, none⟩) N N)) (ds := [7]) #[false, false, false, false, false, false, false, false] (by kernel_rfl) (by kernel_rfl) ?_ rfl rfl ?_ ?_
        · rintro ⟨a, w, h⟩; simp [Exit.then, Exit.inBlock, RPost] at h
        · exact hSof.out _ hdr
        intro hHeld
        generalize hw1d : wr.drew = W1d at hdr hHeld ⊢
        clear hw1d
        refine take_ (i := 0) (N := some 21) (v := ?_) (a' := ?_) #[true, false, false, false, false, false, false, false] rfl rfl (by kernel_rfl) (fun _ _ _ h => h) (Or.inl ⟨by rfl, ?_⟩) hHeld ?_ ?_
        rotate_left
        · rintro w' ⟨s0, s1⟩
          go_simp
          with_reducible rfl
        rotate_left
        · simp only [Act.put, List.setIfInBounds_toArray, List.set_cons_zero, List.set_cons_succ, i64_w, i32_w]
          rfl
        refine take_ (i := 1) (N := some 22) (v := ?_) (a' := ?_) #[true, true, false, false, false, false, false, false] rfl rfl (by kernel_rfl) (fun _ _ _ h => h) (Or.inl ⟨by rfl, ?_⟩) hHeld ?_ ?_
        rotate_left
        · rintro w' ⟨s0, s1⟩
          go_simp
          with_reducible rfl
        rotate_left
        · simp only [Act.put, List.setIfInBounds_toArray, List.set_cons_zero, List.set_cons_succ, i64_w, i32_w]
          rfl
        refine take_ (i := 2) (N := some 23) (v := ?_) (a' := ?_) #[true, true, true, false, false, false, false, false] rfl rfl (by kernel_rfl) (fun _ _ _ h => h) (Or.inl ⟨by rfl, ?_⟩) hHeld ?_ ?_
        rotate_left
        · rintro w' ⟨s0, s1⟩
          go_simp
          with_reducible rfl
        rotate_left
        · simp only [Act.put, List.setIfInBounds_toArray, List.set_cons_zero, List.set_cons_succ, i64_w, i32_w]
          rfl
        refine pure_ (i := 3) (N := some 24) (v := ?_) (a' := ?_) #[true, true, true, true, false, false, false, false] rfl rfl (by kernel_rfl) (fun _ _ _ h => h) (Or.inl ⟨by rfl, ?_⟩) ?_ ?_
        rotate_left
        · intro w'
          go_simp
          with_reducible rfl
        rotate_left
        · simp only [Act.put, List.setIfInBounds_toArray, List.set_cons_zero, List.set_cons_succ, i64_w, i32_w]
          rfl
        refine pure_ (i := 4) (N := some 25) (v := ?_) (a' := ?_) #[true, true, true, true, true, false, false, false] rfl rfl (by kernel_rfl) (fun _ _ _ h => h) (Or.inl ⟨by rfl, ?_⟩) ?_ ?_
        rotate_left
        · intro w'
          go_simp
          with_reducible rfl
        rotate_left
        · simp only [Act.put, List.setIfInBounds_toArray, List.set_cons_zero, List.set_cons_succ, i64_w, i32_w]
          rfl
        refine one_ (i := 5) (N := some 26) #[true, true, true, true, true, true, false, false] rfl rfl (by kernel_rfl) (by decide) (fun K hK => ?_)
        have hq' := hq.out
        obtain ⟨w12, hrun, hrow12, hch12⟩ := run_copy_text (P := Try.prog) W1d 69 9 3 5 Try.underlying69 (by have h := inf5; obtain ⟨i0, hi, hzz⟩ := Option.map_eq_some_iff.1 h; simp only [Prod.mk.injEq] at hzz; rw [hi, Option.map_some, hzz.2.1]) (if N = q then some ⟨gb, 0, none⟩ else some ⟨gb, q, none⟩) (N - q) (N - q) s (by omega) gb q (rowOf N pt) 5 (blk_below hvr.out hdr) (fun h => if_neg (by omega)) (by rw [rowOf_len (by omega)]; exact hfit)
        rw [← hq', rowOf_splice (by omega)] at hrow12
        have ha12 := hch12.same (blk_below hva.out hdr) hbg.1
        rw [hq'] at ha12
        have hs12 := hch12.same (blk_below hs11.out hdr) hbg.2.2
        replace hrow12 := Aside0.mk hrow12
        replace hch12 := Aside0.mk hch12
        refine value_ (w1 := w12) (v := goInt s.size) (by rfl) rfl ?_ ?_
        · go_simp
        refine hK.out _ _ ⟨(blk_cell ha12 0).trans rfl, (blk_cell hs12 0).trans rfl⟩ (fun hHeld => ?_)
        have b12 : w12.cell? ⟨ba, 0, none⟩ = some (.int .i64 (q : Int)) := (blk_cell ha12 0).trans rfl
        have f12 := blk_frozen ha12 0
        clear hK K
        refine norm_ (a' := ?_) ?_ ?_
        rotate_left
        · show Act.put _ (some 26) _ = _
          simp only [Act.put, List.setIfInBounds_toArray, List.set_cons_zero, List.set_cons_succ, i64_w, i32_w]
          rfl
        refine pure_ (i := 6) (N := some 27) (v := ?_) (a' := ?_) #[true, true, true, true, true, true, true, false] rfl rfl (by kernel_rfl) (fun _ _ _ h => h) (Or.inl ⟨by rfl, ?_⟩) ?_ ?_
        rotate_left
        · intro w'
          go_simp
          with_reducible rfl
        rotate_left
        · simp only [Act.put, List.setIfInBounds_toArray, List.set_cons_zero, List.set_cons_succ, i64_w, i32_w]
          rfl
        refine last_ (i := 7) (N := none) #[true, true, true, true, true, true, true, true] rfl rfl (by kernel_rfl) (by decide) (fun K hK => ?_)
        refine skip_ (w1 := ?_) (by rfl) rfl ?_ ?_
        rotate_left
        · go_simp
          rfl
        refine hK.out _ _ ?_
        clear hK K
        refine done_ (by kernel_rfl) ?_
        generalize (if N = q then (some ⟨gb, 0, none⟩ : Option Addr) else some ⟨gb, q, none⟩) = dp
        gi_wp2
        gi_roundg (L - (x + 1))
        case measure => omega
        case rel =>
          have hset := Chg.set (T := fun k => k = ba) w12 ⟨ba, 0, none⟩ (.int .i64 ((q : Int) + (s.size : Int))) rfl
          have he : ((pt ++ s).size : Int) = (q : Int) + (s.size : Int) := by rw [ByteArray.size_append]; have := hq.out; omega
          refine ⟨x + 1, rfl, by omega, ?_, ?_, ?_⟩
          · rw [hnx.out, he]
            exact blk_put ha12 0 _ rfl
          · rw [hnx.out]
            exact hset.same hrow12.out (fun e => hbg.1 e.symm)
          · exact ((hvc.out.trans (Chg.of_below _ hdr) (fun _ _ h => h)).trans hch12.out (fun _ _ h => .inr h)).trans hset (fun _ _ h => .inl h)
      · have hb : decide ((x : Int) < (L : Int)) = false := decide_eq_false (by omega)
        obtain rfl : x = L := by omega
        gi_wp2
        have hfin : txtX its j it x = txtJ its (j + 1) := by rw [← hL.out]; exact txtX_all hit.out
        obtain ⟨h1, h2, h3⟩ := hv.out
        rw [hfin] at h1 h2
        exact txt_next hI.out hI10'.out h1 h2 ((Chg.of_below _ hb11.out).trans h3 (fun _ _ h => h))
end Go.Proofs.Ytfekpmbecoeijaa.Hand

/- The cursor's way to the node that owns a byte; every path is in the order; a node's text within the tree's. -/
set_option linter.unusedVariables false
namespace Go.Proofs.Ytfekpmbecoeijaa.Pure
open Go.RowKit Go.Proofs.Ytfekpmbecoeijaa.Q Go.Proofs.YtfekpmbecoeijaaW.PrintWords Go.Proofs.YtfekpmbecoeijaaW.PrintLast
open Hand (cloneB textLen lenL ownL sizes preF preL lenOf cOwn lens offF Cu downF nextUp nextF prevF lastF leafF leafGo kidAt rootC txtJ)

theorem ordK_mem (f : S26 → List (List Int)) : ∀ (ks : List S26) (i : Int) (j : Nat) (p : List Int) (h : j < ks.length), p ∈ f ks[j] → ((i + (j : Int)) :: p) ∈ ordK f ks i
  | k :: ks, i, 0, p, h, hp => by
    simp only [ordK]
    refine List.mem_append_left _ (List.mem_map.2 ⟨p, hp, ?_⟩)
    simp
  | k :: ks, i, j + 1, p, h, hp => by
    simp only [ordK]
    refine List.mem_append_right _ ?_
    have := ordK_mem f ks (i + 1) j p (by simpa using h) hp
    rwa [show i + 1 + (j : Int) = i + ((j + 1 : Nat) : Int) from by omega] at this
theorem ord_mem : ∀ (p : List Int) (d : Nat) (n y : S26), small d n = true → getP n p = some y → p ∈ ord d n
  | [], d, n, y, h, hg => by
    obtain ⟨l, hl⟩ := ord_head h
    rw [hl]
    exact List.mem_cons_self
  | i :: p, 0, n, y, h, hg => by simp [small] at h
  | i :: p, d + 1, n, y, h, hg => by
    unfold getP at hg
    split at hg
    · rename_i hi
      have hl : i.toNat < n.f6.length := by omega
      have hr : rd_T26 n.f6 i = n.f6[i.toNat] := by simp [rd_T26, hl]
      have ih := ord_mem p d _ y (small_rd h hi.1 hi.2) hg
      rw [hr] at ih
      simp only [ord]
      have := ordK_mem (ord d) n.f6 0 i.toNat p hl ih
      rw [show (0 : Int) + (i.toNat : Int) = i from by omega] at this
      exact List.mem_cons_of_mem _ this
    · cases hg
/-- A path that leads to a node has a place in the order. -/
theorem ord_split {n y : S26} {p : List Int} (h : OkT n) (hg : getP n p = some y) : ∃ A B, ord 100 n = A ++ p :: B := List.append_of_mem (ord_mem p 100 n y h.sm hg)
theorem offE_snoc {d : Nat} {h : Int} {n y : S26} {p : List Int} {i : Int} (hg : getP n p = some y) (hp : p.length + 1 < d) :
    offE d h n (p ++ [i]) = offE d h n p + textLen y + (((y.f6.take i.toNat).map (tot (d - p.length - 1))).sum : Nat) := by
  have h1 := now_offs (p ++ [i]) d h n (by simpa using hp)
  rw [offsP_snoc p d h n y i hg hp] at h1
  have h2 := offsP_len p d h n (by omega)
  rw [← h1]
  unfold rd
  rw [List.length_append, List.length_singleton, Int.toNat_natCast, List.getD_eq_getElem?_getD, List.getElem?_append_right (by omega), h2, Nat.sub_self]
  rfl
theorem kidAt_some {e : Nat} (he : e ≤ 100) (at_ : Int) : ∀ (l : List S26) (h : Int), (∀ y ∈ l, small e y = true) → h ≤ at_ → at_ < h + ((l.map (tot e)).sum : Nat) → 0 ≤ h → h + ((l.map (tot e)).sum : Nat) < 4611686018427387904 →
    ∃ i, kidAt 100 at_ l h = some i ∧ ∃ (hi : i < l.length), h + (((l.take i).map (tot e)).sum : Nat) ≤ at_ ∧ at_ < h + (((l.take i).map (tot e)).sum : Nat) + tot e l[i]
  | [], h, _, h1, h2, _, _ => by simp at h2; omega
  | k :: l, h, hs, h1, h2, h3, h4 => by
    simp only [List.map_cons, List.sum_cons] at h2 h4
    have hk := hs k List.mem_cons_self
    obtain ⟨g1, g2⟩ := small_up hk he
    have hl : lenOf 100 k = some (tot e k : Int) := by rw [lenOf_tot g1 (by omega), g2]
    unfold kidAt
    rw [hl, Option.bind_some, if_pos (by omega)]
    by_cases hlt : at_ < h + (tot e k : Int)
    · rw [if_pos hlt]
      exact ⟨0, rfl, by simp, by simpa using h1, by simpa using hlt⟩
    · rw [if_neg hlt]
      obtain ⟨i, e1, hi, e2, e3⟩ := kidAt_some he at_ l (h + (tot e k : Int)) (fun y hy => hs y (List.mem_cons_of_mem _ hy)) (by omega) (by omega) (by omega) (by omega)
      refine ⟨i + 1, by rw [e1]; rfl, by simpa using hi, ?_, ?_⟩
      · rw [List.take_succ_cons, List.map_cons, List.sum_cons]; omega
      · rw [List.take_succ_cons, List.map_cons, List.sum_cons, List.getElem_cons_succ]; omega
theorem leafGo_cur {n : S26} (hO : OkT n) (at_ : Int) : ∀ (e : Nat) (q : List Int) (y : S26) (s : Nat), e = 100 - q.length → small e y = true → getP n q = some y → e ≤ s → offE 100 0 n q ≤ at_ → at_ < offE 100 0 n q + tot e y →
    ∃ q' y', getP n q' = some y' ∧ leafGo 100 at_ s (curP 100 n q) = some (curP 100 n q') ∧ offE 100 0 n q' ≤ at_ ∧ at_ < offE 100 0 n q' + textLen y'
  | 0, q, y, s, _, he, hg, _, _, _ => by simp [small] at he
  | e + 1, q, y, 0, _, he, hg, hs, _, _ => by omega
  | e + 1, q, y, s + 1, heq, he, hg, hs, h1, h2 => by
    obtain ⟨g4, g6, gk⟩ := small_succ.1 he
    obtain ⟨hq, hsy⟩ := getP_small q 100 n y hO.sm hg
    obtain ⟨o1, o2⟩ := offE_le q 100 0 n y hO.sm hg
    have htt := hO.tt
    have hy : tot (e + 1) y = textLen y + (y.f6.map (tot e)).sum := rfl
    rw [← heq] at o2
    unfold leafGo
    rw [now_cur hg, at_cur hO.sm hg, if_pos ⟨ok_cur hO.sm (by omega) hg, by omega, o1⟩, cOwn_len g4 (by omega), Option.bind_some, if_pos (by omega)]
    by_cases hlt : at_ < offE 100 0 n q + (textLen y : Int)
    · rw [if_pos hlt]
      exact ⟨q, y, hg, rfl, h1, hlt⟩
    · rw [if_neg hlt]
      obtain ⟨i, e1, hi, e2, e3⟩ := kidAt_some (e := e) (by omega) at_ y.f6 (offE 100 0 n q + (textLen y : Int)) gk (by omega) (by omega) (by omega) (by omega)
      rw [e1, Option.bind_some, down_yes hO.sm (by omega) hO.tt hg (i : Int) ⟨by omega, by omega⟩, Option.bind_some]
      have hr : rd_T26 y.f6 (i : Int) = y.f6[i] := rd26 (List.getElem?_eq_getElem hi)
      have hg2 : getP n (q ++ [(i : Int)]) = some y.f6[i] := by rw [getP_snoc q n y _ hg, if_pos ⟨by omega, by omega⟩, hr]
      have hq2 := (getP_small (q ++ [(i : Int)]) 100 n _ hO.sm hg2).1
      have hoff := offE_snoc (d := 100) (h := 0) (i := (i : Int)) hg (by simpa using hq2)
      rw [show 100 - q.length - 1 = e from by omega, Int.toNat_natCast] at hoff
      exact leafGo_cur hO at_ e (q ++ [(i : Int)]) _ s (by simp; omega) (gk _ (List.getElem_mem hi)) hg2 (by omega) (by omega) (by omega)
theorem root_cur (n : S26) (p : List Int) : rootC (curP 100 n p) = curP 100 n [] := by
  unfold rootC curP
  cases p with
  | nil => rfl
  | cons i p => rfl
theorem rd_root (n : S26) (p : List Int) : rd_T26 (curP 100 n p).ns 0 = n := by
  unfold curP
  cases p <;> rfl
/-- Leaf, from any place. -/
theorem leaf_no {n y : S26} {p : List Int} (hO : OkT n) (hg : getP n p = some y) {at_ : Int} (h : at_ < 0 ∨ (tot 100 n : Int) ≤ at_) : leafF 100 100 (curP 100 n p) at_ = some (false, curP 100 n p) := by
  unfold leafF
  by_cases h0 : at_ < 0
  · rw [if_pos h0]
  · rw [if_neg h0, if_pos (ok_cur hO.sm (by omega) hg), rd_root, len_ok hO, Option.bind_some, if_pos (by omega)]
theorem leaf_yes {n y : S26} {p : List Int} (hO : OkT n) (hg : getP n p = some y) {at_ : Int} (h0 : 0 ≤ at_) (h1 : at_ < (tot 100 n : Int)) :
    ∃ A q B y', ord 100 n = A ++ q :: B ∧ PlaceT n A q B y' ∧ leafF 100 100 (curP 100 n p) at_ = some (true, curP 100 n q) ∧ (lenL ((pre 100 n).take A.length) : Int) ≤ at_ ∧ at_ < (lenL ((pre 100 n).take A.length) : Int) + textLen y' := by
  obtain ⟨q, y', e1, e2, e3, e4⟩ := leafGo_cur hO at_ 100 [] n 100 rfl hO.sm rfl (Nat.le_refl _) (by simpa [offE] using h0) (by simpa [offE] using h1)
  obtain ⟨A, B, hs⟩ := ord_split hO e1
  obtain ⟨y2, hP⟩ := place hO hs
  obtain rfl : y' = y2 := by have := hP.get; rw [e1] at this; exact Option.some.inj this
  have ho := hP.at_
  rw [at_cur hO.sm e1] at ho
  refine ⟨A, q, B, y', hs, hP, ?_, by omega, by omega⟩
  unfold leafF
  rw [if_neg (by omega), if_pos (ok_cur hO.sm (by omega) hg), rd_root, len_ok hO, Option.bind_some, if_neg (by omega), root_cur, e2]
  rfl
theorem cat_eq : ∀ (l : List ByteArray) (x : ByteArray), cat x l = x ++ cat ⟨#[]⟩ l
  | [], x => by
    apply ByteArray.ext
    simp [cat, ByteArray.data_append]
  | s :: l, x => by
    simp only [cat]
    have e : (⟨#[]⟩ : ByteArray) ++ s = s := by
      apply ByteArray.ext
      simp [ByteArray.data_append]
    rw [cat_eq l (x ++ s), cat_eq l (⟨#[]⟩ ++ s), ByteArray.append_assoc, e]
theorem mid_extract (a b c : ByteArray) : (a ++ b ++ c).extract a.size (a.size + b.size) = b := by
  rw [ByteArray.append_assoc]
  apply ByteArray.ext
  simp [ByteArray.data_extract, ByteArray.data_append]
  have h1 : a.data.extract a.size (a.size + b.size) = #[] := by
    apply Array.extract_empty_of_size_le_start
    exact Nat.le_refl _
  have h2 : b.data.extract 0 b.size = b.data := Array.extract_size
  rw [h1, h2, Array.empty_append]
/-- A node's own text lies in the tree's text, at its offset. -/
theorem own_at {n y : S26} {A B : List (List Int)} {p : List Int} (h : OkT n) (hP : PlaceT n A p B y) :
    (txtJ (pre 100 n) (pre 100 n).length).extract (lenL ((pre 100 n).take A.length)) (lenL ((pre 100 n).take A.length) + (ownT y).size) = ownT y := by
  have hj := hP.nth
  obtain ⟨hlt, hy⟩ := List.getElem?_eq_some_iff.1 hj
  have e : txtJ (pre 100 n) (pre 100 n).length = txtJ (pre 100 n) A.length ++ ownT y ++ cat ⟨#[]⟩ (((pre 100 n).drop (A.length + 1)).flatMap ownL) := by
    have h1 : pre 100 n = (pre 100 n).take A.length ++ y :: (pre 100 n).drop (A.length + 1) := by
      conv => lhs; rw [← List.take_append_drop A.length (pre 100 n), List.drop_eq_getElem_cons hlt, hy]
    unfold txtJ ownT
    rw [List.take_length]
    conv => lhs; rw [h1]
    rw [List.flatMap_append, List.flatMap_cons, Hand.cat_app, Hand.cat_app, cat_eq _ (cat _ (ownL y)), cat_eq (ownL y) (cat _ _)]
  rw [e, ← Hand.txtJ_size]
  exact mid_extract _ _ _
end Go.Proofs.Ytfekpmbecoeijaa.Pure
