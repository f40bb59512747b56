import Derived.Test.YtfekpmbecoeijaaCa
/- cst.Size: a range over the nodes of a tree that counts. -/
namespace Go.Proofs.Ytfekpmbecoeijaa.Hand
open Go.RowKit Go.Proofs.YtfekpmbecoeijaaW.PrintWords Go.Proofs.YtfekpmbecoeijaaW.PrintLast Go.Proofs.YtfekpmbecoeijaaW.PrintMore Go.Proofs.Ytfekpmbecoeijaa.Q Go.Proofs.Ytfekpmbecoeijaa.RF
attribute [local go_sem] Oper.semAt_some
set_option linter.unusedVariables false
set_option linter.unusedSimpArgs false
set_option maxRecDepth 100000

def mark (D : Nat) : Deferred := { target := .collected D, args := #[] }
/-- A function leaves, its marks taken. -/
theorem leaves_marks {P : Program} {fn : Func} {tmps : Array Value} {R : Ending → World → Prop} : ∀ (Ds : List Nat) (w : World), Ds.Nodup → (∀ D ∈ Ds, w.heap[D]? = some (.deferred (some []))) →
    (∀ w', Chg (fun k => k ∈ Ds) w w' → LeavesIn Fence.wide 0 P fn tmps R [] .returning w') → LeavesInM Fence.wide 0 P fn tmps R (Ds.map mark) .returning w
  | [], w, _, _, h => h w (Chg.refl _ _)
  | D :: Ds, w, hn, hd, h => by
    obtain ⟨h1, h2⟩ := List.nodup_cons.1 hn
    refine ⟨by simp, .inl ⟨D, _, rfl, run_takeDeferred (hd D List.mem_cons_self), ?_⟩⟩
    refine leaves_marks Ds _ h2 (fun E hE => (World.putObj_heap_other (fun e => h1 (by subst e; exact hE))).trans (hd E (List.mem_cons_of_mem _ hE))) fun w' hc => h w' ?_
    exact (Chg.put w D _ List.mem_cons_self).trans (hc.mono fun k _ hk => List.mem_cons_of_mem _ hk) (fun _ _ h => h)


theorem new_at {j : Nat} (w : World) (o : Obj) (h : j = w.heap.size) : (w.alloc o).heap[j]? = some o := by rw [h]; exact blk_new w o
section
variable {T bl : Nat} {w0 w8 : World} {val : Nat → Value}
/-- Between two rounds: the variable at bl holds what has come so far; all else that was there when the range began stands. -/
structure Ctr (T : Nat) (w0 w8 : World) (bl : Nat) (val : Nat → Value) (j : Nat) (S : Nat → Prop) (W : World) : Prop where
  s : ∀ k, S k ↔ k = bl
  sz : w8.heap.size ≤ W.heap.size
  keep : ∀ k, k < w8.heap.size → k ≠ bl → W.heap[k]? = w8.heap[k]?
  hb : W.heap[bl]? = some (.cells #[val j] T (0, 0))
  lo : w0.heap.size ≤ bl
  bel : Below w0.heap.size w0 W
theorem ctr_stable (hB : w0.heap.size ≤ w8.heap.size) : Stable w8.heap.size (Ctr T w0 w8 bl val) := by
  refine ⟨fun h => ⟨h.sz, fun k hk => by rw [(h.s k).1 hk]; exact blk_lt h.hb⟩, fun {i S W W'} h hc => ?_⟩
  refine ⟨h.s, Nat.le_trans h.sz hc.size, fun k hk hn => (hc.block k (Nat.lt_of_lt_of_le hk h.sz) (fun h => by omega)).trans (h.keep k hk hn), hc.same h.hb (fun x => x.2 ((h.s bl).2 rfl)), h.lo, ?_⟩
  exact hc.below_then h.bel h.bel.size (fun k hk h => by omega)
theorem ctr_next {j : Nat} {S : Nat → Prop} {W W1 W2 : World} {a : Act} (h : Ctr T w0 w8 bl val j S W) (g : Ctr T w0 w8 bl val j S W1) (hb : W2.heap[bl]? = some (.cells #[val (j + 1)] T (0, 0)))
    (hc : Chg (fun k => k = bl) W1 W2) : RPost (Ctr T w0 w8 bl val) j S W W1 .normal a W2 := by
  refine ⟨rfl, S, ⟨h.s, Nat.le_trans g.sz hc.size, fun k hk hn => (hc.block k (Nat.lt_of_lt_of_le hk g.sz) hn).trans (g.keep k hk hn), hb, h.lo, ?_⟩, hc.mono (fun k _ hk => (h.s k).2 hk), fun k hk => .inl hk⟩
  exact hc.below_then g.bel g.bel.size (fun k hk h => by have := g.lo; omega)
end

/-- What cst.Size answers. -/
def sizeOf (k : Nat) (n : S26) : Option Int := (preF k n).bind fun l => if l.length < 9223372036854775807 then some (l.length : Int) else none
theorem sizeOf_mono (k : Nat) (n : S26) : LeO (sizeOf k n) (sizeOf (k + 1) n) := LeO.bind (preF_mono k n) (fun l => LeO.refl _)

set_option maxHeartbeats 8000000 in
theorem size_calls (fu : Nat) (n : S26) (A4 : Option Addr) (c4 : Nat) (A6 : Option Addr) (c6 : Nat) (r : Int) (w : World)
    (hr4 : Kd.C k76 w A4 n.f4.length n.f4) (hc4 : n.f4.length ≤ c4) (hr6 : Kd.C k26 w A6 n.f6.length n.f6) (hc6 : n.f6.length ≤ c6) (h : sizeOf fu n = some r) :
    Calls Try.prog 28 #[nodeV n A4 c4 A6 c6] w fun e w' => e = .returned (.int .i64 r) ∧ Below w.heap.size w w' := by
  unfold sizeOf at h
  obtain ⟨its, hits, h⟩ := Option.bind_eq_some_iff.1 h
  by_cases hlen : its.length < 9223372036854775807
  case neg => rw [if_neg hlen] at h; cases h
  rw [if_pos hlen] at h
  obtain rfl := Option.some.inj h
  clear h
  have hu26 := Try.underlying26
  have hN : NodeF w (fun k => k < w.heap.size) n A4 c4 A6 c6 := ⟨hc4, Kd.C_F k76_heap hr4, hc6, Kd.C_F k26_heap hr6⟩
  have hall := all_gives fu n its hits
  replace hN := Aside0.mk hN
  replace hall := Aside0.mk hall
  replace hits := Aside0.mk hits
  replace hlen := Aside0.mk hlen
  clear hr4 hc4 hr6 hc6
  refine (callsIn_wide (n := 0)).1 (callsIn_of_wp_marks Try.func28 rfl trivial ?_)
  simp only [Try.ntmps28, List.size_toArray, List.length_cons, List.length_nil, Nat.reduceAdd, Nat.reduceSub, Array.replicate_succ, Array.replicate_zero, List.push_toArray, List.append_toArray, List.nil_append, List.cons_append]
  gi_wp2_with (refine ⟨trivial, rfl, ?_⟩; gi_at_call 44; refine CallsIn.mono (callsIn_wide.2 (all_calls n A4 c4 A6 c6 _)) ?_; rintro e w8 ⟨rfl, hb8, hz8, hn8⟩; replace hb8 := Aside0.mk hb8; replace hn8 := Aside0.mk hn8)
  have hn8' := hn8.out
  simp only [World.size_alloc] at hn8' hz8
  generalize hbl : w.heap.size + 1 = bl at *
  have hbox : w8.heap[bl]? = some (.cells #[.int .i64 0] 3 (0, 0)) := blk_below (new_at _ _ (by simp; omega)) hb8.out
  have hB8 : Below w.heap.size w w8 := below_step (below_alloc (below_alloc (Below.refl _ _) _) _) hb8.out
  have hble : w.heap.size ≤ bl := by omega
  have hP8 : PreA (bl + 1) n A4 c4 A6 c6 w8 (Fr (fun k => k = bl) w8) := by
    have hm : ∀ k, k < w.heap.size → k < w.heap.size → w8.heap[k]? = w.heap[k]? := fun k _ b => hB8.block k b
    have hk : ∀ k, k < w.heap.size → k < w.heap.size → Fr (fun k => k = bl) w8 k := fun k a _ => ⟨fun e => by omega, Nat.lt_of_lt_of_le a hB8.size⟩
    exact ⟨hn8', ⟨by omega, blk_lt hn8'⟩, hN.out.go hm hk⟩
  clear hb8 hn8 hn8'
  refine wpIn_wide.2 (RF.range (gf := 49) (lb := #[.pointer (some ⟨bl + 1, 0, none⟩)]) rfl (fun args w => enters_ Try.func49 (by kernel_rfl) rfl args w)
    (hall.out (bl + 1) A4 c4 A6 c6) (Ctr 3 w w8 bl (fun j => .int .i64 (j : Int))) (ctr_stable hB8.size) (fun k => k = bl)
    ⟨fun k => Iff.rfl, Nat.le_refl _, fun _ _ _ => rfl, hbox, hble, hB8⟩
    (fun W' ok hb hok => hP8.go (fun x _ b => hb.block x b) (fun x a b => hok x b a.1))
    (fun h ⟨it, a, A4, c4, A6, c6, e, b⟩ => ⟨it, a, A4, c4, A6, c6, e, b.go (fun _ _ _ => rfl) (fun k a _ => h k a)⟩) ?body ?done)
  case done =>
    intro D S1 w9 hI hSD hgeD hD
    have y0 : w9.cell? ⟨bl, 0, none⟩ = some (.int .i64 (its.length : Int)) := (blk_cell hI.hb 0).trans rfl
    replace hI := Aside0.mk hI
    replace hD := Aside0.mk hD
    replace hP8 := Aside0.mk hP8
    replace hB8 := Aside0.mk hB8
    gi_wp2
    refine leaves_marks [D] w9 (by simp) (fun E hE => by rw [List.mem_singleton.1 hE]; exact hD.out) fun w' hc => ?_
    refine ⟨_, results_single rfl (.tmp .nil), rfl, ?_⟩
    exact hc.below_then hI.out.bel hI.out.bel.size (fun k hk hm => by rw [List.mem_singleton.1 hm] at hk; have := hB8.out.size; omega)
  case body =>
    rintro l' j S1 w9 v hj hI hl' hge' ⟨rr, hrr⟩ ⟨it, hit, hv⟩
    have hlt' : l' < w9.heap.size := blk_lt hrr
    have hbl9 : bl ≠ l' := fun e => hl' ((hI.s l').2 e.symm)
    have hI10 := fun o => (ctr_stable (T := 3) (bl := bl) (val := fun j => Value.int .i64 (j : Int)) hB8.size).step (W' := w9.putObj l' (.loop o)) hI (Chg.put _ _ _ ⟨hge', hl'⟩)
    replace hI := Aside0.mk hI
    replace hP8 := Aside0.mk hP8
    replace hB8 := Aside0.mk hB8
    replace hbox := Aside0.mk hbox
    replace hrr := Aside0.mk hrr
    replace hI10 := Aside0.mk hI10
    simp only [List.setIfInBounds_toArray, List.set_cons_succ, List.set_cons_zero]
    gi_wp2
    refine ⟨by first | rfl | trivial, Chg.refl _ _, fun o => ?_⟩
    obtain ⟨w10, hw10⟩ : ∃ w10, w9.putObj l' (.loop o) = w10 := ⟨_, rfl⟩
    have hI10 := hw10 ▸ hI10.out o
    rw [hw10]
    have y0 : w10.cell? ⟨bl, 0, none⟩ = some (.int .i64 (j : Int)) := (blk_cell hI10.hb 0).trans rfl
    have y1 := blk_frozen hI10.hb 0
    replace hI10 := Aside0.mk hI10
    have hlenj := hlen.out
    have hj1 : j < its.length := hj
    apply wpIn_block
    refine round_lit (by kernel_rfl) (by rintro ⟨a, w, h⟩; simp [Exit.inBlock, RPost] at h) ?_
    go_wp2
    have hi1 : (j : Int) + 1 = ((j + 1 : Nat) : Int) := by omega
    rw [hi1]
    exact ctr_next hI.out hI10.out (blk_put hI10.out.hb 0 _ rfl) (Chg.set _ _ _ rfl)
end Go.Proofs.Ytfekpmbecoeijaa.Hand

/- cst.own: the texts of a node's own bytes. -/
namespace Go.Proofs.Ytfekpmbecoeijaa.Hand
open Go.RowKit Go.Proofs.YtfekpmbecoeijaaW.PrintWords Go.Proofs.YtfekpmbecoeijaaW.PrintLast Go.Proofs.YtfekpmbecoeijaaW.PrintMore Go.Proofs.Ytfekpmbecoeijaa.Q Go.Proofs.Ytfekpmbecoeijaa.RF
set_option linter.unusedVariables false
set_option linter.unusedSimpArgs false
set_option maxRecDepth 100000

theorem inf9 : (Try.prog.info? 9).map (fun i => (i.zero, i.size, i.bytes)) = some (some (.string (⟨#[]⟩ : ByteArray)), 1, 16) := by kernel_rfl
/-- A node's own texts. -/
def ownL (n : S26) : List ByteArray := if n.f0 < 0 then [] else n.f4.map (·.f2) ++ [n.f5]
/-- Between two rounds of own's loop. -/
structure OwnI (n : S26) (A4 : Option Addr) (c4 : Nat) (A6 : Option Addr) (c6 : Nat) (w : World) (i : Nat) (v : Value) (W : World) : Prop where
  hb : W.heap[w.heap.size]? = some (.cells #[.int .i64 n.f0, .int .i64 n.f1, .int .i64 n.f2, .int .i64 n.f3, .slice A4 n.f4.length c4, .string n.f5, .slice A6 n.f6.length c6] 26 (0, 0))
  row : Kd.R Kd.string 9 W w.heap.size (fun k => k ≠ w.heap.size) v ((n.f4.take i).map (·.f2))
  bel : Below w.heap.size w W

set_option maxHeartbeats 8000000 in
theorem own_calls (n : S26) (A4 : Option Addr) (c4 : Nat) (A6 : Option Addr) (c6 : Nat) (w : World) (hlen : n.f4.length < 4398046511104)
    (hr4 : Kd.C k76 w A4 n.f4.length n.f4) (hc4 : n.f4.length ≤ c4) :
    Calls Try.prog 45 #[nodeV n A4 c4 A6 c6] w fun e w' => ∃ v, e = .returned v ∧ Kd.R Kd.string 9 w' w.heap.size (fun _ => True) v (ownL n) ∧ Below w.heap.size w w' := by
  have hu26 := Try.underlying26
  have hu72 := Try.underlying72
  obtain ⟨ob, hob⟩ : ∃ ob, ob = Obj.cells #[.int .i64 n.f0, .int .i64 n.f1, .int .i64 n.f2, .int .i64 n.f3, .slice A4 n.f4.length c4, .string n.f5, .slice A6 n.f6.length c6] 26 := ⟨_, rfl⟩
  have hB1 : Below w.heap.size w (w.alloc ob) := below_alloc (Below.refl _ _) _
  have hb1 : (w.alloc ob).heap[w.heap.size]? = some (.cells #[.int .i64 n.f0, .int .i64 n.f1, .int .i64 n.f2, .int .i64 n.f3, .slice A4 n.f4.length c4, .string n.f5, .slice A6 n.f6.length c6] 26 (0, 0)) := hob ▸ blk_new _ _
  obtain ⟨i9, hi9, hz0, hz1, hz2⟩ := info_parts inf9
  have hmk : (Instr.makeSlice 72 (.int .i64 0) (.int .i64 ((n.f4.length : Int) + 1))).run Try.prog (w.alloc ob) = .ok (.slice (some ⟨w.heap.size + 1, 0, none⟩) 0 (n.f4.length + 1)) ((w.alloc ob).alloc (.cells (madeCells #[.string ⟨#[]⟩] (n.f4.length + 1)) 9)) := by
    have h := run_make (P := Try.prog) (w.alloc ob) 72 9 i9 (.string ⟨#[]⟩) hu72 hi9 hz0 .i64 .i64 0 ((n.f4.length : Int) + 1) (by omega) (by omega) (by rw [hz2]; omega) (by omega)
    rw [hz1, World.size_alloc, show ((n.f4.length : Int) + 1).toNat = n.f4.length + 1 by omega, Nat.mul_one] at h
    exact h
  have hw : IntKind.i64.wrap ((n.f4.length : Int) + 1) = (n.f4.length : Int) + 1 := by rw [IntKind.wrap_i64]; omega
  replace hB1 := Aside0.mk hB1
  replace hb1 := Aside0.mk hb1
  replace hr4 := Aside0.mk hr4
  subst hob
  go_enter Try.func45, Try.ntmps45
  by_cases hs : n.f0 < 0
  · go_wp2
    go_ret
    refine ⟨_, rfl, ?_, hB1.out⟩
    have : ownL n = [] := if_pos hs
    rw [this]
    exact Kd.R_nil _ _ _ _ _
  · go_wp2
    go_loopg [3, 17] n.f4.length (fun m u3 u17 wr => ∃ (i : Nat), u17 = .int .i64 i ∧ m + i = n.f4.length ∧ Aside0 (OwnI n A4 c4 A6 c6 w i u3 wr))
    case atStart =>
      refine ⟨0, rfl, by omega, ⟨blk_alloc hb1.out _, ?_, below_alloc hB1.out _⟩⟩
      have h := World.ownsRow_lit (base := w.heap.size) (e := 9) (size := 1) (w.alloc (Obj.cells #[.int .i64 n.f0, .int .i64 n.f1, .int .i64 n.f2, .int .i64 n.f3, .slice A4 n.f4.length c4, .string n.f5, .slice A6 n.f6.length c6] 26)) (madeCells #[.string ⟨#[]⟩] (n.f4.length + 1)) (n.f4.length + 1) hB1.out.size (by simp [maxLen]; omega) (by simp [size_madeCells])
      have h2 := own_take h (Nat.zero_le _)
      rw [World.size_alloc] at h2
      have e0 : (n.f4.take 0).map (·.f2) = ([] : List ByteArray) := by rw [List.take_zero]; rfl
      rw [e0]
      rw [Nat.zero_mul, List.take_zero] at h2
      refine ⟨fun k hk => ?_, [], ?_, ?_⟩
      · have e : w.heap.size + 1 = k := by simpa [Value.ownBlock] using hk
        omega
      · exact h2
      · exact Reps.none _ _
    case round =>
      obtain ⟨i, rfl, hmi, hv⟩ := hrel
      by_cases hlt : i < n.f4.length
      · have hb : decide ((i : Int) < n.f4.length) = true := decide_eq_true (by omega)
        have i0 : 0 ≤ (i : Int) := by omega
        have i1 : (i : Int) < n.f4.length := by omega
        obtain ⟨ad, hA4, q0, q1, q2⟩ := at_T76 (Kd.C_below hr4.out hv.out.bel) (i : Int) i0 i1
        subst hA4
        simp only [Int.toNat_natCast] at q0 q1 q2
        generalize hkk : rd_T76 n.f4 (i : Int) = k at q0 q1 q2
        have hkk := Aside0.mk hkk
        have hsl : i < 4398046511104 := by omega
        obtain ⟨hvb, hvr, hvl⟩ := hv.out
        obtain ⟨w1, hw1⟩ : ∃ w1, wr.alloc (.cells #[.int .i64 k.f0, .int .i64 k.f1, .string k.f2] 76) = w1 := ⟨_, rfl⟩
        have hB2 : Below wr.heap.size wr w1 := hw1 ▸ below_alloc (Below.refl _ _) _
        have hr1 := Kd.R_below hvr hB2
        have hl1 := below_step hvl hB2
        have hvb1 := blk_below hvb hB2
        have hL : ((n.f4.take i).map (·.f2)).length = i := by simp; omega
        have hlw : w.heap.size < w1.heap.size := blk_lt hvb1
        have hfre : ∀ x, w1.heap.size ≤ x → x ≠ w.heap.size := fun x hx => by omega
        replace hvb := Aside0.mk hvb
        replace hvr := Aside0.mk hvr
        replace hvl := Aside0.mk hvl
        replace hB2 := Aside0.mk hB2
        replace hr1 := Aside0.mk hr1
        replace hl1 := Aside0.mk hl1
        replace hvb1 := Aside0.mk hvb1
        replace hfre := Aside0.mk hfre
        have z2 : w1.cell? ⟨wr.heap.size, 2, none⟩ = some (.string k.f2) := (blk_cell (hw1 ▸ blk_new wr _) 2).trans rfl
        go_upto_region 7 with (fail)
        go_wp2_with ((with_reducible refine gate_builtin (b := .append) (xs := #[.tmp 21, .tmp 24]) rfl ?_); at_builtin; refine Kd.R_append Kd.string (w0 := w) w.heap.size rfl (.tmp 21) (.tmp 24) 72 9 (.string ⟨#[]⟩) 16 rfl Try.underlying72 inf9 rfl (by decide) (by omega) u3 ((n.f4.take i).map (·.f2)) k.f2 [.string k.f2] (fun x => x ≠ w.heap.size) (fun _ => False) rfl rfl rfl (fun _ h => h.elim) hfre.out hr1.out hl1.out hl1.out.size (by omega) ?_; intro v1 w2 ho hb hg hat; have b2 := blk_grown hvb1.out hg (fun e => (hr1.out.1 _ e.symm) rfl); have HO := Aside0.mk ho; have HB := Aside0.mk hb; have HG := Aside0.mk hg; have B2 := Aside0.mk b2; clear ho hb hg hat b2)
        have hi1 : (i : Int) + 1 = ((i + 1 : Nat) : Int) := by omega
        rw [hi1]
        go_roundg (n.f4.length - (i + 1))
        case measure => omega
        case rel =>
          refine ⟨i + 1, rfl, by omega, ⟨B2.out, ?_, HB.out⟩⟩
          have hs : (n.f4.take (i + 1)).map (·.f2) = (n.f4.take i).map (·.f2) ++ [k.f2] := by
            have : n.f4[i] = k := by rw [← hkk.out]; simp [rd_T76, hlt]
            rw [List.take_succ_eq_append_getElem hlt, List.map_append, this]
            rfl
          rw [hs]
          exact HO.out
      · have hb : decide ((i : Int) < n.f4.length) = false := decide_eq_false (by omega)
        obtain rfl : i = n.f4.length := by omega
        have v5 : wr.cell? ⟨w.heap.size, 5, none⟩ = some (.string n.f5) := (blk_cell hv.out.hb 5).trans rfl
        have hL : ((n.f4.take n.f4.length).map (·.f2)).length = n.f4.length := by simp
        have hlw : w.heap.size < wr.heap.size := blk_lt hv.out.hb
        have hfre : ∀ x, wr.heap.size ≤ x → x ≠ w.heap.size := fun x hx => by omega
        replace hfre := Aside0.mk hfre
        go_wp2_with ((with_reducible refine gate_builtin (b := .append) (xs := #[.tmp 27, .tmp 30]) rfl ?_); at_builtin; refine Kd.R_append Kd.string (w0 := w) w.heap.size rfl (.tmp 27) (.tmp 30) 72 9 (.string ⟨#[]⟩) 16 rfl Try.underlying72 inf9 rfl (by decide) (by omega) u3 ((n.f4.take n.f4.length).map (·.f2)) n.f5 [.string n.f5] (fun x => x ≠ w.heap.size) (fun _ => False) rfl rfl rfl (fun _ h => h.elim) hfre.out hv.out.row hv.out.bel hv.out.bel.size (by omega) ?_; intro v1 w2 ho hb hg hat; have HO := Aside0.mk ho; have HB := Aside0.mk hb; clear ho hb hg hat)
        go_ret
        refine ⟨_, rfl, ?_, HB.out⟩
        have : ownL n = (n.f4.take n.f4.length).map (·.f2) ++ [n.f5] := by
          unfold ownL
          rw [if_neg (by omega), List.take_length]
        rw [this]
        exact Kd.R_mono HO.out (fun _ _ => trivial)
end Go.Proofs.Ytfekpmbecoeijaa.Hand
