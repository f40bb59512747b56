import Derived.Test.YtfekpmbecoeijaaCc
namespace Go.Proofs.Ytfekpmbecoeijaa.Hand
open Go.RowKit Go.Proofs.YtfekpmbecoeijaaW.PrintWords Go.Proofs.YtfekpmbecoeijaaW.PrintLast Go.Proofs.YtfekpmbecoeijaaW.PrintMore Go.Proofs.Ytfekpmbecoeijaa.Q Go.Proofs.Ytfekpmbecoeijaa.RF
attribute [local go_sem] Oper.semAt_some
set_option linter.unusedVariables false
set_option linter.unusedSimpArgs false
set_option maxRecDepth 100000
def sizes (l : List ByteArray) : Nat := (l.map (·.size)).sum
def textLen (n : S26) : Nat := sizes (ownL n)
def lenL (l : List S26) : Nat := (l.map textLen).sum
def lenOf (k : Nat) (n : S26) : Option Int := (preF k n).bind fun l => if (∀ m ∈ l, m.f4.length < 4398046511104) ∧ lenL l < 9223372036854775807 then some (lenL l : Int) else none
theorem lenL_take {l : List S26} {j : Nat} {m : S26} (h : l[j]? = some m) : lenL (l.take (j + 1)) = lenL (l.take j) + textLen m := by
  unfold lenL
  rw [List.take_add_one, h]
  simp
theorem lenL_le {l : List S26} (j : Nat) : lenL (l.take j) ≤ lenL l := by
  have : lenL l = lenL (l.take j) + lenL (l.drop j) := by
    unfold lenL
    conv => lhs; rw [← List.take_append_drop j l]
    rw [List.map_append, List.sum_append]
  omega
theorem sizes_take {l : List ByteArray} {j : Nat} {s : ByteArray} (h : l[j]? = some s) : sizes (l.take (j + 1)) = sizes (l.take j) + s.size := by
  unfold sizes
  rw [List.take_add_one, h]
  simp
theorem sizes_le {l : List ByteArray} (j : Nat) : sizes (l.take j) ≤ sizes l := by
  have : sizes l = sizes (l.take j) + sizes (l.drop j) := by
    unfold sizes
    conv => lhs; rw [← List.take_append_drop j l]
    rw [List.map_append, List.sum_append]
  omega
set_option maxHeartbeats 8000000 in
theorem len_calls (fu : Nat) (n : S26) (A4 : Option Addr) (c4 : Nat) (A6 : Option Addr) (c6 : Nat) (r : Int) (w : World)
    (hr4 : Kd.C k76 w A4 n.f4.length n.f4) (hc4 : n.f4.length ≤ c4) (hr6 : Kd.C k26 w A6 n.f6.length n.f6) (hc6 : n.f6.length ≤ c6) (h : lenOf fu n = some r) :
    Calls Try.prog 29 #[nodeV n A4 c4 A6 c6] w fun e w' => e = .returned (.int .i64 r) ∧ Below w.heap.size w w' := by
  unfold lenOf at h
  obtain ⟨its, hits, h⟩ := Option.bind_eq_some_iff.1 h
  by_cases hlen : (∀ m ∈ its, m.f4.length < 4398046511104) ∧ lenL its < 9223372036854775807
  case neg => rw [if_neg hlen] at h; cases h
  rw [if_pos hlen] at h
  obtain rfl := Option.some.inj h
  clear h
  have hu26 := Try.underlying26
  have hN : NodeF w (fun k => k < w.heap.size) n A4 c4 A6 c6 := ⟨hc4, Kd.C_F k76_heap hr4, hc6, Kd.C_F k26_heap hr6⟩
  have hall := all_gives fu n its hits
  replace hN := Aside0.mk hN
  replace hall := Aside0.mk hall
  replace hits := Aside0.mk hits
  replace hlen := Aside0.mk hlen
  clear hr4 hc4 hr6 hc6
  refine (callsIn_wide (n := 0)).1 (callsIn_of_wp_marks Try.func29 rfl trivial ?_)
  simp only [Try.ntmps29, List.size_toArray, List.length_cons, List.length_nil, Nat.reduceAdd, Nat.reduceSub, Array.replicate_succ, Array.replicate_zero, List.push_toArray, List.append_toArray, List.nil_append, List.cons_append]
  gi_wp2_with (refine ⟨trivial, rfl, ?_⟩; gi_at_call 44; refine CallsIn.mono (callsIn_wide.2 (all_calls n A4 c4 A6 c6 _)) ?_; rintro e w8 ⟨rfl, hb8, hz8, hn8⟩; replace hb8 := Aside0.mk hb8; replace hn8 := Aside0.mk hn8)
  have hn8' := hn8.out
  simp only [World.size_alloc] at hn8' hz8
  generalize hbl : w.heap.size + 1 = bl at *
  have hbox : w8.heap[bl]? = some (.cells #[.int .i64 0] 3 (0, 0)) := blk_below (new_at _ _ (by simp; omega)) hb8.out
  have hB8 : Below w.heap.size w w8 := below_step (below_alloc (below_alloc (Below.refl _ _) _) _) hb8.out
  have hble : w.heap.size ≤ bl := by omega
  have hP8 : PreA (bl + 1) n A4 c4 A6 c6 w8 (Fr (fun k => k = bl) w8) := by
    have hm : ∀ k, k < w.heap.size → k < w.heap.size → w8.heap[k]? = w.heap[k]? := fun k _ b => hB8.block k b
    have hk : ∀ k, k < w.heap.size → k < w.heap.size → Fr (fun k => k = bl) w8 k := fun k a _ => ⟨fun e => by omega, Nat.lt_of_lt_of_le a hB8.size⟩
    exact ⟨hn8', ⟨by omega, blk_lt hn8'⟩, hN.out.go hm hk⟩
  clear hb8 hn8 hn8'
  refine wpIn_wide.2 (RF.range (gf := 49) (lb := #[.pointer (some ⟨bl + 1, 0, none⟩)]) rfl (fun args w => enters_ Try.func49 (by kernel_rfl) rfl args w)
    (hall.out (bl + 1) A4 c4 A6 c6) (Ctr 3 w w8 bl (fun j => .int .i64 (lenL (its.take j) : Int))) (ctr_stable hB8.size) (fun k => k = bl)
    ⟨fun k => Iff.rfl, Nat.le_refl _, fun _ _ _ => rfl, hbox, hble, hB8⟩
    (fun W' ok hb hok => hP8.go (fun x _ b => hb.block x b) (fun x a b => hok x b a.1))
    (fun h ⟨it, a, A4, c4, A6, c6, e, b⟩ => ⟨it, a, A4, c4, A6, c6, e, b.go (fun _ _ _ => rfl) (fun k a _ => h k a)⟩) ?body ?done)
  case done =>
    intro D S1 w9 hI hSD hgeD hD
    have y0 : w9.cell? ⟨bl, 0, none⟩ = some (.int .i64 (lenL its : Int)) := by
      have := (blk_cell hI.hb 0).trans rfl
      rwa [List.take_length] at this
    replace hI := Aside0.mk hI
    replace hD := Aside0.mk hD
    replace hP8 := Aside0.mk hP8
    replace hB8 := Aside0.mk hB8
    gi_wp2
    refine leaves_marks [D] w9 (by simp) (fun E hE => by rw [List.mem_singleton.1 hE]; exact hD.out) fun w' hc => ?_
    refine ⟨_, results_single rfl (.tmp .nil), rfl, ?_⟩
    exact hc.below_then hI.out.bel hI.out.bel.size (fun k hk hm => by rw [List.mem_singleton.1 hm] at hk; have := hB8.out.size; omega)
  case body =>
    rintro l' j S1 w9 v hj hI hl' hge' ⟨rr, hrr⟩ ⟨it, hit, B4, e4, B6, e6, rfl, hvn⟩
    have hlt' : l' < w9.heap.size := blk_lt hrr
    have hbl9 : bl ≠ l' := fun e => hl' ((hI.s l').2 e.symm)
    have hbb : bl < w9.heap.size := blk_lt hI.hb
    obtain ⟨ob, hob⟩ : ∃ ob, ob = Obj.cells #[.int .i64 it.f0, .int .i64 it.f1, .int .i64 it.f2, .int .i64 it.f3, .slice B4 it.f4.length e4, .string it.f5, .slice B6 it.f6.length e6] 26 := ⟨_, rfl⟩
    have hchg : ∀ o, Chg (fun k => w8.heap.size ≤ k ∧ ¬ S1 k) w9 ((w9.alloc ob).putObj l' (.loop o)) := fun o => (Chg.alloc _ _ _).trans (Chg.put _ _ _ ⟨hge', hl'⟩) (fun _ _ h => h)
    have hI10 := fun o => (ctr_stable (T := 3) (bl := bl) (val := fun j => Value.int .i64 (lenL (its.take j) : Int)) hB8.size).step (W' := (w9.alloc ob).putObj l' (.loop o)) hI (hchg o)
    replace hI := Aside0.mk hI
    replace hP8 := Aside0.mk hP8
    replace hB8 := Aside0.mk hB8
    replace hbox := Aside0.mk hbox
    replace hrr := Aside0.mk hrr
    replace hI10 := Aside0.mk hI10
    replace hchg := Aside0.mk hchg
    replace hvn := Aside0.mk hvn
    replace hit := Aside0.mk hit
    simp only [List.setIfInBounds_toArray, List.set_cons_succ, List.set_cons_zero]
    gi_wp2
    refine ⟨Below.heap_alloc _ _ _ hlt', Chg.alloc _ _ _, fun o => ?_⟩
    rw [← hob]
    obtain ⟨w10, hw10⟩ : ∃ w10, (w9.alloc ob).putObj l' (.loop o) = w10 := ⟨_, rfl⟩
    have hne10 : w9.heap.size ≠ l' := by omega
    have hz10 : w10.heap[w9.heap.size]? = some (.cells #[.int .i64 it.f0, .int .i64 it.f1, .int .i64 it.f2, .int .i64 it.f3, .slice B4 it.f4.length e4, .string it.f5, .slice B6 it.f6.length e6] 26 (0, 0)) := by
      rw [← hw10]; exact (World.putObj_heap_other hne10).trans (hob ▸ blk_new _ _)
    have hsz10 : w10.heap.size = w9.heap.size + 1 := by rw [← hw10]; simp
    have hI10' : Ctr 3 w w8 bl (fun j => Value.int .i64 (lenL (its.take j) : Int)) j S1 w10 := hw10 ▸ hI10.out o
    have hc10 : ∀ x, x < w9.heap.size → x ≠ l' → w10.heap[x]? = w9.heap[x]? := fun x h1 h2 => by
      rw [← hw10]; exact (World.putObj_heap_other h2).trans (Below.heap_alloc _ _ _ h1)
    have hvn10 := hvn.out.go (W' := w10) (ok' := fun _ => True) (fun x a b => hc10 x b a.2) (fun _ _ _ => trivial)
    rw [hw10]
    have hm : it ∈ its := List.mem_of_getElem? hit.out
    have hown := own_calls it B4 e4 B6 e6 w10 (hlen.out.1 it hm) (Kd.F_now hvn10.f4) hvn10.l4
    have z0 : w10.cell? ⟨w9.heap.size, 0, none⟩ = some (.int .i64 it.f0) := (blk_cell hz10 0).trans rfl
    have z1 : w10.cell? ⟨w9.heap.size, 1, none⟩ = some (.int .i64 it.f1) := (blk_cell hz10 1).trans rfl
    have z2 : w10.cell? ⟨w9.heap.size, 2, none⟩ = some (.int .i64 it.f2) := (blk_cell hz10 2).trans rfl
    have z3 : w10.cell? ⟨w9.heap.size, 3, none⟩ = some (.int .i64 it.f3) := (blk_cell hz10 3).trans rfl
    have z4 : w10.cell? ⟨w9.heap.size, 4, none⟩ = some (.slice B4 it.f4.length e4) := (blk_cell hz10 4).trans rfl
    have z5 : w10.cell? ⟨w9.heap.size, 5, none⟩ = some (.string it.f5) := (blk_cell hz10 5).trans rfl
    have z6 : w10.cell? ⟨w9.heap.size, 6, none⟩ = some (.slice B6 it.f6.length e6) := (blk_cell hz10 6).trans rfl
    replace hz10 := Aside0.mk hz10
    replace hI10' := Aside0.mk hI10'
    replace hc10 := Aside0.mk hc10
    replace hown := Aside0.mk hown
    clear hw10 hvn10
    gi_wp2_with (refine ⟨trivial, rfl, ?_⟩; gi_at_call 45; refine CallsIn.mono (CallsIn.inRound l' (callsIn_wide.2 hown.out)) ?_; rintro e w11 ⟨v, rfl, hRv, hb11⟩; obtain ⟨A, c, eA⟩ := Kd.R_slice hRv; subst eA; generalize hL : (ownL it).length = L at hRv; replace hL := Aside0.mk hL; replace hRv := Aside0.mk hRv; replace hb11 := Aside0.mk hb11)
    have hj1 : j < its.length := hj
    have hb10 : bl < w10.heap.size := by omega
    have hacc : lenL (its.take (j + 1)) = lenL (its.take j) + textLen it := lenL_take hit.out
    have htot := lenL_le (l := its) (j + 1)
    have hbnd := hlen.out.2
    gi_loopg [13] L (fun m u13 wr => ∃ x : Nat, u13 = .int .i64 x ∧ m + x = L ∧ Aside0 (wr.heap[bl]? = some (.cells #[.int .i64 ((lenL (its.take j) + sizes ((ownL it).take x) : Nat) : Int)] 3 (0, 0)) ∧ Chg (fun k => k = bl) w11 wr))
    case atStart =>
      refine ⟨0, rfl, by omega, ?_, Chg.refl _ _⟩
      rw [blk_below hI10'.out.hb hb11.out]
      simp [sizes]
    case round =>
      obtain ⟨x, rfl, hmx, hv⟩ := hrel
      by_cases hlt : x < L
      · have hb : decide ((x : Int) < (L : Int)) = true := decide_eq_true (by omega)
        obtain ⟨hvb, hvc⟩ := hv.out
        have hRw := Kd.R_step (Kd.R_bound hRv.out) (w1 := wr) (fun k hk hlt => hvc.block k hlt (fun e => by have := hk.2.1; omega))
        obtain ⟨hLe, hLc, hC⟩ := Kd.R_reads' hRw
        have i0 : 0 ≤ (x : Int) := by omega
        have i1 : (x : Int) < (L : Int) := by omega
        obtain ⟨ad, hA, q0⟩ := Kd.at_string hC (x : Int) i0 (by omega)
        subst hA
        simp only [Int.toNat_natCast] at q0
        have hxs : (ownL it)[x]? = some (rdOf ByteArray.empty (ownL it) (x : Int)) := by
          have hx' : x < (ownL it).length := by omega
          simp [rdOf, List.getElem?_eq_getElem hx', hx']
        generalize hss : rdOf ByteArray.empty (ownL it) (x : Int) = s at q0 hxs
        have hst := sizes_take hxs
        have hsl := sizes_le (l := ownL it) (x + 1)
        have y0 : wr.cell? ⟨bl, 0, none⟩ = some (.int .i64 ((lenL (its.take j) + sizes ((ownL it).take x) : Nat) : Int)) := (blk_cell hvb 0).trans rfl
        have y1 := blk_frozen hvb 0
        have htl : textLen it = sizes (ownL it) := rfl
        generalize hcur : lenL (its.take j) + sizes ((ownL it).take x) = cur at y0 hvb
        have hnx : lenL (its.take j) + sizes ((ownL it).take (x + 1)) = cur + s.size := by omega
        have hw : IntKind.i64.wrap ((cur : Int) + (s.size : Int)) = ((cur + s.size : Nat) : Int) := by rw [IntKind.wrap_i64]; omega
        have hw2 : IntKind.i64.wrap ((x : Int) + 1) = ((x + 1 : Nat) : Int) := by
          have : L ≤ its.length + L := by omega
          rw [IntKind.wrap_i64]
          have := (hlen.out.1 it hm)
          have hLL : L ≤ it.f4.length + 1 := by
            rw [← hL.out]
            unfold ownL
            split
            · simp
            · simp
          omega
        replace hvb := Aside0.mk hvb
        replace hvc := Aside0.mk hvc
        replace hRw := Aside0.mk hRw
        replace hC := Aside0.mk hC
        gi_wp2
        gi_roundg (L - (x + 1))
        case measure => omega
        case rel =>
          refine ⟨x + 1, rfl, by omega, ?_, hvc.out.trans (Chg.set (T := fun k => k = bl) _ _ _ rfl) (fun _ _ h => h)⟩
          rw [hnx]
          exact blk_put hvb.out 0 _ rfl
      · have hb : decide ((x : Int) < (L : Int)) = false := decide_eq_false (by omega)
        obtain rfl : x = L := by omega
        gi_wp2
        have hfin : (ownL it).take x = ownL it := List.take_of_length_le (by rw [hL.out]; exact Nat.le_refl _)
        refine ctr_next hI.out hI10'.out ?_ ((Chg.of_below _ hb11.out).trans hv.out.2 (fun _ _ h => h))
        rw [hv.out.1, hfin, hacc]
        rfl
end Go.Proofs.Ytfekpmbecoeijaa.Hand
namespace Go.Proofs.Ytfekpmbecoeijaa.Hand
open Go.RowKit Go.Proofs.YtfekpmbecoeijaaW.PrintWords Go.Proofs.YtfekpmbecoeijaaW.PrintLast Go.Proofs.YtfekpmbecoeijaaW.PrintMore Go.Proofs.Ytfekpmbecoeijaa.Q Go.Proofs.Ytfekpmbecoeijaa.RF
set_option linter.unusedVariables false
set_option linter.unusedSimpArgs false
set_option maxRecDepth 100000
def cloneB : Nat → S26 → Bool
  | 0, _ => false
  | d + 1, n => decide (n.f4.length < 4398046511104) && decide (n.f6.length < 1466015503701) && n.f6.all (cloneB d)
theorem cloneB_mono : ∀ (d : Nat) (n : S26), cloneB d n = true → cloneB (d + 1) n = true
  | 0, _, h => by simp [cloneB] at h
  | d + 1, n, h => by
    unfold cloneB at h ⊢
    simp only [Bool.and_eq_true, decide_eq_true_eq, List.all_eq_true] at h ⊢
    exact ⟨h.1, fun x hx => cloneB_mono d x (h.2 x hx)⟩
theorem hinfo76 : (Try.prog.info? 76).map (fun i => (i.zero, i.size, i.bytes)) = some (some (.agg #[.int .i64 0, .int .i64 0, .string ⟨#[]⟩]), 3, 32) := by kernel_rfl
theorem hinfo26 : (Try.prog.info? 26).map (fun i => (i.zero, i.size, i.bytes)) = some (some (.agg #[.int .i64 0, .int .i64 0, .int .i64 0, .int .i64 0, .slice none 0 0, .string ⟨#[]⟩, .slice none 0 0]), 7, 96) := by kernel_rfl
theorem far_tight {α : Type} {d : Kd α} {e base g t : Nat} {w : World} {v : Value} {xs : List α} {cs : Array Value} (h : d.R e w base (fun _ => True) v xs) (hE : d.E = []) (hb : w.heap[g]? = some (.cells cs t (0, 0))) (hne : e ≠ t) (j : Nat) (u : Value) :
    d.R e (w.setCell ⟨g, j, none⟩ u) base (fun _ => True) v xs :=
  Kd.R_mono (Kd.R_far (Kd.R_tight hE h) (fun k hk e_ => Kd.R_ne h hb hne (by rw [← hk]; exact congrArg some e_.symm)) u) (fun _ _ => trivial)
def ClonePost (n : S26) (w : World) (e : Ending) (w' : World) : Prop :=
  ∃ v4 v6 : Value, e = .returned (.agg #[.int .i64 n.f0, .int .i64 n.f1, .int .i64 n.f2, .int .i64 n.f3, v4, .string n.f5, v6]) ∧ Kd.R k76 76 w' w.heap.size (fun _ => True) v4 n.f4 ∧ Kd.R k26 26 w' w.heap.size (fun k => some k ≠ v4.ownBlock) v6 n.f6 ∧ Below w.heap.size w w'
def CloneI (n : S26) (g1 g2 : Nat) (v4 : Value) (w : World) (i : Nat) (v6 : Value) (wr : World) : Prop :=
  i ≤ n.f6.length ∧ Kd.R k76 76 wr w.heap.size (fun _ => True) v4 n.f4 ∧ Kd.R k26 26 wr w.heap.size (fun k => some k ≠ v4.ownBlock ∧ k ≠ g1 ∧ k ≠ g2) v6 (n.f6.take i) ∧
    wr.heap[g1]? = some (.cells #[.int .i64 n.f0, .int .i64 n.f1, .int .i64 n.f2, .int .i64 n.f3, v4, .string n.f5, v6] 26 (0, 0)) ∧
    wr.heap[g2]? = some (.cells #[.int .i64 0, .int .i64 0, .int .i64 0, .int .i64 0, .slice none 0 0, .string ⟨#[]⟩, .slice none 0 0] 26 (0, 0)) ∧ Below w.heap.size w wr
set_option maxHeartbeats 8000000 in
theorem clone_calls : ∀ (d : Nat) (n : S26) (A4 : Option Addr) (c4 : Nat) (A6 : Option Addr) (c6 : Nat) (w : World), cloneB d n = true → k76.C w A4 n.f4.length n.f4 → n.f4.length ≤ c4 → k26.C w A6 n.f6.length n.f6 → n.f6.length ≤ c6 →
    Calls Try.prog 32 #[.agg #[.int .i64 n.f0, .int .i64 n.f1, .int .i64 n.f2, .int .i64 n.f3, .slice A4 n.f4.length c4, .string n.f5, .slice A6 n.f6.length c6]] w (ClonePost n w) := by
  intro d
  induction d with
  | zero => intro n A4 c4 A6 c6 w h; simp [cloneB] at h
  | succ d ih =>
    intro n A4 c4 A6 c6 w h hr4 hc4 hr6 hc6
    unfold cloneB at h
    simp only [Bool.and_eq_true, decide_eq_true_eq, List.all_eq_true] at h
    obtain ⟨⟨hb4, hb6⟩, hall⟩ := h
    have hu26 := Try.underlying26
    have HR4 := Aside0.mk hr4
    have HC4 := Aside0.mk hc4
    have HR6 := Aside0.mk hr6
    have HC6 := Aside0.mk hc6
    have HALL := Aside0.mk hall
    have IH := Aside0.mk ih
    clear hr4 hc4 hr6 hc6 hall ih
    go_enter Try.func32, Try.ntmps32
    go_wp2_with ((with_reducible refine gate_builtin (b := .append) (xs := #[.const (.slice none 0 0), .tmp 7]) rfl ?_); at_builtin; refine Kd.R_append_rows k76 (w0 := w) w.heap.size rfl (.const (.slice none 0 0)) (.tmp 7) 23 76 (.agg #[(.int .i64 0), (.int .i64 0), (.string ⟨#[]⟩)]) 32 rfl Try.underlying23 hinfo76 rfl (by decide) (by omega) (.slice none 0 0) ([] : List (S76)) n.f4 _ _ _ (fun _ => True) (fun _ => False) rfl rfl ?aO ?aR (fun _ _ h => h) (fun _ h => h.elim) ?aF ?aB ?aS ?aL ?_; (case aR => exact Kd.C_below HR4.out (below_alloc (below_alloc (Below.refl _ _) _) _)); (case aB => exact below_alloc (below_alloc (Below.refl _ _) _) _); (case aF => exact (fun _ _ => trivial)); (case aO => exact Kd.R_nil _ _ _ _ _); (case aS => exact (below_alloc (below_alloc (Below.refl w.heap.size w) _) _).size); (case aL => simp only [List.length_nil]; omega); intro v4 w1 ho hb hg hat; rw [List.nil_append] at ho; obtain ⟨Ao, co, eo⟩ := Kd.R_slice ho; subst eo; have k1 := blk_grown (blk_alloc (blk_new w _) _) hg (by simp [Value.ownBlock]); have k2 := blk_grown (new_at (w.alloc (.cells #[.int .i64 n.f0, .int .i64 n.f1, .int .i64 n.f2, .int .i64 n.f3, .slice A4 n.f4.length c4, .string n.f5, .slice A6 n.f6.length c6] 26)) (.cells #[.int .i64 0, .int .i64 0, .int .i64 0, .int .i64 0, .slice none 0 0, .string ⟨#[]⟩, .slice none 0 0] 26) (j := w.heap.size + 1) (by simp)) hg (by simp [Value.ownBlock]); have e4 : w1.cell? ⟨w.heap.size, 4, none⟩ = some (.slice A4 n.f4.length c4) := (blk_cell k1 4).trans rfl; have e6 : w1.cell? ⟨w.heap.size, 6, none⟩ = some (.slice A6 n.f6.length c6) := (blk_cell k1 6).trans rfl; have z4 := blk_frozen k1 4; have z6 := blk_frozen k1 6; have HO := Aside0.mk ho; have HB := Aside0.mk hb; have K1 := Aside0.mk k1; have K2 := Aside0.mk k2; clear ho hb hg hat k1 k2)
    generalize hg1 : w.heap.size = g1 at *
    generalize hg2 : g1 + 1 = g2 at *
    have hg12 : g1 < g2 := by omega
    clear e4 e6 z4 z6
    go_loopg [15] n.f6.length (fun m u15 wr => ∃ (i : Nat) (v6 : Value), u15 = .int .i64 i ∧ m + i = n.f6.length ∧ Aside0 (CloneI n g1 g2 (.slice Ao n.f4.length co) w i v6 wr))
    case atStart =>
      have ho : Kd.R k76 76 w1 w.heap.size (fun _ => True) (.slice Ao n.f4.length co) n.f4 := by rw [hg1]; exact HO.out
      have hB : Below w.heap.size w w1 := by rw [hg1]; exact HB.out
      have k1 := blk_put (blk_put K1.out 4 (.slice Ao n.f4.length co) rfl) 6 (.slice none 0 0) rfl
      refine ⟨0, .slice none 0 0, rfl, by omega, ⟨by omega, ?_, ?_, ?_, ?_, ?_⟩⟩
      · exact far_tight (far_tight ho rfl K1.out (by decide) _ _) rfl (blk_set K1.out 4 _) (by decide) _ _
      · rw [List.take_zero]; exact Kd.R_nil _ _ _ _ _
      · exact k1
      · exact blk_far (blk_far K2.out (show g2 ≠ g1 by omega) _) (show g2 ≠ g1 by omega) _
      · exact below_set (below_set hB (by omega)) (by omega)
    case round =>
      obtain ⟨i, v6, rfl, hmi, hCI⟩ := hrel
      by_cases hlt : i < n.f6.length
      · have hb : decide ((i : Int) < n.f6.length) = true := decide_eq_true (by omega)
        obtain ⟨ad, B4, e4, B6, e6, hA6, q0, q1, q2, q3, q4, q5, q6, l4, C4, l6, C6⟩ := at_T26 HR6.out (i : Int) (by omega) (by omega)
        rw [Int.toNat_natCast] at q0 q1 q2 q3 q4 q5 q6
        subst hA6
        have hmem : rd_T26 n.f6 (i : Int) ∈ n.f6 := by simp [rd_T26, hlt]
        have hsnoc : n.f6.take (i + 1) = n.f6.take i ++ [rd_T26 n.f6 (i : Int)] := by rw [List.take_succ_eq_append_getElem hlt]; simp [rd_T26, hlt]
        have hcl := HALL.out _ hmem
        generalize rd_T26 n.f6 (i : Int) = k at *
        have hBr := hCI.out.2.2.2.2.2
        replace q0 := (hBr.cell (World.block_lt_of_cell? _ _ q0)).trans q0
        replace q1 := (hBr.cell (World.block_lt_of_cell? _ _ q1)).trans q1
        replace q2 := (hBr.cell (World.block_lt_of_cell? _ _ q2)).trans q2
        replace q3 := (hBr.cell (World.block_lt_of_cell? _ _ q3)).trans q3
        replace q4 := (hBr.cell (World.block_lt_of_cell? _ _ q4)).trans q4
        replace q5 := (hBr.cell (World.block_lt_of_cell? _ _ q5)).trans q5
        replace q6 := (hBr.cell (World.block_lt_of_cell? _ _ q6)).trans q6
        have i0 : 0 ≤ (i : Int) := by omega
        have i1 : (i : Int) < n.f6.length := by omega
        replace hBr := Aside0.mk hBr
        replace hsnoc := Aside0.mk hsnoc
        replace C4 := Aside0.mk C4
        replace C6 := Aside0.mk C6
        replace l4 := Aside0.mk l4
        replace l6 := Aside0.mk l6
        replace hcl := Aside0.mk hcl
        clear hmem
        go_wp2_with (fail)
        obtain ⟨W1, hW1⟩ : ∃ W1, wr.alloc (.cells #[.int .i64 k.f0, .int .i64 k.f1, .int .i64 k.f2, .int .i64 k.f3, .slice B4 k.f4.length e4, .string k.f5, .slice B6 k.f6.length e6] 26) = W1 := ⟨_, rfl⟩
        have hC := hCI.out
        have hBW : Below wr.heap.size wr W1 := hW1 ▸ below_alloc (Below.refl _ _) _
        have hbk : W1.heap[wr.heap.size]? = some (.cells #[.int .i64 k.f0, .int .i64 k.f1, .int .i64 k.f2, .int .i64 k.f3, .slice B4 k.f4.length e4, .string k.f5, .slice B6 k.f6.length e6] 26 (0, 0)) := hW1 ▸ blk_new _ _
        rw [hW1]
        generalize hbz : wr.heap.size = bk at hbk ⊢
        have hc0 : W1.cell? ⟨bk, 0, none⟩ = some (.int .i64 k.f0) := (blk_cell hbk 0).trans rfl
        have hc1 : W1.cell? ⟨bk, 1, none⟩ = some (.int .i64 k.f1) := (blk_cell hbk 1).trans rfl
        have hc2 : W1.cell? ⟨bk, 2, none⟩ = some (.int .i64 k.f2) := (blk_cell hbk 2).trans rfl
        have hc3 : W1.cell? ⟨bk, 3, none⟩ = some (.int .i64 k.f3) := (blk_cell hbk 3).trans rfl
        have hc4 : W1.cell? ⟨bk, 4, none⟩ = some (.slice B4 k.f4.length e4) := (blk_cell hbk 4).trans rfl
        have hc5 : W1.cell? ⟨bk, 5, none⟩ = some (.string k.f5) := (blk_cell hbk 5).trans rfl
        have hc6 : W1.cell? ⟨bk, 6, none⟩ = some (.slice B6 k.f6.length e6) := (blk_cell hbk 6).trans rfl
        have hv4 := Kd.R_below hC.2.1 hBW
        have hv6 := Kd.R_below hC.2.2.1 hBW
        have hk1 := blk_below hC.2.2.2.1 hBW
        have hk2 := blk_below hC.2.2.2.2.1 hBW
        have hB1 := below_step hC.2.2.2.2.2 hBW
        have hg6 : W1.cell? ⟨g1, 6, none⟩ = some v6 := (blk_cell hk1 6).trans rfl
        have hC4 : k76.C W1 B4 k.f4.length k.f4 := Kd.C_below C4.out hB1
        have hC6 : k26.C W1 B6 k.f6.length k.f6 := Kd.C_below C6.out hB1
        clear hW1 q0 q1 q2 q3 q4 q5 q6 hb
        obtain ⟨A, c, eA⟩ := Kd.R_slice hv6
        have hlen : (n.f6.take i).length = i := by simp; omega
        rw [hlen] at eA
        subst eA
        replace hlen := Aside0.mk hlen
        replace hv4 := Aside0.mk hv4
        replace hv6 := Aside0.mk hv6
        replace hk1 := Aside0.mk hk1
        replace hk2 := Aside0.mk hk2
        replace hB1 := Aside0.mk hB1
        replace hbk := Aside0.mk hbk
        replace hBW := Aside0.mk hBW
        replace hC4 := Aside0.mk hC4
        replace hC6 := Aside0.mk hC6
        replace hC := Aside0.mk hC
        replace hbz := Aside0.mk hbz
        have hSof : ∀ w' : World, Below W1.heap.size W1 w' → (w'.cell? ⟨g1, 6, none⟩ = some (.slice A i c) ∧ w'.cell? ⟨bk, 0, none⟩ = some (.int .i64 k.f0) ∧ w'.cell? ⟨bk, 1, none⟩ = some (.int .i64 k.f1) ∧ w'.cell? ⟨bk, 2, none⟩ = some (.int .i64 k.f2) ∧ w'.cell? ⟨bk, 3, none⟩ = some (.int .i64 k.f3) ∧ w'.cell? ⟨bk, 4, none⟩ = some (.slice B4 k.f4.length e4) ∧ w'.cell? ⟨bk, 5, none⟩ = some (.string k.f5) ∧ w'.cell? ⟨bk, 6, none⟩ = some (.slice B6 k.f6.length e6)) := fun w' hb => ⟨pw_cell_below hb hg6, pw_cell_below hb hc0, pw_cell_below hb hc1, pw_cell_below hb hc2, pw_cell_below hb hc3, pw_cell_below hb hc4, pw_cell_below hb hc5, pw_cell_below hb hc6⟩
        have hn6 : some g1 ≠ (Value.slice A i c).ownBlock := Kd.R_away hv6.out (fun j hj => hj.2.1)
        have hnk : some bk ≠ (Value.slice A i c).ownBlock := Kd.fresh' (Kd.R_lt hC.out.2.2.1) bk (Nat.le_of_eq hbz.out)
        have hSgr : ∀ w' w'' : World, w'.grownBy w'' (Value.slice A i c).ownBlock → (w'.cell? ⟨g1, 6, none⟩ = some (.slice A i c) ∧ w'.cell? ⟨bk, 0, none⟩ = some (.int .i64 k.f0) ∧ w'.cell? ⟨bk, 1, none⟩ = some (.int .i64 k.f1) ∧ w'.cell? ⟨bk, 2, none⟩ = some (.int .i64 k.f2) ∧ w'.cell? ⟨bk, 3, none⟩ = some (.int .i64 k.f3) ∧ w'.cell? ⟨bk, 4, none⟩ = some (.slice B4 k.f4.length e4) ∧ w'.cell? ⟨bk, 5, none⟩ = some (.string k.f5) ∧ w'.cell? ⟨bk, 6, none⟩ = some (.slice B6 k.f6.length e6)) → (w''.cell? ⟨g1, 6, none⟩ = some (.slice A i c) ∧ w''.cell? ⟨bk, 0, none⟩ = some (.int .i64 k.f0) ∧ w''.cell? ⟨bk, 1, none⟩ = some (.int .i64 k.f1) ∧ w''.cell? ⟨bk, 2, none⟩ = some (.int .i64 k.f2) ∧ w''.cell? ⟨bk, 3, none⟩ = some (.int .i64 k.f3) ∧ w''.cell? ⟨bk, 4, none⟩ = some (.slice B4 k.f4.length e4) ∧ w''.cell? ⟨bk, 5, none⟩ = some (.string k.f5) ∧ w''.cell? ⟨bk, 6, none⟩ = some (.slice B6 k.f6.length e6)) := fun w' w'' hg hs => ⟨cell_grown hg hs.1 hn6, cell_grown hg hs.2.1 hnk, cell_grown hg hs.2.2.1 hnk, cell_grown hg hs.2.2.2.1 hnk, cell_grown hg hs.2.2.2.2.1 hnk, cell_grown hg hs.2.2.2.2.2.1 hnk, cell_grown hg hs.2.2.2.2.2.2.1 hnk, cell_grown hg hs.2.2.2.2.2.2.2 hnk⟩
        have hfr : ∀ j, W1.heap.size ≤ j → (some j ≠ (Value.slice Ao n.f4.length co).ownBlock ∧ j ≠ g1 ∧ j ≠ g2) ∧ some j ≠ (Value.slice A i c).ownBlock := fun j hj => ⟨⟨Kd.fresh' (Kd.R_lt hv4.out) j hj, fun e => by have := blk_lt hk1.out; omega, fun e => by have := blk_lt hk2.out; omega⟩, Kd.fresh' (Kd.R_lt hv6.out) j hj⟩
        replace hSof := Aside0.mk hSof
        replace hSgr := Aside0.mk hSgr
        replace hn6 := Aside0.mk hn6
        replace hnk := Aside0.mk hnk
        replace hfr := Aside0.mk hfr
        have hdr : Below W1.heap.size W1 W1.drew := below_drew (Below.refl _ _)
        refine start_ (n := 8) (S := fun w' => w'.cell? ⟨g1, 6, none⟩ = some (.slice A i c) ∧ w'.cell? ⟨bk, 0, none⟩ = some (.int .i64 k.f0) ∧ w'.cell? ⟨bk, 1, none⟩ = some (.int .i64 k.f1) ∧ w'.cell? ⟨bk, 2, none⟩ = some (.int .i64 k.f2) ∧ w'.cell? ⟨bk, 3, none⟩ = some (.int .i64 k.f3) ∧ w'.cell? ⟨bk, 4, none⟩ = some (.slice B4 k.f4.length e4) ∧ w'.cell? ⟨bk, 5, none⟩ = some (.string k.f5) ∧ w'.cell? ⟨bk, 6, none⟩ = some (.slice B6 k.f6.length e6)) (ds := [7]) #[false, false, false, false, false, false, false, false] (by kernel_rfl) rfl rfl ?_ ?_
        · exact hSof.out _ hdr
        intro hHeld
        generalize hw1d : W1.drew = W1d at hdr hHeld ⊢
        clear hw1d
        refine pure_ (i := 0) (N := some 19) (v := ?_) (a' := ?_) #[true, false, false, false, false, false, false, false] rfl rfl (by kernel_rfl) (fun _ _ _ h => h) (Or.inl ⟨by rfl, ?_⟩) ?_ ?_
        rotate_left
        · intro w'
          go_simp
          with_reducible rfl
        rotate_left
        · simp only [Act.put, List.setIfInBounds_toArray, List.set_cons_zero, List.set_cons_succ, i64_w, i32_w]
          rfl
        refine take_ (i := 1) (N := some 20) (v := ?_) (a' := ?_) #[true, true, false, false, false, false, false, false] rfl rfl (by kernel_rfl) (fun _ _ _ h => h) (Or.inl ⟨by rfl, ?_⟩) hHeld ?_ ?_
        rotate_left
        · rintro w' ⟨s0, s1, s2, s3, s4, s5, s6, s7⟩
          go_simp
          with_reducible rfl
        rotate_left
        · simp only [Act.put, List.setIfInBounds_toArray, List.set_cons_zero, List.set_cons_succ, i64_w, i32_w]
          rfl
        refine take_ (i := 2) (N := some 21) (v := ?_) (a' := ?_) #[true, true, true, false, false, false, false, false] rfl rfl (by kernel_rfl) (fun _ _ _ h => h) (Or.inl ⟨by rfl, ?_⟩) hHeld ?_ ?_
        rotate_left
        · rintro w' ⟨s0, s1, s2, s3, s4, s5, s6, s7⟩
          go_simp
          with_reducible rfl
        rotate_left
        · simp only [Act.put, List.setIfInBounds_toArray, List.set_cons_zero, List.set_cons_succ, i64_w, i32_w]
          rfl
        refine one_ (i := 3) (N := some 22) #[true, true, true, true, false, false, false, false] rfl rfl (by kernel_rfl) (by decide) (fun K hK => ?_)
        refine goes_ Try.func32 (by kernel_rfl) rfl #[.agg #[.int .i64 k.f0, .int .i64 k.f1, .int .i64 k.f2, .int .i64 k.f3, .slice B4 k.f4.length e4, .string k.f5, .slice B6 k.f6.length e6]] (by rfl) rfl rfl (by (try simp only [List.map_toArray, List.map_cons, List.map_nil]); first | done | rfl) ?_
        refine (IH.out k B4 e4 B6 e6 _ hcl.out (Kd.C_below hC4.out hdr) l4.out (Kd.C_below hC6.out hdr) l6.out).mono ?_
        rintro e w5 ⟨v4k, v6k, rfl, hr4, hr6, hb5⟩
        have hb5_ := below_step hdr hb5
        have hq4 := Kd.R_lower (base' := w.heap.size) (Kd.R_mono (ok' := fun j => W1.heap.size ≤ j) (Kd.R_bound hr4) (fun j hj => Nat.le_trans hdr.size hj.2.1)) (Nat.le_trans hB1.out.size hdr.size)
        have hq6 := Kd.R_lower (base' := w.heap.size) (Kd.R_mono (ok' := fun j => W1.heap.size ≤ j) (Kd.R_bound hr6) (fun j hj => Nat.le_trans hdr.size hj.2.1)) (Nat.le_trans hB1.out.size hdr.size)
        replace hq4 := Aside0.mk hq4
        replace hq6 := Aside0.mk hq6
        clear hr4 hr6 hb5
        refine ⟨_, rfl, ?_⟩
        refine hK.out _ _ (hSof.out _ hb5_) (fun hHeld => ?_)
        clear hK K
        refine norm_ (a' := ?_) ?_ ?_
        rotate_left
        · show Act.put _ (some 22) _ = _
          simp only [Act.put, List.setIfInBounds_toArray, List.set_cons_zero, List.set_cons_succ, i64_w, i32_w]
          rfl
        refine one_ (i := 4) (N := some 23) #[true, true, true, true, true, false, false, false] rfl rfl (by kernel_rfl) (by decide) (fun K hK => ?_)
        refine value_ (w1 := ?_) (v := ?_) (by rfl) rfl ?_ ?_
        rotate_left 2
        · go_simp
          constructor
          · rfl
          · rfl
        refine hK.out _ _ (hSof.out _ (below_alloc hb5_ _)) (fun hHeld => ?_)
        clear hK K
        refine norm_ (a' := ?_) ?_ ?_
        rotate_left
        · show Act.put _ (some 23) _ = _
          simp only [Act.put, List.setIfInBounds_toArray, List.set_cons_zero, List.set_cons_succ, i64_w, i32_w]
          rfl
        refine one_ (i := 5) (N := some 24) #[true, true, true, true, true, true, false, false] rfl rfl (by kernel_rfl) (by decide) (fun K hK => ?_)
        refine Kd.R_append_step k26 (w0 := w) w.heap.size (by rfl) (.tmp 20) (.tmp 23) 24 26 (.agg #[.int .i64 0, .int .i64 0, .int .i64 0, .int .i64 0, .slice none 0 0, .string ⟨#[]⟩, .slice none 0 0]) 96 rfl Try.underlying24 hinfo26 rfl (by decide) (by omega) (.slice A i c) (n.f6.take i) k [.int .i64 k.f0, .int .i64 k.f1, .int .i64 k.f2, .int .i64 k.f3, v4k, .string k.f5, v6k] (fun j => some j ≠ (Value.slice Ao n.f4.length co).ownBlock ∧ j ≠ g1 ∧ j ≠ g2) (fun j => W1.heap.size ≤ j) rfl rfl (k26_mkM _ _ _ k hq4.out hq6.out) hfr.out (fun j hj => (hfr.out j (Nat.le_trans hb5_.size hj)).1) (Kd.R_below hv6.out hb5_) (below_step hB1.out hb5_) (Nat.le_trans hB1.out.size hb5_.size) (by rw [hlen.out]; omega) ?_
        intro v1 w6 ho6 hb6 hg6_ hat6
        have k1_ := blk_grown (blk_below hk1.out hb5_) hg6_ hn6.out
        have s6_ : w6.cell? ⟨g1, 6, none⟩ = some (.slice A i c) := (blk_cell k1_ 6).trans rfl
        have z6_ := blk_frozen k1_ 6
        have K1_ := Aside0.mk k1_
        have HO6 := Aside0.mk ho6
        have HB6 := Aside0.mk hb6
        have HG6 := Aside0.mk hg6_
        have HB5 := Aside0.mk hb5_
        obtain ⟨Av, cv, ev⟩ := Kd.R_slice ho6
        rw [show (n.f6.take i ++ [k]).length = i + 1 by rw [List.length_append, hlen.out]; rfl] at ev
        subst ev
        refine hK.out _ _ (hSgr.out _ _ hg6_ (hSof.out _ hb5_)) (fun hHeld => ?_)
        clear k1_ ho6 hb6 hat6 hg6_ hb5_
        clear hK K
        refine norm_ (a' := ?_) ?_ ?_
        rotate_left
        · show Act.put _ (some 24) _ = _
          simp only [Act.put, List.setIfInBounds_toArray, List.set_cons_zero, List.set_cons_succ, i64_w, i32_w]
          rfl
        refine pure_ (i := 6) (N := some 25) (v := ?_) (a' := ?_) #[true, true, true, true, true, true, true, false] rfl rfl (by kernel_rfl) (fun _ _ _ h => h) (Or.inl ⟨by rfl, ?_⟩) ?_ ?_
        rotate_left
        · intro w'
          go_simp
          with_reducible rfl
        rotate_left
        · simp only [Act.put, List.setIfInBounds_toArray, List.set_cons_zero, List.set_cons_succ, i64_w, i32_w]
          rfl
        refine last_ (i := 7) (N := none) #[true, true, true, true, true, true, true, true] rfl rfl (by kernel_rfl) (by decide) (fun K hK => ?_)
        refine skip_ (w1 := ?_) (by rfl) rfl ?_ ?_
        rotate_left
        · go_simp
          rfl
        refine hK.out _ _ ?_
        clear hK K
        refine done_ (by kernel_rfl) ?_
        go_wp2
        have hi1 : (i : Int) + 1 = ((i + 1 : Nat) : Int) := by omega
        rw [hi1]
        go_roundg (n.f6.length - (i + 1))
        case measure => omega
        case rel =>
          have hn6' : ∀ j, (Value.slice Av (i + 1) cv).ownBlock = some j → j ≠ g1 := fun j hj => (HO6.out.1 j hj).2.1
          refine ⟨i + 1, .slice Av (i + 1) cv, rfl, by omega, ⟨by omega, ?_, ?_, ?_, ?_, ?_⟩⟩
          · have h1 := Kd.R_grown2 (Kd.R_below hv4.out HB5.out) rfl HG6.out (fun j e => (hv6.out.1 j e).1)
            exact far_tight h1 rfl K1_.out (by decide) _ _
          · rw [hsnoc.out]
            exact Kd.R_far HO6.out (fun j hj => hj.2.1) _
          · exact blk_put K1_.out 6 _ rfl
          · exact blk_far (blk_grown (blk_below hk2.out HB5.out) HG6.out (Kd.R_away hv6.out (fun j hj => hj.2.2))) (show g2 ≠ g1 by omega) _
          · exact below_set HB6.out (by omega)
      · have hb : decide ((i : Int) < n.f6.length) = false := decide_eq_false (by omega)
        have hC := hCI.out
        obtain rfl : i = n.f6.length := by have := hC.1; omega
        have hk1 := hC.2.2.2.1
        have hk2 := hC.2.2.2.2.1
        have hC' := Aside0.mk hC
        have hv6 := hC.2.2.1
        rw [List.take_length] at hv6
        obtain ⟨A, c, eA⟩ := Kd.R_slice hv6
        subst eA
        have a0 : wr.cell? ⟨g1, 0, none⟩ = some (.int .i64 n.f0) := (blk_cell hk1 0).trans rfl
        have a1 : wr.cell? ⟨g1, 1, none⟩ = some (.int .i64 n.f1) := (blk_cell hk1 1).trans rfl
        have a2 : wr.cell? ⟨g1, 2, none⟩ = some (.int .i64 n.f2) := (blk_cell hk1 2).trans rfl
        have a3 : wr.cell? ⟨g1, 3, none⟩ = some (.int .i64 n.f3) := (blk_cell hk1 3).trans rfl
        have a4 : wr.cell? ⟨g1, 4, none⟩ = some (.slice Ao n.f4.length co) := (blk_cell hk1 4).trans rfl
        have a5 : wr.cell? ⟨g1, 5, none⟩ = some (.string n.f5) := (blk_cell hk1 5).trans rfl
        have a6 : wr.cell? ⟨g1, 6, none⟩ = some (.slice A n.f6.length c) := (blk_cell hk1 6).trans rfl
        have b0 : wr.cell? ⟨g2, 0, none⟩ = some (.int .i64 0) := (blk_cell hk2 0).trans rfl
        have b1 : wr.cell? ⟨g2, 1, none⟩ = some (.int .i64 0) := (blk_cell hk2 1).trans rfl
        have b2 : wr.cell? ⟨g2, 2, none⟩ = some (.int .i64 0) := (blk_cell hk2 2).trans rfl
        have b3 : wr.cell? ⟨g2, 3, none⟩ = some (.int .i64 0) := (blk_cell hk2 3).trans rfl
        have b4 : wr.cell? ⟨g2, 4, none⟩ = some (.slice none 0 0) := (blk_cell hk2 4).trans rfl
        have b5 : wr.cell? ⟨g2, 5, none⟩ = some (.string ⟨#[]⟩) := (blk_cell hk2 5).trans rfl
        have b6 : wr.cell? ⟨g2, 6, none⟩ = some (.slice none 0 0) := (blk_cell hk2 6).trans rfl
        have f0 := blk_frozen hk2 0
        have f1 := blk_frozen hk2 1
        have f2 := blk_frozen hk2 2
        have f3 := blk_frozen hk2 3
        have f4 := blk_frozen hk2 4
        have f5 := blk_frozen hk2 5
        have f6 := blk_frozen hk2 6
        replace hk1 := Aside0.mk hk1
        replace hk2 := Aside0.mk hk2
        replace hv6 := Aside0.mk hv6
        clear hC hCI
        go_wp2
        have hk2' := blk_put (blk_put (blk_put (blk_put (blk_put (blk_put (blk_put hk2.out 0 (.int .i64 n.f0) rfl) 1 (.int .i64 n.f1) rfl) 2 (.int .i64 n.f2) rfl) 3 (.int .i64 n.f3) rfl) 4 (.slice Ao n.f4.length co) rfl) 5 (.string n.f5) rfl) 6 (.slice A n.f6.length c) rfl
        refine bodyPost_ret (results_single rfl (.cell g2 26 _ (0, 0) _ rfl hk2' Try.underlying26 rfl (by kernel_rfl) .nil)) rfl ⟨.slice Ao n.f4.length co, .slice A n.f6.length c, rfl, ?_, ?_, ?_⟩
        · have F := fun {W : World} (h : Kd.R k76 76 W w.heap.size (fun _ => True) (.slice Ao n.f4.length co) n.f4) {cs : Array Value} (hb : W.heap[g2]? = some (.cells cs 26 (0, 0))) (j : Nat) (u : Value) => far_tight h rfl hb (by decide) j u
          exact F (F (F (F (F (F (F hC'.out.2.1 hk2.out _ _) (blk_set hk2.out _ _) _ _) (blk_set (blk_set hk2.out _ _) _ _) _ _) (blk_set (blk_set (blk_set hk2.out _ _) _ _) _ _) _ _) (blk_set (blk_set (blk_set (blk_set hk2.out _ _) _ _) _ _) _ _) _ _) (blk_set (blk_set (blk_set (blk_set (blk_set hk2.out _ _) _ _) _ _) _ _) _ _) _ _) (blk_set (blk_set (blk_set (blk_set (blk_set (blk_set hk2.out _ _) _ _) _ _) _ _) _ _) _ _) _ _
        · refine Kd.R_mono (ok := fun k => some k ≠ (Value.slice Ao n.f4.length co).ownBlock ∧ k ≠ g1 ∧ k ≠ g2) ?_ (fun k hk => hk.1)
          refine Kd.R_far (Kd.R_far (Kd.R_far (Kd.R_far (Kd.R_far (Kd.R_far (Kd.R_far hv6.out ?_ _) ?_ _) ?_ _) ?_ _) ?_ _) ?_ _) ?_ _ <;> exact fun j hj => hj.2.2
        · have hg : w.heap.size ≤ g2 := by omega
          exact below_set (below_set (below_set (below_set (below_set (below_set (below_set hC'.out.2.2.2.2.2 hg) hg) hg) hg) hg) hg) hg
end Go.Proofs.Ytfekpmbecoeijaa.Hand
namespace Go.Proofs.Ytfekpmbecoeijaa.Hand
open Go.RowKit Go.Proofs.YtfekpmbecoeijaaW.PrintWords Go.Proofs.YtfekpmbecoeijaaW.PrintLast Go.Proofs.YtfekpmbecoeijaaW.PrintMore Go.Proofs.Ytfekpmbecoeijaa.Q Go.Proofs.Ytfekpmbecoeijaa.RF
set_option linter.unusedVariables false
set_option linter.unusedSimpArgs false
set_option maxRecDepth 100000
def cOwn (n : S26) : Option Int := if n.f0 < 0 then some 0 else if n.f4.length < 4398046511104 ∧ textLen n < 9223372036854775807 then some (textLen n : Int) else none
def bare (n : S26) : S26 := ⟨n.f0, n.f1, n.f2, n.f3, n.f4, n.f5, []⟩
theorem len_bare {n : S26} (h : n.f4.length < 4398046511104 ∧ textLen n < 9223372036854775807) : lenOf 1 (bare n) = some (textLen n : Int) := by
  have e : preF 1 (bare n) = some [bare n] := by simp [preF, preL, bare]
  unfold lenOf
  rw [e, Option.bind_some]
  have e2 : lenL [bare n] = textLen n := by simp [lenL, textLen, ownL, bare]
  rw [e2, if_pos ⟨fun m hm => by rw [List.mem_singleton.1 hm]; exact h.1, h.2⟩]
set_option maxHeartbeats 8000000 in
theorem cown_calls (n : S26) (A4 : Option Addr) (c4 : Nat) (A6 : Option Addr) (c6 : Nat) (r : Int) (w : World)
    (hr4 : Kd.C k76 w A4 n.f4.length n.f4) (hc4 : n.f4.length ≤ c4) (h : cOwn n = some r) :
    Calls Try.prog 46 #[nodeV n A4 c4 A6 c6] w fun e w' => e = .returned (.int .i64 r) ∧ Below w.heap.size w w' := by
  have hu26 := Try.underlying26
  obtain ⟨ob, hob⟩ : ∃ ob, ob = Obj.cells #[.int .i64 n.f0, .int .i64 n.f1, .int .i64 n.f2, .int .i64 n.f3, .slice A4 n.f4.length c4, .string n.f5, .slice A6 n.f6.length c6] 26 := ⟨_, rfl⟩
  have hB1 : Below w.heap.size w (w.alloc ob) := below_alloc (Below.refl _ _) _
  have hb1 : (w.alloc ob).heap[w.heap.size]? = some (.cells #[.int .i64 n.f0, .int .i64 n.f1, .int .i64 n.f2, .int .i64 n.f3, .slice A4 n.f4.length c4, .string n.f5, .slice A6 n.f6.length c6] 26 (0, 0)) := hob ▸ blk_new _ _
  unfold cOwn at h
  by_cases hs : n.f0 < 0
  · rw [if_pos hs] at h
    obtain rfl := Option.some.inj h
    replace hB1 := Aside0.mk hB1
    clear hb1
    subst hob
    go_enter Try.func46, Try.ntmps46
    go_wp2
    go_ret
    exact ⟨rfl, hB1.out⟩
  · rw [if_neg hs] at h
    by_cases hl : n.f4.length < 4398046511104 ∧ textLen n < 9223372036854775807
    case neg => rw [if_neg hl] at h; cases h
    rw [if_pos hl] at h
    obtain rfl := Option.some.inj h
    have hbl := len_bare hl
    have hl46 := hl.1
    obtain ⟨w1, hw1⟩ : ∃ w1, (w.alloc (Obj.cells #[.int .i64 n.f0, .int .i64 n.f1, .int .i64 n.f2, .int .i64 n.f3, .slice A4 n.f4.length c4, .string n.f5, .slice none 0 0] 26)) = w1 := ⟨_, rfl⟩
    have hB2 : Below w.heap.size w w1 := hw1 ▸ below_alloc (Below.refl _ _) _
    have hk1 : w1.heap[w.heap.size]? = some (.cells #[.int .i64 n.f0, .int .i64 n.f1, .int .i64 n.f2, .int .i64 n.f3, .slice A4 n.f4.length c4, .string n.f5, .slice none 0 0] 26 (0, 0)) := hw1 ▸ blk_new _ _
    have z0 : w1.cell? ⟨w.heap.size, 0, none⟩ = some (.int .i64 n.f0) := (blk_cell hk1 0).trans rfl
    have z1 : w1.cell? ⟨w.heap.size, 1, none⟩ = some (.int .i64 n.f1) := (blk_cell hk1 1).trans rfl
    have z2 : w1.cell? ⟨w.heap.size, 2, none⟩ = some (.int .i64 n.f2) := (blk_cell hk1 2).trans rfl
    have z3 : w1.cell? ⟨w.heap.size, 3, none⟩ = some (.int .i64 n.f3) := (blk_cell hk1 3).trans rfl
    have z4 : w1.cell? ⟨w.heap.size, 4, none⟩ = some (.slice A4 n.f4.length c4) := (blk_cell hk1 4).trans rfl
    have z5 : w1.cell? ⟨w.heap.size, 5, none⟩ = some (.string n.f5) := (blk_cell hk1 5).trans rfl
    have z6 : w1.cell? ⟨w.heap.size, 6, none⟩ = some (.slice none 0 0) := (blk_cell hk1 6).trans rfl
    have hlen : Calls Try.prog 29 #[.agg #[.int .i64 n.f0, .int .i64 n.f1, .int .i64 n.f2, .int .i64 n.f3, .slice A4 n.f4.length c4, .string n.f5, .slice none 0 0]] w1 _ := len_calls 1 (bare n) A4 c4 none 0 (textLen n : Int) w1 (Kd.C_below hr4 hB2) hc4 (Kd.C_nil _ _) (Nat.le_refl _) hbl
    replace hB2 := Aside0.mk hB2
    replace hlen := Aside0.mk hlen
    replace hbl := Aside0.mk hbl
    replace hl := Aside0.mk hl
    replace hk1 := Aside0.mk hk1
    replace hr4 := Aside0.mk hr4
    replace hB1 := Aside0.mk hB1
    clear hb1
    subst hob
    go_enter Try.func46, Try.ntmps46
    go_wp2_with (go_at_call 29; refine hlen.out.mono ?_; rintro e w2 ⟨rfl, hb2⟩; replace hb2 := Aside0.mk hb2)
    go_ret
    exact ⟨rfl, below_step hB2.out hb2.out⟩
end Go.Proofs.Ytfekpmbecoeijaa.Hand
namespace Go.Proofs.Ytfekpmbecoeijaa.Hand
open Go.RowKit Go.Proofs.YtfekpmbecoeijaaW.PrintWords Go.Proofs.YtfekpmbecoeijaaW.PrintLast Go.Proofs.YtfekpmbecoeijaaW.PrintMore Go.Proofs.Ytfekpmbecoeijaa.Q Go.Proofs.Ytfekpmbecoeijaa.RF
set_option linter.unusedVariables false
set_option linter.unusedSimpArgs false
set_option maxRecDepth 100000
section
variable {α : Type} {d : Kd α} {e B m : Nat} {W W' : World} {ok ok' : Nat → Prop} {v : Value} {xs : List α}
def Row (d : Kd α) (e B : Nat) (ok : Nat → Prop) (v : Value) (xs : List α) (W : World) : Prop :=
  ∃ A c c0, v = .slice A xs.length c ∧ (c = c0 ∨ c = xs.length) ∧ d.R e W B ok (.slice A xs.length c0) xs
theorem Row.of (h : d.R e W B ok v xs) : Row d e B ok v xs W := by
  obtain ⟨A, c, rfl⟩ := Kd.R_slice h
  exact ⟨A, c, c, rfl, .inl rfl, h⟩
theorem Row.reads (h : Row d e B ok v xs W) : ∃ A c, v = .slice A xs.length c ∧ xs.length ≤ c ∧ d.C W A xs.length xs := by
  obtain ⟨A, c, c0, rfl, hc, hR⟩ := h
  obtain ⟨_, h1, h2⟩ := Kd.R_reads' hR
  exact ⟨A, c, rfl, by rcases hc with rfl | rfl <;> omega, h2⟩
theorem Row.step (h : Row d e B ok v xs W) (hm : ∀ k, ok k → k < W.heap.size → W'.heap[k]? = W.heap[k]?) : Row d e B ok v xs W' := by
  obtain ⟨A, c, c0, rfl, hc, hR⟩ := h
  exact ⟨A, c, c0, rfl, hc, Kd.R_step hR hm⟩
theorem Row.mono (h : Row d e B ok v xs W) (hk : ∀ k, ok k → ok' k) : Row d e B ok' v xs W := by
  obtain ⟨A, c, c0, rfl, hc, hR⟩ := h
  exact ⟨A, c, c0, rfl, hc, Kd.R_mono hR hk⟩
theorem Row.cut (h : Row d e B ok v xs W) (hm : m ≤ xs.length) : ∃ A c, v = .slice A xs.length c ∧ Row d e B ok (.slice A m m) (xs.take m) W := by
  obtain ⟨A, c, c0, rfl, hc, hR⟩ := h
  have hl : (xs.take m).length = m := by simp; omega
  refine ⟨A, c, rfl, A, m, c0, by rw [hl], .inr hl.symm, ?_⟩
  rw [hl]
  exact Kd.R_take hR hm
theorem Row.own (h : Row d e B ok v xs W) : ∀ k, v.ownBlock = some k → ok k ∧ B ≤ k ∧ k < W.heap.size := by
  intro k hk
  obtain ⟨A, c, c0, rfl, hc, hR⟩ := h
  have hk' : (Value.slice A xs.length c0).ownBlock = some k := by cases A <;> exact hk
  have hb := (Kd.R_bound hR).1 k hk'
  exact ⟨hb.1, hb.2.1, hb.2.2.1⟩
end
structure Cu where
  ns : List S26
  ps : List Int
  hs : List Int
structure CurW (B g : Nat) (v1 v2 v3 : Value) (c : Cu) (W : World) : Prop where
  hb : W.heap[g]? = some (.cells #[v1, v2, v3] 61 (0, 0))
  lg : B ≤ g
  r1 : Row k26 26 B (fun k => k ≠ g ∧ some k ≠ v2.ownBlock ∧ some k ≠ v3.ownBlock) v1 c.ns W
  r2 : Row (Kd.int .i64) 3 B (fun k => k ≠ g ∧ some k ≠ v1.ownBlock ∧ some k ≠ v3.ownBlock) v2 c.ps W
  r3 : Row (Kd.int .i64) 3 B (fun k => k ≠ g ∧ some k ≠ v1.ownBlock ∧ some k ≠ v2.ownBlock) v3 c.hs W
def Mine (g : Nat) (v1 v2 v3 : Value) (k : Nat) : Prop := k = g ∨ some k = v1.ownBlock ∨ some k = v2.ownBlock ∨ some k = v3.ownBlock
theorem CurW.below {B g : Nat} {v1 v2 v3 : Value} {c : Cu} {W W' : World} (h : CurW B g v1 v2 v3 c W) (hb : Below W.heap.size W W') : CurW B g v1 v2 v3 c W' :=
  ⟨blk_below h.hb hb, h.lg, h.r1.step (fun k _ hk => hb.block k hk), h.r2.step (fun k _ hk => hb.block k hk), h.r3.step (fun k _ hk => hb.block k hk)⟩
theorem Reps.single {α : Type} {R : α → List Value → Prop} {x : α} {cs : List Value} {sz : Nat} (hl : cs.length = sz) (h : R x cs) : Reps R sz [x] cs := by
  refine ⟨by simp [hl], fun j p hj => ?_⟩
  cases j with
  | succ j => simp at hj
  | zero =>
    have hj' : x = p := by simpa using hj
    subst hj'
    simpa [List.take_of_length_le (Nat.le_of_eq hl)] using h
theorem R_one {α : Type} {d : Kd α} {e B : Nat} {W : World} {ok okp : Nat → Prop} {x : α} {cs : List Value} (hl : cs.length = d.sz) (hM : d.M W B okp x cs) (hB : B ≤ W.heap.size) (hok : ∀ k, okp k → k < W.heap.size → ok k) (hf : ok W.heap.size) :
    d.R e (W.alloc (.cells cs.toArray e)) B ok (.slice (some ⟨W.heap.size, 0, none⟩) 1 1) [x] := by
  refine ⟨fun k hk => ?_, cs, ?_, Reps.single hl ?_⟩
  · have : W.heap.size = k := by simpa [Value.ownBlock] using hk
    exact this ▸ hf
  · have h := World.ownsRow_lit (base := B) (e := e) (size := d.sz) W cs.toArray 1 hB (by decide) (by simp [hl])
    simpa using h
  · refine d.M_mono (fun k hk => ?_) (Kd.M_below (d.M_bound hM) (below_alloc (Below.refl _ _) _))
    refine ⟨hok k hk.1 hk.2.2.1, fun he => ?_⟩
    have h3 : k = W.heap.size := by simpa [Value.ownBlock] using he
    have := hk.2.2.1
    omega
set_option maxHeartbeats 8000000 in
theorem new_calls (fu : Nat) (n : S26) (A4 : Option Addr) (c4 : Nat) (A6 : Option Addr) (c6 : Nat) (w : World) (hcl : cloneB fu n = true)
    (hr4 : Kd.C k76 w A4 n.f4.length n.f4) (hc4 : n.f4.length ≤ c4) (hr6 : Kd.C k26 w A6 n.f6.length n.f6) (hc6 : n.f6.length ≤ c6) :
    Calls Try.prog 9 #[nodeV n A4 c4 A6 c6] w fun e w' => ∃ g v1 v2 v3, e = .returned (.pointer (some ⟨g, 0, none⟩)) ∧ CurW w.heap.size g v1 v2 v3 ⟨[n], [], [0]⟩ w' ∧ Below w.heap.size w w' := by
  have hu26 := Try.underlying26
  have hu61 := Try.underlying61
  have hu59 := Try.underlying59
  obtain ⟨ob, hob⟩ : ∃ ob, ob = Obj.cells #[.int .i64 n.f0, .int .i64 n.f1, .int .i64 n.f2, .int .i64 n.f3, .slice A4 n.f4.length c4, .string n.f5, .slice A6 n.f6.length c6] 26 := ⟨_, rfl⟩
  have hB1 : Below w.heap.size w (w.alloc ob) := below_alloc (Below.refl _ _) _
  have hcc := clone_calls fu n A4 c4 A6 c6 (w.alloc ob) hcl (Kd.C_below hr4 hB1) hc4 (Kd.C_below hr6 hB1) hc6
  replace hB1 := Aside0.mk hB1
  replace hcc := Aside0.mk hcc
  subst hob
  go_enter Try.func9, Try.ntmps9
  go_wp2_with (go_at_call 32; refine hcc.out.mono ?_; rintro e w2 ⟨v4, v6, rfl, h4, h6, hb2⟩; replace hb2 := Aside0.mk hb2; replace h4 := Aside0.mk h4; replace h6 := Aside0.mk h6)
  go_ret
  have hbase : w.heap.size ≤ (w.alloc (Obj.cells #[.int .i64 n.f0, .int .i64 n.f1, .int .i64 n.f2, .int .i64 n.f3, .slice A4 n.f4.length c4, .string n.f5, .slice A6 n.f6.length c6] 26)).heap.size := hB1.out.size
  have hB2 := below_step hB1.out hb2.out
  have hM : k26.M w2 w.heap.size (fun _ => True) n [.int .i64 n.f0, .int .i64 n.f1, .int .i64 n.f2, .int .i64 n.f3, v4, .string n.f5, v6] :=
    k26_mkM w2 w.heap.size (fun _ => True) n (Kd.R_lower h4.out hbase) (Kd.R_mono (Kd.R_lower h6.out hbase) (fun _ _ => trivial))
  obtain ⟨c1, hc1⟩ : ∃ c1, c1 = Obj.cells #[.int .i64 n.f0, .int .i64 n.f1, .int .i64 n.f2, .int .i64 n.f3, v4, .string n.f5, v6] 26 := ⟨_, rfl⟩
  have hR1 := R_one (d := k26) (e := 26) (ok := fun k => k ≠ w2.heap.size + 1 + 1 ∧ some k ≠ (Value.slice none 0 0).ownBlock ∧ some k ≠ (Value.slice (some ⟨w2.heap.size + 1, 0, none⟩) 1 1).ownBlock) (by rfl) hM hB2.size (fun k _ hk => ⟨by omega, by simp [Value.ownBlock], by simp [Value.ownBlock]; omega⟩) ⟨by omega, by simp [Value.ownBlock], by simp [Value.ownBlock]⟩
  have e1 : Obj.cells ([.int .i64 n.f0, .int .i64 n.f1, .int .i64 n.f2, .int .i64 n.f3, v4, .string n.f5, v6] : List Value).toArray 26 = c1 := hc1.symm
  rw [e1] at hR1
  rw [← hc1]
  have hz3 : (w2.alloc c1).heap.size = w2.heap.size + 1 := World.size_alloc _ _
  have hR3 := R_one (d := Kd.int .i64) (e := 3) (W := w2.alloc c1) (B := w.heap.size) (x := (0 : Int)) (cs := [.int .i64 0]) (okp := fun _ => False) (ok := fun k => k ≠ w2.heap.size + 1 + 1 ∧ some k ≠ (Value.slice (some ⟨w2.heap.size, 0, none⟩) 1 1).ownBlock ∧ some k ≠ (Value.slice none 0 0).ownBlock) (by rfl) rfl (by rw [hz3]; have := hB2.size; omega) (fun k h _ => h.elim) ⟨by omega, by simp [Value.ownBlock], by simp [Value.ownBlock]⟩
  rw [hz3] at hR3
  have hBa := below_alloc (Below.refl (w2.alloc c1).heap.size (w2.alloc c1)) (Obj.cells #[.int .i64 0] 3)
  have hBb := below_alloc (Below.refl ((w2.alloc c1).alloc (Obj.cells #[.int .i64 0] 3)).heap.size ((w2.alloc c1).alloc (Obj.cells #[.int .i64 0] 3))) (Obj.cells #[.slice (some ⟨w2.heap.size, 0, none⟩) 1 1, .slice none 0 0, .slice (some ⟨w2.heap.size + 1, 0, none⟩) 1 1] 61)
  refine ⟨w2.heap.size + 1 + 1, .slice (some ⟨w2.heap.size, 0, none⟩) 1 1, .slice none 0 0, .slice (some ⟨w2.heap.size + 1, 0, none⟩) 1 1, rfl, ⟨?_, ?_, Row.of (Kd.R_below (Kd.R_below hR1 hBa) hBb), Row.of (Kd.R_nil _ _ _ _ _), Row.of (Kd.R_below hR3 hBb)⟩, ?_⟩
  · exact new_at _ _ (by simp)
  · have := hB2.size
    omega
  · exact below_alloc (below_alloc (below_alloc hB2 _) _) _
end Go.Proofs.Ytfekpmbecoeijaa.Hand
namespace Go.Proofs.Ytfekpmbecoeijaa.Hand
open Go.RowKit Go.Proofs.YtfekpmbecoeijaaW.PrintWords Go.Proofs.YtfekpmbecoeijaaW.PrintLast Go.Proofs.YtfekpmbecoeijaaW.PrintMore Go.Proofs.Ytfekpmbecoeijaa.Q Go.Proofs.Ytfekpmbecoeijaa.RF
set_option linter.unusedVariables false
set_option linter.unusedSimpArgs false
set_option maxRecDepth 100000
theorem nown {A : Option Addr} {n c n' c' k : Nat} (h : some k ≠ (Value.slice A n c).ownBlock) : some k ≠ (Value.slice A n' c').ownBlock := by cases A <;> exact h
theorem at_R26 {w : World} {B : Nat} {ok : Nat → Prop} {A : Option Addr} {n c0 : Nat} {xs : List S26} (h : k26.R 26 w B ok (.slice A n c0) xs) (i : Int) (h0 : 0 ≤ i) (h1 : i < n) :
    ∃ ad A4 c4 A6 c6, A = some ad ∧ w.cell? (ad.add (i.toNat * 7)) = some (.int .i64 (rd_T26 xs i).f0) ∧ w.cell? ⟨(ad.add (i.toNat * 7)).block, (ad.add (i.toNat * 7)).off + 1, none⟩ = some (.int .i64 (rd_T26 xs i).f1) ∧ w.cell? ⟨(ad.add (i.toNat * 7)).block, (ad.add (i.toNat * 7)).off + 2, none⟩ = some (.int .i64 (rd_T26 xs i).f2) ∧ w.cell? ⟨(ad.add (i.toNat * 7)).block, (ad.add (i.toNat * 7)).off + 3, none⟩ = some (.int .i64 (rd_T26 xs i).f3) ∧ w.cell? ⟨(ad.add (i.toNat * 7)).block, (ad.add (i.toNat * 7)).off + 4, none⟩ = some (.slice A4 (rd_T26 xs i).f4.length c4) ∧ w.cell? ⟨(ad.add (i.toNat * 7)).block, (ad.add (i.toNat * 7)).off + 5, none⟩ = some (.string (rd_T26 xs i).f5) ∧ w.cell? ⟨(ad.add (i.toNat * 7)).block, (ad.add (i.toNat * 7)).off + 6, none⟩ = some (.slice A6 (rd_T26 xs i).f6.length c6) ∧ k76.R 76 w B (fun k => ok k ∧ some k ≠ (Value.slice A n c0).ownBlock) (.slice A4 (rd_T26 xs i).f4.length c4) (rd_T26 xs i).f4 ∧ k26.R 26 w B (fun k => ok k ∧ some k ≠ (Value.slice A n c0).ownBlock) (.slice A6 (rd_T26 xs i).f6.length c6) (rd_T26 xs i).f6 := by
  have hn : n = xs.length := (Kd.R_reads' h).1
  obtain ⟨g, cap, e, _, _, _⟩ := Kd.R_form h (by omega)
  injection e with e1 e2 e3
  subst e1 e3
  obtain ⟨c, hcl, hM, hc, _⟩ := Kd.R_elem h z26 i h0 h1
  obtain ⟨v4, v6, rfl, r4, r6⟩ := k26_openM hM
  obtain ⟨A4, c4, rfl⟩ := Kd.R_slice r4
  obtain ⟨A6, c6, rfl⟩ := Kd.R_slice r6
  have hm : ∀ k, (ok k ∧ k ≠ g) → ok k ∧ some k ≠ (Value.slice (some ⟨g, 0, none⟩) n c0).ownBlock := fun k hk => ⟨hk.1, by simpa [Value.ownBlock] using hk.2⟩
  refine ⟨⟨g, 0, none⟩, A4, c4, A6, c6, rfl, ?_, ?_, ?_, ?_, ?_, ?_, ?_, Kd.R_mono r4 hm, Kd.R_mono r6 hm⟩ <;> (simp only [add_plain])
  · exact hc 0 _ rfl
  · exact hc 1 _ rfl
  · exact hc 2 _ rfl
  · exact hc 3 _ rfl
  · exact hc 4 _ rfl
  · exact hc 5 _ rfl
  · exact hc 6 _ rfl
set_option maxHeartbeats 8000000 in
theorem now_own {B g : Nat} {v1 v2 v3 : Value} {c : Cu} {w : World} (hw : CurW B g v1 v2 v3 c w) (i : Nat) (hn : c.ns.length = i + 1) (hi63 : i < 4611686018427387904) :
    Calls Try.prog 41 #[.pointer (some ⟨g, 0, none⟩)] w fun e w' => ∃ A4 c4 A6 c6, e = .returned (nodeV (rd_T26 c.ns (i : Int)) A4 c4 A6 c6) ∧ k76.R 76 w' B (fun k => (k ≠ g ∧ some k ≠ v2.ownBlock ∧ some k ≠ v3.ownBlock) ∧ some k ≠ v1.ownBlock) (.slice A4 (rd_T26 c.ns (i : Int)).f4.length c4) (rd_T26 c.ns (i : Int)).f4 ∧ k26.R 26 w' B (fun k => (k ≠ g ∧ some k ≠ v2.ownBlock ∧ some k ≠ v3.ownBlock) ∧ some k ≠ v1.ownBlock) (.slice A6 (rd_T26 c.ns (i : Int)).f6.length c6) (rd_T26 c.ns (i : Int)).f6 ∧ Below w.heap.size w w' := by
  have hu26 := Try.underlying26
  obtain ⟨A, cp, cq, e1, _, hC⟩ := hw.r1
  subst e1
  obtain ⟨w1, hw1⟩ : ∃ w1, (w.alloc (Obj.cells #[.int .i64 0, .int .i64 0, .int .i64 0, .int .i64 0, .slice none 0 0, .string ⟨#[]⟩, .slice none 0 0] 26)) = w1 := ⟨_, rfl⟩
  have hB1 : Below w.heap.size w w1 := hw1 ▸ below_alloc (Below.refl _ _) _
  have hk1 : w1.heap[w.heap.size]? = some (.cells #[.int .i64 0, .int .i64 0, .int .i64 0, .int .i64 0, .slice none 0 0, .string ⟨#[]⟩, .slice none 0 0] 26 (0, 0)) := hw1 ▸ blk_new _ _
  have y0 : w1.cell? ⟨g, 0, none⟩ = some (.slice A c.ns.length cp) := (blk_cell (blk_below hw.hb hB1) 0).trans rfl
  obtain ⟨ad, A4, c4, A6, c6, hA, q0, q1, q2, q3, q4, q5, q6, g4, g6⟩ := at_R26 hC (i : Int) (by omega) (by omega)
  have bc := fun {a : Addr} {v : Value} (hx : w.cell? a = some v) => (hB1.cell (World.block_lt_of_cell? w _ hx)).trans hx
  replace q0 := bc q0
  replace q1 := bc q1
  replace q2 := bc q2
  replace q3 := bc q3
  replace q4 := bc q4
  replace q5 := bc q5
  replace q6 := bc q6
  clear bc
  subst hA
  generalize hkk : rd_T26 c.ns (i : Int) = n at *
  simp only [Int.toNat_natCast] at q0 q1 q2 q3 q4 q5 q6
  have hn' := hn
  rw [hn'] at y0
  have b0 : w1.cell? ⟨w.heap.size, 0, none⟩ = some (.int .i64 0) := (blk_cell hk1 0).trans rfl
  have f0 := blk_frozen hk1 0
  have b1 : w1.cell? ⟨w.heap.size, 1, none⟩ = some (.int .i64 0) := (blk_cell hk1 1).trans rfl
  have f1 := blk_frozen hk1 1
  have b2 : w1.cell? ⟨w.heap.size, 2, none⟩ = some (.int .i64 0) := (blk_cell hk1 2).trans rfl
  have f2 := blk_frozen hk1 2
  have b3 : w1.cell? ⟨w.heap.size, 3, none⟩ = some (.int .i64 0) := (blk_cell hk1 3).trans rfl
  have f3 := blk_frozen hk1 3
  have b4 : w1.cell? ⟨w.heap.size, 4, none⟩ = some (.slice none 0 0) := (blk_cell hk1 4).trans rfl
  have f4 := blk_frozen hk1 4
  have b5 : w1.cell? ⟨w.heap.size, 5, none⟩ = some (.string ⟨#[]⟩) := (blk_cell hk1 5).trans rfl
  have f5 := blk_frozen hk1 5
  have b6 : w1.cell? ⟨w.heap.size, 6, none⟩ = some (.slice none 0 0) := (blk_cell hk1 6).trans rfl
  have f6 := blk_frozen hk1 6
  have hwr : IntKind.i64.wrap (((i + 1 : Nat) : Int) - 1) = (i : Int) := by rw [IntKind.wrap_i64]; omega
  have i0 : 0 ≤ (i : Int) := by omega
  have i1 : (i : Int) < ((i + 1 : Nat) : Int) := by omega
  have hk1' := Aside0.mk hk1
  have hB1 := Aside0.mk hB1
  have hg4 := Aside0.mk g4
  have hg6 := Aside0.mk g6
  clear g4 g6 hk1 hC
  go_enter Try.func41, Try.ntmps41
  go_wp2
  go_region
  go_wp2
  have hk2 := blk_drew (blk_put (blk_put (blk_put (blk_put (blk_put (blk_put (blk_put hk1'.out 0 (.int .i64 n.f0) rfl) 1 (.int .i64 n.f1) rfl) 2 (.int .i64 n.f2) rfl) 3 (.int .i64 n.f3) rfl) 4 (.slice A4 n.f4.length c4) rfl) 5 (.string n.f5) rfl) 6 (.slice A6 n.f6.length c6) rfl)
  have hg := Nat.le_refl w.heap.size
  have hBe := below_drew1 (below_set (g := w.heap.size) (j := 6) (v := .slice A6 n.f6.length c6) (below_set (g := w.heap.size) (j := 5) (v := .string n.f5) (below_set (g := w.heap.size) (j := 4) (v := .slice A4 n.f4.length c4) (below_set (g := w.heap.size) (j := 3) (v := .int .i64 n.f3) (below_set (g := w.heap.size) (j := 2) (v := .int .i64 n.f2) (below_set (g := w.heap.size) (j := 1) (v := .int .i64 n.f1) (below_set (g := w.heap.size) (j := 0) (v := .int .i64 n.f0) hB1.out hg) hg) hg) hg) hg) hg) hg)
  refine bodyPost_ret (results_single rfl (.cell w.heap.size 26 _ (0, 0) _ rfl hk2 Try.underlying26 rfl (by kernel_rfl) .nil)) rfl ⟨A4, c4, A6, c6, rfl, (Kd.R_mono (Kd.R_below hg4.out hBe) (fun k hk => ⟨hk.1, nown hk.2⟩)), (Kd.R_mono (Kd.R_below hg6.out hBe) (fun k hk => ⟨hk.1, nown hk.2⟩)), hBe⟩
theorem now_calls {B g : Nat} {v1 v2 v3 : Value} {c : Cu} {w : World} (hw : CurW B g v1 v2 v3 c w) (i : Nat) (hn : c.ns.length = i + 1) (hi63 : i < 4611686018427387904) :
    Calls Try.prog 41 #[.pointer (some ⟨g, 0, none⟩)] w fun e w' => ∃ A4 c4 A6 c6, e = .returned (nodeV (rd_T26 c.ns (i : Int)) A4 c4 A6 c6) ∧ (rd_T26 c.ns (i : Int)).f4.length ≤ c4 ∧ Kd.C k76 w' A4 (rd_T26 c.ns (i : Int)).f4.length (rd_T26 c.ns (i : Int)).f4 ∧ (rd_T26 c.ns (i : Int)).f6.length ≤ c6 ∧ Kd.C k26 w' A6 (rd_T26 c.ns (i : Int)).f6.length (rd_T26 c.ns (i : Int)).f6 ∧ Below w.heap.size w w' := by
  refine (now_own hw i hn hi63).mono ?_
  rintro e w' ⟨A4, c4, A6, c6, rfl, r4, r6, hb⟩
  obtain ⟨_, l4, g4⟩ := Kd.R_reads' r4
  obtain ⟨_, l6, g6⟩ := Kd.R_reads' r6
  exact ⟨A4, c4, A6, c6, rfl, l4, g4, l6, g6, hb⟩
set_option maxHeartbeats 8000000 in
theorem path_calls {B g : Nat} {v1 v2 v3 : Value} {c : Cu} {w : World} (hw : CurW B g v1 v2 v3 c w) (hlen : c.ps.length < 4398046511104) :
    Calls Try.prog 13 #[.pointer (some ⟨g, 0, none⟩)] w fun e w' => ∃ v, e = .returned v ∧ Kd.R (Kd.int .i64) 3 w' w.heap.size (fun _ => True) v c.ps ∧ Below w.heap.size w w' := by
  obtain ⟨A, cp, e1, hcp, hC⟩ := hw.r2.reads
  subst e1
  have hB0 := Below.refl w.heap.size w
  have y0 : w.cell? ⟨g, 1, none⟩ = some (.slice A c.ps.length cp) := (blk_cell hw.hb 1).trans rfl
  replace hC := Aside0.mk hC
  replace hB0 := Aside0.mk hB0
  go_enter Try.func13, Try.ntmps13
  go_wp2_with ((with_reducible refine gate_builtin (b := .append) (xs := #[.const (.slice none 0 0), .tmp 9]) rfl ?_); at_builtin; refine Kd.R_append_rows (Kd.int .i64) (w0 := w) w.heap.size rfl (.const (.slice none 0 0)) (.tmp 9) 32 3 (.int .i64 0) 8 rfl Try.underlying32 info3 rfl (by decide) (by omega) (.slice none 0 0) ([] : List Int) c.ps _ _ _ (fun _ => True) (fun _ => False) rfl rfl ?aO ?aR (fun _ _ h => h) (fun _ h => h.elim) ?aF ?aB ?aS ?aL ?_; (case aR => exact hC.out); (case aB => exact hB0.out); (case aF => exact (fun _ _ => trivial)); (case aO => exact Kd.R_nil _ _ _ _ _); (case aS => exact Nat.le_refl _); (case aL => simp only [List.length_nil]; omega); intro v4 w1 ho hb hg hat; rw [List.nil_append] at ho; have HO := Aside0.mk ho; have HB := Aside0.mk hb; clear ho hb hg hat)
  go_ret
  exact ⟨_, rfl, HO.out, HB.out⟩
set_option maxHeartbeats 8000000 in
theorem at_calls {B g : Nat} {v1 v2 v3 : Value} {c : Cu} {w : World} (hw : CurW B g v1 v2 v3 c w) (i : Nat) (hn : c.hs.length = i + 1) (hi63 : i < 4611686018427387904) :
    Calls Try.prog 14 #[.pointer (some ⟨g, 0, none⟩)] w fun e w' => e = .returned (.int .i64 (rd c.hs (i : Int))) ∧ Below w.heap.size w w' := by
  obtain ⟨A, cp, e1, hcp, hC⟩ := hw.r3.reads
  subst e1
  have y0 : w.cell? ⟨g, 2, none⟩ = some (.slice A c.hs.length cp) := (blk_cell hw.hb 2).trans rfl
  obtain ⟨ad, hA, q0⟩ := Kd.at_int hC (i : Int) (by omega) (by omega)
  subst hA
  simp only [Int.toNat_natCast] at q0
  have hn' := hn
  rw [hn'] at y0
  have hwr : IntKind.i64.wrap (((i + 1 : Nat) : Int) - 1) = (i : Int) := by rw [IntKind.wrap_i64]; omega
  have i0 : 0 ≤ (i : Int) := by omega
  have i1 : (i : Int) < ((i + 1 : Nat) : Int) := by omega
  replace hC := Aside0.mk hC
  go_enter Try.func14, Try.ntmps14
  go_wp2
  go_quiet (fail)
  go_wp2
  go_ret
  exact ⟨rfl, pw_below_drewN (Below.refl _ _) _⟩
set_option maxHeartbeats 8000000 in
theorem node_calls {B g : Nat} {v1 v2 v3 : Value} {c : Cu} {w : World} (hw : CurW B g v1 v2 v3 c w) (fu i : Nat) (hn : c.ns.length = i + 1) (hi63 : i < 4611686018427387904) (hcl : cloneB fu (rd_T26 c.ns (i : Int)) = true) :
    Calls Try.prog 17 #[.pointer (some ⟨g, 0, none⟩)] w (ClonePost (rd_T26 c.ns (i : Int)) w) := by
  have hu26 := Try.underlying26
  obtain ⟨w1, hw1⟩ : ∃ w1, (w.alloc (Obj.cells #[.int .i64 0, .int .i64 0, .int .i64 0, .int .i64 0, .slice none 0 0, .string ⟨#[]⟩, .slice none 0 0] 26)) = w1 := ⟨_, rfl⟩
  have hB1 : Below w.heap.size w w1 := hw1 ▸ below_alloc (Below.refl _ _) _
  have hk1 : w1.heap[w.heap.size]? = some (.cells #[.int .i64 0, .int .i64 0, .int .i64 0, .int .i64 0, .slice none 0 0, .string ⟨#[]⟩, .slice none 0 0] 26 (0, 0)) := hw1 ▸ blk_new _ _
  have hnow := now_calls (hw.below hB1) i hn hi63
  generalize hnn : rd_T26 c.ns (i : Int) = n at *
  have hz1 : w.heap.size < w1.heap.size := blk_lt hk1
  replace hk1 := Aside0.mk hk1
  replace hB1 := Aside0.mk hB1
  replace hnow := Aside0.mk hnow
  replace hcl := Aside0.mk hcl
  go_enter Try.func17, Try.ntmps17
  go_wp2_with (first | (go_at_call 41; refine hnow.out.mono ?_; rintro e w2 ⟨A4, c4, A6, c6, rfl, l4, g4, l6, g6, hb2⟩; have hcc := clone_calls fu n A4 c4 A6 c6 w2 hcl.out g4 l4 g6 l6; replace hb2 := Aside0.mk hb2; replace hcc := Aside0.mk hcc; clear g4 l4 g6 l6) | (go_at_call 32; refine hcc.out.mono ?_; rintro e w3 ⟨v4, v6, rfl, h4, h6, hb3⟩; obtain ⟨Av, cv, ev⟩ := Kd.R_slice h4; subst ev; obtain ⟨Aw, cw, ew⟩ := Kd.R_slice h6; subst ew; have hk3 := blk_below (blk_below hk1.out hb2.out) hb3; have b0 := (blk_cell hk3 0).trans rfl; have b1 := (blk_cell hk3 1).trans rfl; have b2 := (blk_cell hk3 2).trans rfl; have b3 := (blk_cell hk3 3).trans rfl; have b4 := (blk_cell hk3 4).trans rfl; have b5 := (blk_cell hk3 5).trans rfl; have b6 := (blk_cell hk3 6).trans rfl; have f0 := blk_frozen hk3 0; have f1 := blk_frozen hk3 1; have f2 := blk_frozen hk3 2; have f3 := blk_frozen hk3 3; have f4 := blk_frozen hk3 4; have f5 := blk_frozen hk3 5; have f6 := blk_frozen hk3 6; replace hk3 := Aside0.mk hk3; replace hb3 := Aside0.mk hb3; replace h4 := Aside0.mk h4; replace h6 := Aside0.mk h6))
  have hk4 := (blk_put (blk_put (blk_put (blk_put (blk_put (blk_put (blk_put hk3.out 0 (.int .i64 n.f0) rfl) 1 (.int .i64 n.f1) rfl) 2 (.int .i64 n.f2) rfl) 3 (.int .i64 n.f3) rfl) 4 (.slice Av n.f4.length cv) rfl) 5 (.string n.f5) rfl) 6 (.slice Aw n.f6.length cw) rfl)
  have hc4 := ((((((((((((((Chg.refl (fun k => k = w.heap.size) w3).trans (Chg.set (T := fun k => k = w.heap.size) _ ⟨w.heap.size, 0, none⟩ (.int .i64 n.f0) rfl) (fun _ _ h => h))).trans (Chg.set (T := fun k => k = w.heap.size) _ ⟨w.heap.size, 1, none⟩ (.int .i64 n.f1) rfl) (fun _ _ h => h))).trans (Chg.set (T := fun k => k = w.heap.size) _ ⟨w.heap.size, 2, none⟩ (.int .i64 n.f2) rfl) (fun _ _ h => h))).trans (Chg.set (T := fun k => k = w.heap.size) _ ⟨w.heap.size, 3, none⟩ (.int .i64 n.f3) rfl) (fun _ _ h => h))).trans (Chg.set (T := fun k => k = w.heap.size) _ ⟨w.heap.size, 4, none⟩ (.slice Av n.f4.length cv) rfl) (fun _ _ h => h))).trans (Chg.set (T := fun k => k = w.heap.size) _ ⟨w.heap.size, 5, none⟩ (.string n.f5) rfl) (fun _ _ h => h))).trans (Chg.set (T := fun k => k = w.heap.size) _ ⟨w.heap.size, 6, none⟩ (.slice Aw n.f6.length cw) rfl) (fun _ _ h => h))
  have hB3 := below_step (below_step hB1.out hb2.out) hb3.out
  have hw2 : w.heap.size < w2.heap.size := Nat.lt_of_lt_of_le hz1 hb2.out.size
  have hw2' : w.heap.size ≤ w2.heap.size := by omega
  refine bodyPost_ret (results_single rfl (.cell w.heap.size 26 _ (0, 0) _ rfl hk4 Try.underlying26 rfl (by kernel_rfl) .nil)) rfl ⟨.slice Av n.f4.length cv, .slice Aw n.f6.length cw, rfl, ?_, ?_, ?_⟩
  · exact Kd.R_lower (Kd.R_mono (Kd.R_step (Kd.R_bound h4.out) (fun k hk hlt => hc4.block k hlt (fun e => by have := hk.2.1; omega))) (fun _ _ => trivial)) hw2'
  · exact Kd.R_lower (Kd.R_mono (Kd.R_step (Kd.R_bound h6.out) (fun k hk hlt => hc4.block k hlt (fun e => by have := hk.2.1; omega))) (fun _ h => h.1)) hw2'
  · exact hc4.below_then hB3 hB3.size (fun k hk e => by omega)
end Go.Proofs.Ytfekpmbecoeijaa.Hand
