/- cst.Len: how long a tree's text is. -/
import Derived.Test.YtfekpmbecoeijaaCc
namespace Go.Proofs.Ytfekpmbecoeijaa.Hand
open Go.RowKit Go.Proofs.YtfekpmbecoeijaaW.PrintWords Go.Proofs.YtfekpmbecoeijaaW.PrintLast Go.Proofs.YtfekpmbecoeijaaW.PrintMore Go.Proofs.Ytfekpmbecoeijaa.Q Go.Proofs.Ytfekpmbecoeijaa.RF
attribute [local go_sem] Oper.semAt_some
set_option linter.unusedVariables false
set_option linter.unusedSimpArgs false
set_option maxRecDepth 100000

def sizes (l : List ByteArray) : Nat := (l.map (·.size)).sum
def textLen (n : S26) : Nat := sizes (ownL n)
def lenL (l : List S26) : Nat := (l.map textLen).sum
/-- What cst.Len answers. -/
def lenOf (k : Nat) (n : S26) : Option Int := (preF k n).bind fun l => if (∀ m ∈ l, m.f4.length < 4398046511104) ∧ lenL l < 9223372036854775807 then some (lenL l : Int) else none
theorem lenOf_mono (k : Nat) (n : S26) : LeO (lenOf k n) (lenOf (k + 1) n) := LeO.bind (preF_mono k n) (fun l => LeO.refl _)
theorem lenL_take {l : List S26} {j : Nat} {m : S26} (h : l[j]? = some m) : lenL (l.take (j + 1)) = lenL (l.take j) + textLen m := by
  unfold lenL
  rw [List.take_add_one, h]
  simp
theorem lenL_le {l : List S26} (j : Nat) : lenL (l.take j) ≤ lenL l := by
  have : lenL l = lenL (l.take j) + lenL (l.drop j) := by
    unfold lenL
    conv => lhs; rw [← List.take_append_drop j l]
    rw [List.map_append, List.sum_append]
  omega
theorem sizes_take {l : List ByteArray} {j : Nat} {s : ByteArray} (h : l[j]? = some s) : sizes (l.take (j + 1)) = sizes (l.take j) + s.size := by
  unfold sizes
  rw [List.take_add_one, h]
  simp
theorem sizes_le {l : List ByteArray} (j : Nat) : sizes (l.take j) ≤ sizes l := by
  have : sizes l = sizes (l.take j) + sizes (l.drop j) := by
    unfold sizes
    conv => lhs; rw [← List.take_append_drop j l]
    rw [List.map_append, List.sum_append]
  omega

set_option maxHeartbeats 8000000 in
theorem len_calls (fu : Nat) (n : S26) (A4 : Option Addr) (c4 : Nat) (A6 : Option Addr) (c6 : Nat) (r : Int) (w : World)
    (hr4 : Kd.C k76 w A4 n.f4.length n.f4) (hc4 : n.f4.length ≤ c4) (hr6 : Kd.C k26 w A6 n.f6.length n.f6) (hc6 : n.f6.length ≤ c6) (h : lenOf fu n = some r) :
    Calls Try.prog 29 #[nodeV n A4 c4 A6 c6] w fun e w' => e = .returned (.int .i64 r) ∧ Below w.heap.size w w' := by
  unfold lenOf at h
  obtain ⟨its, hits, h⟩ := Option.bind_eq_some_iff.1 h
  by_cases hlen : (∀ m ∈ its, m.f4.length < 4398046511104) ∧ lenL its < 9223372036854775807
  case neg => rw [if_neg hlen] at h; cases h
  rw [if_pos hlen] at h
  obtain rfl := Option.some.inj h
  clear h
  have hu26 := Try.underlying26
  have hN : NodeF w (fun k => k < w.heap.size) n A4 c4 A6 c6 := ⟨hc4, Kd.C_F k76_heap hr4, hc6, Kd.C_F k26_heap hr6⟩
  have hall := all_gives fu n its hits
  replace hN := Aside0.mk hN
  replace hall := Aside0.mk hall
  replace hits := Aside0.mk hits
  replace hlen := Aside0.mk hlen
  clear hr4 hc4 hr6 hc6
  refine (callsIn_wide (n := 0)).1 (callsIn_of_wp_marks Try.func29 rfl trivial ?_)
  simp only [Try.ntmps29, List.size_toArray, List.length_cons, List.length_nil, Nat.reduceAdd, Nat.reduceSub, Array.replicate_succ, Array.replicate_zero, List.push_toArray, List.append_toArray, List.nil_append, List.cons_append]
  gi_wp2_with (refine ⟨trivial, rfl, ?_⟩; gi_at_call 44; refine CallsIn.mono (callsIn_wide.2 (all_calls n A4 c4 A6 c6 _)) ?_; rintro e w8 ⟨rfl, hb8, hz8, hn8⟩; replace hb8 := Aside0.mk hb8; replace hn8 := Aside0.mk hn8)
  have hn8' := hn8.out
  simp only [World.size_alloc] at hn8' hz8
  generalize hbl : w.heap.size + 1 = bl at *
  have hbox : w8.heap[bl]? = some (.cells #[.int .i64 0] 3 (0, 0)) := blk_below (new_at _ _ (by simp; omega)) hb8.out
  have hB8 : Below w.heap.size w w8 := below_step (below_alloc (below_alloc (Below.refl _ _) _) _) hb8.out
  have hble : w.heap.size ≤ bl := by omega
  have hP8 : PreA (bl + 1) n A4 c4 A6 c6 w8 (Fr (fun k => k = bl) w8) := by
    have hm : ∀ k, k < w.heap.size → k < w.heap.size → w8.heap[k]? = w.heap[k]? := fun k _ b => hB8.block k b
    have hk : ∀ k, k < w.heap.size → k < w.heap.size → Fr (fun k => k = bl) w8 k := fun k a _ => ⟨fun e => by omega, Nat.lt_of_lt_of_le a hB8.size⟩
    exact ⟨hn8', ⟨by omega, blk_lt hn8'⟩, hN.out.go hm hk⟩
  clear hb8 hn8 hn8'
  refine wpIn_wide.2 (RF.range (gf := 49) (lb := #[.pointer (some ⟨bl + 1, 0, none⟩)]) rfl (fun args w => enters_ Try.func49 (by kernel_rfl) rfl args w)
    (hall.out (bl + 1) A4 c4 A6 c6) (Ctr 3 w w8 bl (fun j => .int .i64 (lenL (its.take j) : Int))) (ctr_stable hB8.size) (fun k => k = bl)
    ⟨fun k => Iff.rfl, Nat.le_refl _, fun _ _ _ => rfl, hbox, hble, hB8⟩
    (fun W' ok hb hok => hP8.go (fun x _ b => hb.block x b) (fun x a b => hok x b a.1))
    (fun h ⟨it, a, A4, c4, A6, c6, e, b⟩ => ⟨it, a, A4, c4, A6, c6, e, b.go (fun _ _ _ => rfl) (fun k a _ => h k a)⟩) ?body ?done)
  case done =>
    intro D S1 w9 hI hSD hgeD hD
    have y0 : w9.cell? ⟨bl, 0, none⟩ = some (.int .i64 (lenL its : Int)) := by
      have := (blk_cell hI.hb 0).trans rfl
      rwa [List.take_length] at this
    replace hI := Aside0.mk hI
    replace hD := Aside0.mk hD
    replace hP8 := Aside0.mk hP8
    replace hB8 := Aside0.mk hB8
    gi_wp2
    refine leaves_marks [D] w9 (by simp) (fun E hE => by rw [List.mem_singleton.1 hE]; exact hD.out) fun w' hc => ?_
    refine ⟨_, results_single rfl (.tmp .nil), rfl, ?_⟩
    exact hc.below_then hI.out.bel hI.out.bel.size (fun k hk hm => by rw [List.mem_singleton.1 hm] at hk; have := hB8.out.size; omega)
  case body =>
    rintro l' j S1 w9 v hj hI hl' hge' ⟨rr, hrr⟩ ⟨it, hit, B4, e4, B6, e6, rfl, hvn⟩
    have hlt' : l' < w9.heap.size := blk_lt hrr
    have hbl9 : bl ≠ l' := fun e => hl' ((hI.s l').2 e.symm)
    have hbb : bl < w9.heap.size := blk_lt hI.hb
    obtain ⟨ob, hob⟩ : ∃ ob, ob = Obj.cells #[.int .i64 it.f0, .int .i64 it.f1, .int .i64 it.f2, .int .i64 it.f3, .slice B4 it.f4.length e4, .string it.f5, .slice B6 it.f6.length e6] 26 := ⟨_, rfl⟩
    have hchg : ∀ o, Chg (fun k => w8.heap.size ≤ k ∧ ¬ S1 k) w9 ((w9.alloc ob).putObj l' (.loop o)) := fun o => (Chg.alloc _ _ _).trans (Chg.put _ _ _ ⟨hge', hl'⟩) (fun _ _ h => h)
    have hI10 := fun o => (ctr_stable (T := 3) (bl := bl) (val := fun j => Value.int .i64 (lenL (its.take j) : Int)) hB8.size).step (W' := (w9.alloc ob).putObj l' (.loop o)) hI (hchg o)
    replace hI := Aside0.mk hI
    replace hP8 := Aside0.mk hP8
    replace hB8 := Aside0.mk hB8
    replace hbox := Aside0.mk hbox
    replace hrr := Aside0.mk hrr
    replace hI10 := Aside0.mk hI10
    replace hchg := Aside0.mk hchg
    replace hvn := Aside0.mk hvn
    replace hit := Aside0.mk hit
    simp only [List.setIfInBounds_toArray, List.set_cons_succ, List.set_cons_zero]
    gi_wp2
    refine ⟨Below.heap_alloc _ _ _ hlt', Chg.alloc _ _ _, fun o => ?_⟩
    rw [← hob]
    obtain ⟨w10, hw10⟩ : ∃ w10, (w9.alloc ob).putObj l' (.loop o) = w10 := ⟨_, rfl⟩
    have hne10 : w9.heap.size ≠ l' := by omega
    have hz10 : w10.heap[w9.heap.size]? = some (.cells #[.int .i64 it.f0, .int .i64 it.f1, .int .i64 it.f2, .int .i64 it.f3, .slice B4 it.f4.length e4, .string it.f5, .slice B6 it.f6.length e6] 26 (0, 0)) := by
      rw [← hw10]; exact (World.putObj_heap_other hne10).trans (hob ▸ blk_new _ _)
    have hsz10 : w10.heap.size = w9.heap.size + 1 := by rw [← hw10]; simp
    have hI10' : Ctr 3 w w8 bl (fun j => Value.int .i64 (lenL (its.take j) : Int)) j S1 w10 := hw10 ▸ hI10.out o
    have hc10 : ∀ x, x < w9.heap.size → x ≠ l' → w10.heap[x]? = w9.heap[x]? := fun x h1 h2 => by
      rw [← hw10]; exact (World.putObj_heap_other h2).trans (Below.heap_alloc _ _ _ h1)
    have hvn10 := hvn.out.go (W' := w10) (ok' := fun _ => True) (fun x a b => hc10 x b a.2) (fun _ _ _ => trivial)
    rw [hw10]
    have hm : it ∈ its := List.mem_of_getElem? hit.out
    have hown := own_calls it B4 e4 B6 e6 w10 (hlen.out.1 it hm) (Kd.F_now hvn10.f4) hvn10.l4
    have z0 : w10.cell? ⟨w9.heap.size, 0, none⟩ = some (.int .i64 it.f0) := (blk_cell hz10 0).trans rfl
    have z1 : w10.cell? ⟨w9.heap.size, 1, none⟩ = some (.int .i64 it.f1) := (blk_cell hz10 1).trans rfl
    have z2 : w10.cell? ⟨w9.heap.size, 2, none⟩ = some (.int .i64 it.f2) := (blk_cell hz10 2).trans rfl
    have z3 : w10.cell? ⟨w9.heap.size, 3, none⟩ = some (.int .i64 it.f3) := (blk_cell hz10 3).trans rfl
    have z4 : w10.cell? ⟨w9.heap.size, 4, none⟩ = some (.slice B4 it.f4.length e4) := (blk_cell hz10 4).trans rfl
    have z5 : w10.cell? ⟨w9.heap.size, 5, none⟩ = some (.string it.f5) := (blk_cell hz10 5).trans rfl
    have z6 : w10.cell? ⟨w9.heap.size, 6, none⟩ = some (.slice B6 it.f6.length e6) := (blk_cell hz10 6).trans rfl
    replace hz10 := Aside0.mk hz10
    replace hI10' := Aside0.mk hI10'
    replace hc10 := Aside0.mk hc10
    replace hown := Aside0.mk hown
    clear hw10 hvn10
    gi_wp2_with (refine ⟨trivial, rfl, ?_⟩; gi_at_call 45; refine CallsIn.mono (CallsIn.inRound l' (callsIn_wide.2 hown.out)) ?_; rintro e w11 ⟨v, rfl, hRv, hb11⟩; obtain ⟨A, c, eA⟩ := Kd.R_slice hRv; subst eA; generalize hL : (ownL it).length = L at hRv; replace hL := Aside0.mk hL; replace hRv := Aside0.mk hRv; replace hb11 := Aside0.mk hb11)
    have hj1 : j < its.length := hj
    have hb10 : bl < w10.heap.size := by omega
    have hacc : lenL (its.take (j + 1)) = lenL (its.take j) + textLen it := lenL_take hit.out
    have htot := lenL_le (l := its) (j + 1)
    have hbnd := hlen.out.2
    gi_loopg [13] L (fun m u13 wr => ∃ x : Nat, u13 = .int .i64 x ∧ m + x = L ∧ Aside0 (wr.heap[bl]? = some (.cells #[.int .i64 ((lenL (its.take j) + sizes ((ownL it).take x) : Nat) : Int)] 3 (0, 0)) ∧ Chg (fun k => k = bl) w11 wr))
    case atStart =>
      refine ⟨0, rfl, by omega, ?_, Chg.refl _ _⟩
      rw [blk_below hI10'.out.hb hb11.out]
      simp [sizes]
    case round =>
      obtain ⟨x, rfl, hmx, hv⟩ := hrel
      by_cases hlt : x < L
      · have hb : decide ((x : Int) < (L : Int)) = true := decide_eq_true (by omega)
        obtain ⟨hvb, hvc⟩ := hv.out
        have hRw := Kd.R_step (Kd.R_bound hRv.out) (w1 := wr) (fun k hk hlt => hvc.block k hlt (fun e => by have := hk.2.1; omega))
        obtain ⟨hLe, hLc, hC⟩ := Kd.R_reads' hRw
        have i0 : 0 ≤ (x : Int) := by omega
        have i1 : (x : Int) < (L : Int) := by omega
        obtain ⟨ad, hA, q0⟩ := Kd.at_string hC (x : Int) i0 (by omega)
        subst hA
        simp only [Int.toNat_natCast] at q0
        have hxs : (ownL it)[x]? = some (rdOf ByteArray.empty (ownL it) (x : Int)) := by
          have hx' : x < (ownL it).length := by omega
          simp [rdOf, List.getElem?_eq_getElem hx', hx']
        generalize hss : rdOf ByteArray.empty (ownL it) (x : Int) = s at q0 hxs
        have hst := sizes_take hxs
        have hsl := sizes_le (l := ownL it) (x + 1)
        have y0 : wr.cell? ⟨bl, 0, none⟩ = some (.int .i64 ((lenL (its.take j) + sizes ((ownL it).take x) : Nat) : Int)) := (blk_cell hvb 0).trans rfl
        have y1 := blk_frozen hvb 0
        have htl : textLen it = sizes (ownL it) := rfl
        generalize hcur : lenL (its.take j) + sizes ((ownL it).take x) = cur at y0 hvb
        have hnx : lenL (its.take j) + sizes ((ownL it).take (x + 1)) = cur + s.size := by omega
        have hw : IntKind.i64.wrap ((cur : Int) + (s.size : Int)) = ((cur + s.size : Nat) : Int) := by rw [IntKind.wrap_i64]; omega
        have hw2 : IntKind.i64.wrap ((x : Int) + 1) = ((x + 1 : Nat) : Int) := by
          have : L ≤ its.length + L := by omega
          rw [IntKind.wrap_i64]
          have := (hlen.out.1 it hm)
          have hLL : L ≤ it.f4.length + 1 := by
            rw [← hL.out]
            unfold ownL
            split
            · simp
            · simp
          omega
        replace hvb := Aside0.mk hvb
        replace hvc := Aside0.mk hvc
        replace hRw := Aside0.mk hRw
        replace hC := Aside0.mk hC
        gi_wp2
        gi_roundg (L - (x + 1))
        case measure => omega
        case rel =>
          refine ⟨x + 1, rfl, by omega, ?_, hvc.out.trans (Chg.set (T := fun k => k = bl) _ _ _ rfl) (fun _ _ h => h)⟩
          rw [hnx]
          exact blk_put hvb.out 0 _ rfl
      · have hb : decide ((x : Int) < (L : Int)) = false := decide_eq_false (by omega)
        obtain rfl : x = L := by omega
        gi_wp2
        have hfin : (ownL it).take x = ownL it := List.take_of_length_le (by rw [hL.out]; exact Nat.le_refl _)
        refine ctr_next hI.out hI10'.out ?_ ((Chg.of_below _ hb11.out).trans hv.out.2 (fun _ _ h => h))
        rw [hv.out.1, hfin, hacc]
        rfl
end Go.Proofs.Ytfekpmbecoeijaa.Hand
