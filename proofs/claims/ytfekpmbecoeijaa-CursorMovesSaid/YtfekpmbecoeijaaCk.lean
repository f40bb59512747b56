import Derived.Test.YtfekpmbecoeijaaCh
import Derived.Sort.CutIn
namespace Go.Proofs.Ytfekpmbecoeijaa.Hand
open Go.RowKit Go.Proofs.YtfekpmbecoeijaaW.PrintWords Go.Proofs.YtfekpmbecoeijaaW.PrintLast Go.Proofs.YtfekpmbecoeijaaW.PrintMore Go.Proofs.Ytfekpmbecoeijaa.Q Go.Proofs.Ytfekpmbecoeijaa.RF
set_option linter.unusedVariables false
set_option linter.unusedSimpArgs false
set_option maxRecDepth 100000
set_option maxHeartbeats 8000000 in
theorem up_none {B g : Nat} {v1 v2 v3 : Value} {c : Cu} {w : World} (hw : CurW B g v1 v2 v3 c w) (hm : c.ps.length = 0) :
    Calls Try.prog 43 #[.pointer (some ⟨g, 0, none⟩)] w fun e w' => e = .returned (.tuple #[.int .i64 0, .bool false]) ∧ w' = w := by
  obtain ⟨A2, c2, e2, h2, C2⟩ := hw.r2.reads
  subst e2
  rw [hm] at hw
  have y1 : w.cell? ⟨g, 1, none⟩ = some (.slice A2 0 c2) := (blk_cell hw.hb 1).trans rfl
  have hwr : IntKind.i64.wrap ((0 : Int) - 1) = -1 := by rw [IntKind.wrap_i64]; omega
  go_enter Try.func43, Try.ntmps43
  go_wp2
  exact bodyPost_ret (results_tmp2 rfl _ _ _) rfl ⟨rfl, rfl⟩
set_option maxHeartbeats 8000000 in
theorem up_calls {B g : Nat} {v1 v2 v3 : Value} {c : Cu} {w : World} (hw : CurW B g v1 v2 v3 c w) (m : Nat) (hm : c.ps.length = m + 1) (hn : c.ns.length = m + 2) (hh : c.hs.length = m + 2) (hm63 : m < 4611686018427387904) :
    Calls Try.prog 43 #[.pointer (some ⟨g, 0, none⟩)] w fun e w' => e = .returned (.tuple #[.int .i64 (rd c.ps (m : Int)), .bool true]) ∧
      ∃ A1 A2 A3 c1 c2 c3, v1 = .slice A1 (m + 2) c1 ∧ v2 = .slice A2 (m + 1) c2 ∧ v3 = .slice A3 (m + 2) c3 ∧ Chg (fun k => k = g) w w' ∧ CurW B g (.slice A1 (m + 1) (m + 1)) (.slice A2 m m) (.slice A3 (m + 1) (m + 1)) ⟨c.ns.take (m + 1), c.ps.take m, c.hs.take (m + 1)⟩ w' := by
  obtain ⟨A1, c1, e1, h1, C1⟩ := hw.r1.reads
  obtain ⟨A2, c2, e2, h2, C2⟩ := hw.r2.reads
  obtain ⟨A3, c3, e3, h3, C3⟩ := hw.r3.reads
  subst e1 e2 e3
  obtain ⟨ad, hA, q0⟩ := Kd.at_int C2 (m : Int) (by omega) (by omega)
  subst hA
  simp only [Int.toNat_natCast] at q0
  obtain ⟨A1', _, k1, K1⟩ := hw.r1.cut (m := m + 1) (by omega)
  obtain ⟨A2', _, k2, K2⟩ := hw.r2.cut (m := m) (by omega)
  obtain ⟨A3', _, k3, K3⟩ := hw.r3.cut (m := m + 1) (by omega)
  obtain rfl : A1 = A1' := by injection k1
  obtain rfl : some ad = A2' := by injection k2
  obtain rfl : A3 = A3' := by injection k3
  clear k1 k2 k3
  rw [hn] at h1
  rw [hm] at h2
  rw [hh] at h3
  have hb := hw.hb
  rw [hn, hm, hh] at hb
  have y0 : w.cell? ⟨g, 0, none⟩ = some (.slice A1 (m + 2) c1) := (blk_cell hb 0).trans rfl
  have y1 : w.cell? ⟨g, 1, none⟩ = some (.slice (some ad) (m + 1) c2) := (blk_cell hb 1).trans rfl
  have y2 : w.cell? ⟨g, 2, none⟩ = some (.slice A3 (m + 2) c3) := (blk_cell hb 2).trans rfl
  have f0 := blk_frozen hb 0
  have f1 := blk_frozen hb 1
  have f2 := blk_frozen hb 2
  have hwr : IntKind.i64.wrap (((m + 1 : Nat) : Int) - 1) = (m : Int) := by rw [IntKind.wrap_i64]; omega
  have hwp : IntKind.i64.wrap ((m : Int) + 1) = ((m + 1 : Nat) : Int) := by rw [IntKind.wrap_i64]; omega
  have i0 : 0 ≤ (m : Int) := by omega
  have i1 : (m : Int) < ((m + 1 : Nat) : Int) := by omega
  replace hb := Aside0.mk hb
  replace K1 := Aside0.mk K1
  replace K2 := Aside0.mk K2
  replace K3 := Aside0.mk K3
  have hlg := hw.lg
  clear C1 C2 C3 hw
  go_enter Try.func43, Try.ntmps43
  go_wp2
  go_region
  go_wp2
  refine bodyPost_ret (results_tmp2 rfl _ _ _) rfl ⟨rfl, A1, some ad, A3, c1, c2, c3, by rw [hn], by rw [hm], by rw [hh], ?_, ?_⟩
  · exact ((((Chg.refl (fun k => k = g) w).trans (Chg.set (T := fun k => k = g) _ ⟨g, 0, none⟩ (.slice A1 (m + 1) (m + 1)) rfl) (fun _ _ h => h)).trans (Chg.set (T := fun k => k = g) _ ⟨g, 1, none⟩ (.slice (some ad) m m) rfl) (fun _ _ h => h)).trans (Chg.set (T := fun k => k = g) _ ⟨g, 2, none⟩ (.slice A3 (m + 1) (m + 1)) rfl) (fun _ _ h => h)).trans (Chg.of_below _ (below_drew1 (Below.refl _ _))) (fun _ _ h => h)
  · have hc := ((((Chg.refl (fun k => k = g) w).trans (Chg.set (T := fun k => k = g) _ ⟨g, 0, none⟩ (.slice A1 (m + 1) (m + 1)) rfl) (fun _ _ h => h)).trans (Chg.set (T := fun k => k = g) _ ⟨g, 1, none⟩ (.slice (some ad) m m) rfl) (fun _ _ h => h)).trans (Chg.set (T := fun k => k = g) _ ⟨g, 2, none⟩ (.slice A3 (m + 1) (m + 1)) rfl) (fun _ _ h => h)).trans (Chg.of_below _ (below_drew1 (Below.refl _ _))) (fun _ _ h => h)
    have st := fun {k : Nat} (h : k ≠ g) (hk : k < w.heap.size) => hc.block k hk h
    exact ⟨blk_drew (blk_put (blk_put (blk_put hb.out 0 _ rfl) 1 _ rfl) 2 _ rfl), hlg, (K1.out.step (fun k hk hlt => st hk.1 hlt)).mono (fun k hk => ⟨hk.1, nown hk.2.1, nown hk.2.2⟩), (K2.out.step (fun k hk hlt => st hk.1 hlt)).mono (fun k hk => ⟨hk.1, nown hk.2.1, nown hk.2.2⟩), (K3.out.step (fun k hk hlt => st hk.1 hlt)).mono (fun k hk => ⟨hk.1, nown hk.2.1, nown hk.2.2⟩)⟩
end Go.Proofs.Ytfekpmbecoeijaa.Hand
namespace Go.Proofs.Ytfekpmbecoeijaa.Hand
open Go.RowKit Go.Proofs.YtfekpmbecoeijaaW.PrintWords Go.Proofs.YtfekpmbecoeijaaW.PrintLast Go.Proofs.YtfekpmbecoeijaaW.PrintMore Go.Proofs.Ytfekpmbecoeijaa.Q Go.Proofs.Ytfekpmbecoeijaa.RF
set_option linter.unusedVariables false
set_option linter.unusedSimpArgs false
set_option maxRecDepth 100000
set_option maxHeartbeats 8000000 in
theorem down_none {B g : Nat} {v1 v2 v3 : Value} {c : Cu} {w : World} (hw : CurW B g v1 v2 v3 c w) (m : Nat) (hn : c.ns.length = m + 1) (hm63 : m < 4611686018427387904) (i : Int) (hi : i < 0 ∨ ((rd_T26 c.ns (m : Int)).f6.length : Int) ≤ i) :
    Calls Try.prog 42 #[.pointer (some ⟨g, 0, none⟩), .int .i64 i] w fun e w' => e = .returned (.bool false) ∧ Below w.heap.size w w' := by
  have hu26 := Try.underlying26
  have hnow := now_calls hw m hn hm63
  generalize hnn : rd_T26 c.ns (m : Int) = n at *
  replace hnow := Aside0.mk hnow
  replace hi := Aside0.mk hi
  clear hw
  go_enter Try.func42, Try.ntmps42
  by_cases h0 : i < 0
  · have hb := decide_eq_true h0
    go_wp2_with (go_at_call 41; refine hnow.out.mono ?_; rintro e w2 ⟨A4, c4, A6, c6, rfl, l4, g4, l6, g6, hb2⟩; replace hb2 := Aside0.mk hb2; clear g4 l4 g6 l6)
    go_ret
    exact ⟨rfl, below_alloc hb2.out _⟩
  · have hb := decide_eq_false h0
    have hb3 : decide (i ≥ (n.f6.length : Int)) = true := decide_eq_true (by rcases hi.out with h | h <;> omega)
    have hb4 : decide ((n.f6.length : Int) ≤ i) = true := decide_eq_true (by rcases hi.out with h | h <;> omega)
    go_wp2_with (go_at_call 41; refine hnow.out.mono ?_; rintro e w2 ⟨A4, c4, A6, c6, rfl, l4, g4, l6, g6, hb2⟩; replace hb2 := Aside0.mk hb2; clear g4 l4 g6 l6)
    go_ret
    exact ⟨rfl, below_alloc hb2.out _⟩
end Go.Proofs.Ytfekpmbecoeijaa.Hand
namespace Go.Proofs.Ytfekpmbecoeijaa.Hand
open Go.RowKit Go.Proofs.YtfekpmbecoeijaaW.PrintWords Go.Proofs.YtfekpmbecoeijaaW.PrintLast Go.Proofs.YtfekpmbecoeijaaW.PrintMore Go.Proofs.Ytfekpmbecoeijaa.Q Go.Proofs.Ytfekpmbecoeijaa.RF
set_option linter.unusedVariables false
set_option linter.unusedSimpArgs false
theorem grown_any {w w' : World} {row : Option Nat} (h : w.grownBy w' none) : w.grownBy w' row := ⟨h.os, h.tape, h.output, h.size, fun k hk _ => h.block k hk (by simp)⟩
theorem grown_trans {w w1 w2 : World} (h : w.grownBy w1 none) (k : w1.grownBy w2 none) : w.grownBy w2 none :=
  ⟨k.os.trans h.os, k.tape.trans h.tape, k.output.trans h.output, Nat.le_trans h.size k.size, fun i hi _ => (k.block i (Nat.lt_of_lt_of_le hi h.size) (by simp)).trans (h.block i hi (by simp))⟩
theorem own_holds {w : World} {base e size n c : Nat} {A : Option Addr} {xs : List Value} (h : w.ownsRow base e size (.slice A n c) n xs) : (A = none → n = 0 ∧ c = 0) ∧ ∀ b, A = some b → ∀ j u, xs[j]? = some u → w.cell? (b.add j) = some u := by
  obtain ⟨hl, h⟩ := h
  rcases h with ⟨he, h0⟩ | ⟨g, cap, cur, he, hb, hh, hnc, hcm, hcs, ht⟩
  · injection he with ha hn hc
    subst ha; subst hc
    exact ⟨fun _ => ⟨h0, rfl⟩, fun b hb => by cases hb⟩
  · injection he with ha hn hc
    subst ha; subst hc
    constructor
    · intro e; cases e
    intro b hb' j u hu
    obtain rfl := Option.some.inj hb'
    rw [add_plain, blk_cell hh]
    rw [← ht] at hu
    have := List.getElem?_take (l := cur.toList) (i := n * size) (j := j)
    rw [this] at hu
    split at hu
    · simpa using hu
    · cases hu
section
variable {P : Program} {ops : Array Oper} {o : Oper} {a : Act} {Q : Exit → Act → World → Prop} {Kc : Act → World → Prop} {α : Type}
theorem Row.append_step (d : Kd α) {w0 W : World} (base : Nat) (hgd : o.guard = none) (s x : Operand) (t e : TypeId) (z : Value) (bytes : Nat)
    (ho : o.op = .call { callee := .builtin .append, args := #[s, x], argTypes := #[t, t] })
    (ht : P.underlying t = some (.slice e)) (hinfo : (P.info? e).map (fun i => (i.zero, i.size, i.bytes)) = some (some z, d.sz, bytes)) (hz : z.cells.size = d.sz) (hs0 : 0 < d.sz) (hb0 : 0 < bytes)
    (v : Value) (xs : List α) (p : α) (cs : List Value) (ok okp : Nat → Prop) (hs : a.eval s = v) (hx : a.eval x = .slice (some ⟨W.heap.size, 0, none⟩) 1 1) (hp : d.M W base okp p cs) (hokp : ∀ k, okp k → ok k ∧ some k ≠ v.ownBlock) (hfresh : ∀ k, W.heap.size ≤ k → ok k)
    (HO : Row d e base ok v xs W) (HB : Below base w0 W) (hbase : base ≤ W.heap.size) (hl : (xs.length + 1) * bytes ≤ 140737488355328)
    (h : ∀ v1 w1, d.R e w1 base ok v1 (xs ++ [p]) → Below base w0 w1 → W.grownBy w1 v.ownBlock → (v1.ownBlock = v.ownBlock ∨ ∃ b, v1.ownBlock = some b ∧ W.heap.size ≤ b) → Kc (a.put o.dst v1) w1) :
    if Region.wanted o (yielded ops a.tmps) = true then Oper.wp P o a (W.alloc (.cells cs.toArray e)) Kc Q else Kc (a.put o.dst undef) (W.alloc (.cells cs.toArray e)) := by
  have hw : Region.wanted o (yielded ops a.tmps) = true := by simp [Region.wanted, hgd]
  obtain ⟨A, c, c0, rfl, hc, hR⟩ := HO
  rcases hc with rfl | rfl
  · exact Kd.R_append_step d base hw s x t e z bytes ho ht hinfo hz hs0 hb0 _ xs p cs ok okp hs hx hp hokp hfresh hR HB hbase hl h
  · obtain ⟨hok0, inner, hown, hr⟩ := hR
    obtain ⟨i0, hi, hzz⟩ := Option.map_eq_some_iff.1 hinfo
    simp only [Prod.mk.injEq] at hzz
    obtain ⟨hz0, hz1, hz2⟩ := hzz
    have hcl := d.K_len (d.K_of_M hp)
    obtain ⟨hn1, hn2⟩ := own_holds (hown.alloc (.cells cs.toArray e))
    have hx1 : xs.length + 1 ≤ 140737488355328 := Nat.le_trans (Nat.le_mul_of_pos_right _ hb0) hl
    refine step_append_full (W.alloc (.cells cs.toArray e)) hgd s x t ho e i0 z d.sz bytes ht hi hz0 hz1 hz2 hz hs0 A xs.length xs.length inner hs (fun e => ⟨(hn1 e).1, (hn1 e).1⟩) hown.1 hn2 ⟨W.heap.size, 0, none⟩ 1 1 cs hx (by rw [hcl, Nat.one_mul]) (fun j u hu => ?_) (d.K_one (d.K_of_M hp)) (by decide) (by omega) (by simp only [maxLen]; omega) hl ?_
    · rw [add_plain, blk_cell (blk_new W (.cells cs.toArray e))]
      simpa using hu
    · intro g c' w1 hown1 hg1 hge hlt
      have hg2 : W.grownBy w1 none := grown_trans (World.grownBy_alloc W _ none) hg1
      have hsz : (W.alloc (.cells cs.toArray e)).heap.size = W.heap.size + 1 := World.size_alloc _ _
      have ho1 : (Value.slice A xs.length xs.length).ownBlock = (Value.slice A xs.length c0).ownBlock := by cases A <;> rfl
      refine h _ w1 (Kd.R_appended (v := .slice A xs.length c0) hok0 hr hp (fun k hk => by rw [← ho1]; exact hokp k hk) hfresh (own_weaken hown1 (by omega)) (grown_any hg2) (.inr ⟨g, rfl, by omega⟩)) ?_ (grown_any hg2) (.inr ⟨g, rfl, by omega⟩)
      exact pw_below_grown HB _ hbase hg2 (fun k e => by cases e)
end
end Go.Proofs.Ytfekpmbecoeijaa.Hand
namespace Go.Proofs.Ytfekpmbecoeijaa.Hand
open Go.RowKit Go.Proofs.YtfekpmbecoeijaaW.PrintWords Go.Proofs.YtfekpmbecoeijaaW.PrintLast Go.Proofs.YtfekpmbecoeijaaW.PrintMore Go.Proofs.Ytfekpmbecoeijaa.Q Go.Proofs.Ytfekpmbecoeijaa.RF
set_option linter.unusedVariables false
set_option linter.unusedSimpArgs false
section
variable {P : Program} {ops : Array Oper} {Q : Exit → Act → World → Prop} {a : Act} {w : World} {rest : List Oper} {o : Oper} {α : Type}
theorem Row.append (d : Kd α) {w0 W : World} (base : Nat) (hgd : o.guard = none) (s x : Operand) (t e : TypeId) (z : Value) (bytes : Nat)
    (ho : o.op = .call { callee := .builtin .append, args := #[s, x], argTypes := #[t, t] })
    (ht : P.underlying t = some (.slice e)) (hinfo : (P.info? e).map (fun i => (i.zero, i.size, i.bytes)) = some (some z, d.sz, bytes)) (hz : z.cells.size = d.sz) (hs0 : 0 < d.sz) (hb0 : 0 < bytes)
    (v : Value) (xs : List α) (p : α) (cs : List Value) (ok okp : Nat → Prop) (hs : a.eval s = v) (hx : a.eval x = .slice (some ⟨W.heap.size, 0, none⟩) 1 1) (hp : d.M W base okp p cs) (hokp : ∀ k, okp k → ok k ∧ some k ≠ v.ownBlock) (hfresh : ∀ k, W.heap.size ≤ k → ok k)
    (HO : Row d e base ok v xs W) (HB : Below base w0 W) (hbase : base ≤ W.heap.size) (hl : (xs.length + 1) * bytes ≤ 140737488355328)
    (h : ∀ v1 w1, d.R e w1 base ok v1 (xs ++ [p]) → Below base w0 w1 → W.grownBy w1 v.ownBlock → (v1.ownBlock = v.ownBlock ∨ ∃ b, v1.ownBlock = some b ∧ W.heap.size ≤ b) → wpList P ops Q rest (a.put o.dst v1) w1) :
    wpList P ops Q (o :: rest) a (W.alloc (.cells cs.toArray e)) :=
  wpList_step fun K hK => Row.append_step (w0 := w0) d base hgd s x t e z bytes ho ht hinfo hz hs0 hb0 v xs p cs ok okp hs hx hp hokp hfresh HO HB hbase hl fun v1 w1 h1 h2 h3 h4 => hK _ _ (h v1 w1 h1 h2 h3 h4)
end
section
variable {α : Type} {d : Kd α} {e B : Nat} {W W' : World} {ok ok' : Nat → Prop} {v : Value} {xs : List α}
theorem Row.bound (h : Row d e B ok v xs W) : Row d e B (fun k => ok k ∧ B ≤ k ∧ k < W.heap.size) v xs W := by
  obtain ⟨A, c, c0, rfl, hc, hR⟩ := h
  exact ⟨A, c, c0, rfl, hc, Kd.R_mono (Kd.R_bound hR) (fun k hk => ⟨hk.1, hk.2.1, hk.2.2.1⟩)⟩
end
def New (W : World) (u v : Value) : Prop := u.ownBlock = v.ownBlock ∨ ∃ b, u.ownBlock = some b ∧ W.heap.size ≤ b
theorem New.ne {W : World} {u v : Value} (h : New W u v) {k : Nat} (hk : k < W.heap.size) (hv : some k ≠ v.ownBlock) : some k ≠ u.ownBlock := by
  rcases h with h | ⟨b, h, hb⟩
  · rw [h]; exact hv
  · rw [h]; intro e; injection e with e; omega
section
variable {B g : Nat} {v1 v2 v3 u : Value} {c : Cu} {W W' : World}
theorem CurW.g_lt (h : CurW B g v1 v2 v3 c W) : g < W.heap.size := blk_lt h.hb
theorem CurW.fresh1 (h : CurW B g v1 v2 v3 c W) {k : Nat} (hk : W.heap.size ≤ k) : k ≠ g ∧ some k ≠ v2.ownBlock ∧ some k ≠ v3.ownBlock :=
  ⟨by have := h.g_lt; omega, fun e => by have := (h.r2.own k e.symm).2.2; omega, fun e => by have := (h.r3.own k e.symm).2.2; omega⟩
theorem CurW.fresh2 (h : CurW B g v1 v2 v3 c W) {k : Nat} (hk : W.heap.size ≤ k) : k ≠ g ∧ some k ≠ v1.ownBlock ∧ some k ≠ v3.ownBlock :=
  ⟨by have := h.g_lt; omega, fun e => by have := (h.r1.own k e.symm).2.2; omega, fun e => by have := (h.r3.own k e.symm).2.2; omega⟩
theorem CurW.fresh3 (h : CurW B g v1 v2 v3 c W) {k : Nat} (hk : W.heap.size ≤ k) : k ≠ g ∧ some k ≠ v1.ownBlock ∧ some k ≠ v2.ownBlock :=
  ⟨by have := h.g_lt; omega, fun e => by have := (h.r1.own k e.symm).2.2; omega, fun e => by have := (h.r2.own k e.symm).2.2; omega⟩
theorem CurW.put1 (h : CurW B g v1 v2 v3 c W) {ns : List S26} (hb : W'.heap[g]? = some (.cells #[u, v2, v3] 61 (0, 0))) (hc : Chg (fun k => k = g ∨ some k = v1.ownBlock) W W')
    (hR : k26.R 26 W' B (fun k => k ≠ g ∧ some k ≠ v2.ownBlock ∧ some k ≠ v3.ownBlock) u ns) (hu : New W u v1) : CurW B g u v2 v3 ⟨ns, c.ps, c.hs⟩ W' := by
  have st := fun {k : Nat} (h1 : k ≠ g) (h2 : some k ≠ v1.ownBlock) (hk : k < W.heap.size) => hc.block k hk (fun h => h.elim h1 h2)
  exact ⟨hb, h.lg, .of hR, (h.r2.bound.step (fun k hk hlt => st hk.1.1 hk.1.2.1 hlt)).mono (fun k hk => ⟨hk.1.1, hu.ne hk.2.2 hk.1.2.1, hk.1.2.2⟩), (h.r3.bound.step (fun k hk hlt => st hk.1.1 hk.1.2.1 hlt)).mono (fun k hk => ⟨hk.1.1, hu.ne hk.2.2 hk.1.2.1, hk.1.2.2⟩)⟩
theorem CurW.put2 (h : CurW B g v1 v2 v3 c W) {ps : List Int} (hb : W'.heap[g]? = some (.cells #[v1, u, v3] 61 (0, 0))) (hc : Chg (fun k => k = g ∨ some k = v2.ownBlock) W W')
    (hR : (Kd.int .i64).R 3 W' B (fun k => k ≠ g ∧ some k ≠ v1.ownBlock ∧ some k ≠ v3.ownBlock) u ps) (hu : New W u v2) : CurW B g v1 u v3 ⟨c.ns, ps, c.hs⟩ W' := by
  have st := fun {k : Nat} (h1 : k ≠ g) (h2 : some k ≠ v2.ownBlock) (hk : k < W.heap.size) => hc.block k hk (fun h => h.elim h1 h2)
  exact ⟨hb, h.lg, (h.r1.bound.step (fun k hk hlt => st hk.1.1 hk.1.2.1 hlt)).mono (fun k hk => ⟨hk.1.1, hu.ne hk.2.2 hk.1.2.1, hk.1.2.2⟩), .of hR, (h.r3.bound.step (fun k hk hlt => st hk.1.1 hk.1.2.2 hlt)).mono (fun k hk => ⟨hk.1.1, hk.1.2.1, hu.ne hk.2.2 hk.1.2.2⟩)⟩
theorem CurW.put3 (h : CurW B g v1 v2 v3 c W) {hs : List Int} (hb : W'.heap[g]? = some (.cells #[v1, v2, u] 61 (0, 0))) (hc : Chg (fun k => k = g ∨ some k = v3.ownBlock) W W')
    (hR : (Kd.int .i64).R 3 W' B (fun k => k ≠ g ∧ some k ≠ v1.ownBlock ∧ some k ≠ v2.ownBlock) u hs) (hu : New W u v3) : CurW B g v1 v2 u ⟨c.ns, c.ps, hs⟩ W' := by
  have st := fun {k : Nat} (h1 : k ≠ g) (h2 : some k ≠ v3.ownBlock) (hk : k < W.heap.size) => hc.block k hk (fun h => h.elim h1 h2)
  exact ⟨hb, h.lg, (h.r1.bound.step (fun k hk hlt => st hk.1.1 hk.1.2.2 hlt)).mono (fun k hk => ⟨hk.1.1, hk.1.2.1, hu.ne hk.2.2 hk.1.2.2⟩), (h.r2.bound.step (fun k hk hlt => st hk.1.1 hk.1.2.2 hlt)).mono (fun k hk => ⟨hk.1.1, hk.1.2.1, hu.ne hk.2.2 hk.1.2.2⟩), .of hR⟩
theorem chg_grown {T : Nat → Prop} {row : Option Nat} (h : W.grownBy W' row) (hT : ∀ k, row = some k → T k) : Chg T W W' := ⟨h.os, h.tape, h.output, h.size, fun k hk hn => h.block k hk (fun e => hn (hT k e.symm))⟩
end
def Moved (B g : Nat) (v1 v2 v3 : Value) (w : World) (c : Cu) (w' : World) : Prop :=
  ∃ u1 u2 u3, Chg (Mine g v1 v2 v3) w w' ∧ CurW B g u1 u2 u3 c w' ∧ ∀ k, Mine g u1 u2 u3 k → Mine g v1 v2 v3 k ∨ w.heap.size ≤ k
theorem Mine.new {g : Nat} {v1 v2 v3 u1 u2 u3 : Value} {w w1 w2 w3 : World} (h1 : New w1 u1 v1) (h2 : New w2 u2 v2) (h3 : New w3 u3 v3) (l1 : w.heap.size ≤ w1.heap.size) (l2 : w.heap.size ≤ w2.heap.size) (l3 : w.heap.size ≤ w3.heap.size) :
    ∀ k, Mine g u1 u2 u3 k → Mine g v1 v2 v3 k ∨ w.heap.size ≤ k := by
  have go : ∀ {W : World} {u v : Value} {k : Nat}, New W u v → w.heap.size ≤ W.heap.size → some k = u.ownBlock → some k = v.ownBlock ∨ w.heap.size ≤ k := by
    intro W u v k h l e
    rcases h with h | ⟨b, h, hb⟩
    · exact .inl (e.trans h)
    · rw [h] at e; injection e with e; exact .inr (by omega)
  rintro k (rfl | h | h | h)
  · exact .inl (.inl rfl)
  · exact (go h1 l1 h).imp (fun e => .inr (.inl e)) id
  · exact (go h2 l2 h).imp (fun e => .inr (.inr (.inl e))) id
  · exact (go h3 l3 h).imp (fun e => .inr (.inr (.inr e))) id
theorem Moved.trans {B g : Nat} {v1 v2 v3 u1 u2 u3 : Value} {w w1 w2 : World} {c : Cu} (h1 : Chg (Mine g v1 v2 v3) w w1) (h2 : ∀ k, Mine g u1 u2 u3 k → Mine g v1 v2 v3 k ∨ w.heap.size ≤ k) (h : Moved B g u1 u2 u3 w1 c w2) : Moved B g v1 v2 v3 w c w2 := by
  obtain ⟨t1, t2, t3, h3, h4, h5⟩ := h
  refine ⟨t1, t2, t3, h1.trans h3 (fun k hk h => (h2 k h).elim id (fun hl => by omega)), h4, fun k hk => ?_⟩
  rcases h5 k hk with h | h
  · exact h2 k h
  · exact .inr (Nat.le_trans h1.size h)
theorem Moved.of {B g : Nat} {v1 v2 v3 : Value} {w w' : World} {c : Cu} (h : CurW B g v1 v2 v3 c w) (hb : Below w.heap.size w w') : Moved B g v1 v2 v3 w c w' := ⟨v1, v2, v3, Chg.of_below _ hb, h.below hb, fun k hk => .inl hk⟩
end Go.Proofs.Ytfekpmbecoeijaa.Hand
namespace Go.Proofs.Ytfekpmbecoeijaa.Hand
open Go.RowKit Go.Proofs.YtfekpmbecoeijaaW.PrintWords Go.Proofs.YtfekpmbecoeijaaW.PrintLast Go.Proofs.YtfekpmbecoeijaaW.PrintMore Go.Proofs.Ytfekpmbecoeijaa.Q Go.Proofs.Ytfekpmbecoeijaa.RF
set_option linter.unusedVariables false
set_option linter.unusedSimpArgs false
set_option maxRecDepth 100000
theorem set_last {β : Type} {l : List β} {z x : β} {L : Nat} (h : l.length = L) : (l ++ [z]).set (L : Int).toNat x = l ++ [x] := by
  subst h
  rw [Int.toNat_natCast, List.set_append_right _ _ (Nat.le_refl _), Nat.sub_self]
  rfl
section
variable {P : Program} {ops : Array Oper} {o : Oper} {a : Act} {Q : Exit → Act → World → Prop} {Kc : Act → World → Prop} {α : Type}
theorem two_last_ {md : Region.Mode} {S : World → Prop} {ds : List Nat} {i j : Nat} {Ni Nj : Option Tmp} {oi oj : Oper} {fuel : Nat} {l : Array Bool} {a : Act} {w : World} (li lj : Array Bool) (hi : ops[i]? = some oi) (hj : ops[j]? = some oj) (hNi : oi.dst = Ni) (hNj : oj.dst = Nj)
    (hc : (Region.ready md ops l == [i, j] && l.setIfInBounds i true == li && l.setIfInBounds j true == lj) = true) (hdi : i ∈ ds) (hdj : j ∈ ds)
    (h1 : ∀ K : Act → World → Prop, Shut (∀ a' w', wpAnyLast P md ops Q S ds fuel li a' w' → K a' w') → if Region.wanted oi (yielded ops a.tmps) = true then Oper.wp P oi a w K Q else K (a.put Ni undef) w)
    (h2 : ∀ K : Act → World → Prop, Shut (∀ a' w', wpAnyLast P md ops Q S ds fuel lj a' w' → K a' w') → if Region.wanted oj (yielded ops a.tmps) = true then Oper.wp P oj a w K Q else K (a.put Nj undef) w) :
    wpAnyLast P md ops Q S ds (fuel + 1) l a w := by
  subst hNi
  subst hNj
  simp only [Bool.and_eq_true, beq_iff_eq] at hc
  obtain ⟨⟨h3, h4⟩, h5⟩ := hc
  subst h4
  subst h5
  exact wpAnyLast_ready h3 (by simp) (AllReadyL.cons_last hi hdi (fun K hK => h1 K hK) (AllReadyL.cons_last hj hdj (fun K hK => h2 K hK) AllReadyL.nil))
theorem R_store_step (d : Kd α) {W : World} (base : Nat) (hw : Region.wanted o (yielded ops a.tmps) = true) (hN : o.dst = none) (t : TypeId) (p x : Operand) (ho : o.op = .store t p x) (e : TypeId) {g n cap o' : Nat} (i : Int) (j : Nat) (xs : List α) (x' : α) (u : Value) (seg c : List Value) (ok okp : Nat → Prop)
    (haddr : a.eval p = .pointer (some ⟨g, o', none⟩)) (hoff : o' = i.toNat * d.sz + j) (hx : a.eval x = u) (hu : u.cells.toList = seg) (ht : (P.info? t).map (·.size) = some seg.length) (h1 : ∀ q ∈ seg, q.oneCell' = true)
    (HO : d.R e W base ok (.slice (some ⟨g, 0, none⟩) n cap) xs) (h0 : 0 ≤ i) (hi : i < n) (hcl : c.length = d.sz) (hcc : ∀ j u, c[j]? = some u → W.cell? ⟨g, i.toNat * d.sz + j, none⟩ = some u)
    (hj : j + seg.length ≤ d.sz) (hM : d.M W base okp x' (c.take j ++ seg ++ c.drop (j + seg.length))) (hokp : ∀ k, okp k → ok k ∧ k ≠ g)
    (h : ∀ w1, d.R e w1 base ok (.slice (some ⟨g, 0, none⟩) n cap) (xs.set i.toNat x') → W.grownBy w1 (some g) → Kc a w1) : if Region.wanted o (yielded ops a.tmps) = true then Oper.wp P o a W Kc Q else Kc (a.put none undef) W := by
  subst hoff
  obtain ⟨hrow, hg⟩ := Kd.R_seg HO i h0 hi hcl hcc hj hM hokp
  have hnx : n = xs.length := (Kd.R_reads' HO).1
  obtain ⟨_, inner, hown, hr⟩ := HO
  have hil : i.toNat < n := by omega
  have hrun : (Instr.storeAt t (.pointer (some ⟨g, i.toNat * d.sz + j, none⟩)) u).run P W = .ok () (W.setCells g (i.toNat * d.sz + j) seg) := by
    rcases hown.2 with ⟨hv, _⟩ | ⟨g', cap', cur, hv, hb, hh, hnc, hcm, hcs, _⟩
    · cases hv
    injection hv with ha _ hc
    injection ha with ha
    injection ha with hg'
    subst hg'; subst hc
    refine run_store_run t u seg hh hu ht ?_ h1
    have h2 : i.toNat * d.sz + d.sz ≤ n * d.sz := by rw [← Nat.succ_mul]; exact Nat.mul_le_mul_right _ hil
    have h3 : n * d.sz ≤ cap * d.sz := Nat.mul_le_mul_right _ (by omega)
    omega
  refine skip_ hw hN ?_ (h _ hrow hg)
  unfold execOp
  simp only [ho, haddr, hx, Sem.run_bind, Sem.run_pure, Result.andThen_ok, hrun]
end
def lens (fu : Nat) : List S26 → Option Int
  | [] => some 0
  | k :: ks => (lenOf fu k).bind fun a => (lens fu ks).bind fun b => some (a + b)
def offF (fu : Nat) (h : Int) (n : S26) (i : Nat) : Option Int := (cOwn n).bind fun o => (lens fu (n.f6.take i)).bind fun s => if 0 ≤ h ∧ h + o + s < 9223372036854775807 then some (h + o + s) else none
theorem lens_append {fu : Nat} : ∀ {l l' : List S26} {s : Int}, lens fu (l ++ l') = some s → ∃ a b, lens fu l = some a ∧ lens fu l' = some b ∧ s = a + b
  | [], l', s, h => ⟨0, s, rfl, h, by omega⟩
  | k :: l, l', s, h => by
    simp only [List.cons_append, lens] at h
    obtain ⟨x, hx, h⟩ := Option.bind_eq_some_iff.1 h
    obtain ⟨y, hy, h⟩ := Option.bind_eq_some_iff.1 h
    obtain ⟨a, b, ha, hb, rfl⟩ := lens_append hy
    refine ⟨x + a, b, by simp only [lens]; rw [hx, Option.bind_some, ha, Option.bind_some], hb, ?_⟩
    rw [← Option.some.inj h]
    omega
theorem lens_snoc {fu : Nat} {l : List S26} {k : S26} {a b : Int} (h : lens fu l = some a) (hk : lenOf fu k = some b) : lens fu (l ++ [k]) = some (a + b) := by
  induction l generalizing a with
  | nil =>
    obtain rfl : a = 0 := by simp [lens] at h; omega
    simp only [List.nil_append, lens]
    rw [hk, Option.bind_some, Option.bind_some]
    simp
  | cons x l ih =>
    simp only [lens] at h
    obtain ⟨u, hu, h⟩ := Option.bind_eq_some_iff.1 h
    obtain ⟨v, hv, h⟩ := Option.bind_eq_some_iff.1 h
    simp only [List.cons_append, lens]
    rw [hu, Option.bind_some, ih hv, Option.bind_some]
    have := Option.some.inj h
    congr 1
    omega
theorem lenOf_nonneg {fu : Nat} {n : S26} {a : Int} (h : lenOf fu n = some a) : 0 ≤ a := by
  unfold lenOf at h
  obtain ⟨l, _, h⟩ := Option.bind_eq_some_iff.1 h
  split at h
  · rw [← Option.some.inj h]; omega
  · cases h
theorem lens_nonneg {fu : Nat} : ∀ {l : List S26} {a : Int}, lens fu l = some a → 0 ≤ a
  | [], a, h => by simp [lens] at h; omega
  | k :: l, a, h => by
    simp only [lens] at h
    obtain ⟨x, hx, h⟩ := Option.bind_eq_some_iff.1 h
    obtain ⟨y, hy, h⟩ := Option.bind_eq_some_iff.1 h
    have := lenOf_nonneg hx
    have := lens_nonneg hy
    have := Option.some.inj h
    omega
theorem cOwn_nonneg {n : S26} {o : Int} (h : cOwn n = some o) : 0 ≤ o := by
  unfold cOwn at h
  split at h
  · rw [← Option.some.inj h]; omega
  · split at h
    · rw [← Option.some.inj h]; omega
    · cases h
set_option maxHeartbeats 8000000 in
theorem down_calls {B g : Nat} {v1 v2 v3 : Value} {c : Cu} {w : World} (hw : CurW B g v1 v2 v3 c w) (hBw : B ≤ w.heap.size) (m : Nat) (hn : c.ns.length = m + 1) (hh : c.hs.length = m + 1) (hp : c.ps.length = m) (hm63 : m < 1000000) (fu i : Nat) (hi : i < (rd_T26 c.ns (m : Int)).f6.length)
    (hlim : (rd_T26 c.ns (m : Int)).f6.length < 4611686018427387904) (at_ : Int) (hat : offF fu (rd c.hs (m : Int)) (rd_T26 c.ns (m : Int)) i = some at_) :
    Calls Try.prog 42 #[.pointer (some ⟨g, 0, none⟩), .int .i64 (i : Int)] w fun e w' => e = .returned (.bool true) ∧
      Moved B g v1 v2 v3 w ⟨c.ns ++ [rd_T26 (rd_T26 c.ns (m : Int)).f6 (i : Int)], c.ps ++ [(i : Int)], c.hs ++ [at_]⟩ w' := by
  have hu26 := Try.underlying26
  have hnow := now_own hw m hn (by omega)
  have hnn : ∃ n, rd_T26 c.ns (m : Int) = n := ⟨_, rfl⟩
  obtain ⟨n, hnn⟩ := hnn
  rw [hnn] at hnow hi hlim hat ⊢
  unfold offF at hat
  obtain ⟨o, ho, hat⟩ := Option.bind_eq_some_iff.1 hat
  obtain ⟨s, hs, hat⟩ := Option.bind_eq_some_iff.1 hat
  by_cases hsum : 0 ≤ rd c.hs (m : Int) ∧ rd c.hs (m : Int) + o + s < 9223372036854775807
  case neg => rw [if_neg hsum] at hat; cases hat
  rw [if_pos hsum] at hat
  obtain rfl := Option.some.inj hat
  clear hat
  have ho0 := cOwn_nonneg ho
  have hs0 := lens_nonneg hs
  obtain ⟨h0, hh0⟩ : ∃ h0, rd c.hs (m : Int) = h0 := ⟨_, rfl⟩
  rw [hh0] at hsum ⊢
  have h0i : ¬ (i : Int) < 0 := by omega
  have hb1 := decide_eq_false h0i
  have hb3 : decide ((i : Int) ≥ (n.f6.length : Int)) = false := decide_eq_false (by omega)
  have hb4 : decide ((n.f6.length : Int) ≤ (i : Int)) = false := decide_eq_false (by omega)
  have HW := Aside0.mk hw
  have HH := Aside0.mk hh0
  replace hnow := Aside0.mk hnow
  replace hnn := Aside0.mk hnn
  replace ho := Aside0.mk ho
  replace hs := Aside0.mk hs
  clear hw
  go_enter Try.func42, Try.ntmps42
  go_wp2_with (go_at_call 41; refine hnow.out.mono ?_; rintro e w2 ⟨A4, c4, A6, c6, rfl, R4, R6, hb2⟩; obtain ⟨_, l4, g4⟩ := Kd.R_reads' R4; obtain ⟨_, l6, g6⟩ := Kd.R_reads' R6; replace R4 := Aside0.mk R4; replace R6 := Aside0.mk R6; replace hb2 := Aside0.mk hb2; replace g4 := Aside0.mk g4; replace g6 := Aside0.mk g6)
  obtain ⟨w3, hw3⟩ : ∃ w3, w2.alloc (Obj.cells #[.int .i64 n.f0, .int .i64 n.f1, .int .i64 n.f2, .int .i64 n.f3, .slice A4 n.f4.length c4, .string n.f5, .slice A6 n.f6.length c6] 26) = w3 := ⟨_, rfl⟩
  have hB3 : Below w.heap.size w w3 := hw3 ▸ below_alloc hb2.out _
  have hk3 : w3.heap[w2.heap.size]? = some (.cells #[.int .i64 n.f0, .int .i64 n.f1, .int .i64 n.f2, .int .i64 n.f3, .slice A4 n.f4.length c4, .string n.f5, .slice A6 n.f6.length c6] 26 (0, 0)) := hw3 ▸ blk_new _ _
  have HW3 := HW.out.below hB3
  have hb23 : Below w2.heap.size w2 w3 := hw3 ▸ below_alloc (Below.refl _ _) _
  have g4' := Kd.C_below g4.out hb23
  have g6' := Kd.C_below g6.out hb23
  have hw3s : w2.heap.size < w3.heap.size := blk_lt hk3
  obtain ⟨Ah, e3, eh, hhl, hC⟩ := HW3.r3.reads
  obtain ⟨ad, hA, q0⟩ := Kd.at_int hC (m : Int) (by omega) (by omega)
  subst hA
  simp only [Int.toNat_natCast] at q0
  rw [HH.out] at q0
  obtain ⟨L, hL⟩ : ∃ L, c.hs.length = L := ⟨_, rfl⟩
  have hLm : L = m + 1 := by omega
  rw [hL] at eh
  subst eh
  have y2 : w3.cell? ⟨g, 2, none⟩ = some (.slice (some ad) L e3) := (blk_cell HW3.hb 2).trans rfl
  have z0 : w3.cell? ⟨w2.heap.size, 0, none⟩ = some (.int .i64 n.f0) := (blk_cell hk3 0).trans rfl
  have z1 : w3.cell? ⟨w2.heap.size, 1, none⟩ = some (.int .i64 n.f1) := (blk_cell hk3 1).trans rfl
  have z2 : w3.cell? ⟨w2.heap.size, 2, none⟩ = some (.int .i64 n.f2) := (blk_cell hk3 2).trans rfl
  have z3 : w3.cell? ⟨w2.heap.size, 3, none⟩ = some (.int .i64 n.f3) := (blk_cell hk3 3).trans rfl
  have z4 : w3.cell? ⟨w2.heap.size, 4, none⟩ = some (.slice A4 n.f4.length c4) := (blk_cell hk3 4).trans rfl
  have z5 : w3.cell? ⟨w2.heap.size, 5, none⟩ = some (.string n.f5) := (blk_cell hk3 5).trans rfl
  have z6 : w3.cell? ⟨w2.heap.size, 6, none⟩ = some (.slice A6 n.f6.length c6) := (blk_cell hk3 6).trans rfl
  have hSof : ∀ w', Below w3.heap.size w3 w' → (Below w3.heap.size w3 w' ∧ w'.cell? ⟨g, 2, none⟩ = some (.slice (some ad) L e3) ∧ w'.cell? (ad.add m) = some (.int .i64 h0) ∧ w'.cell? ⟨w2.heap.size, 0, none⟩ = some (.int .i64 n.f0) ∧ w'.cell? ⟨w2.heap.size, 1, none⟩ = some (.int .i64 n.f1) ∧ w'.cell? ⟨w2.heap.size, 2, none⟩ = some (.int .i64 n.f2) ∧ w'.cell? ⟨w2.heap.size, 3, none⟩ = some (.int .i64 n.f3) ∧ w'.cell? ⟨w2.heap.size, 4, none⟩ = some (.slice A4 n.f4.length c4) ∧ w'.cell? ⟨w2.heap.size, 5, none⟩ = some (.string n.f5) ∧ w'.cell? ⟨w2.heap.size, 6, none⟩ = some (.slice A6 n.f6.length c6)) := fun w' hb => ⟨hb, (hb.cell (World.block_lt_of_cell? w3 _ y2)).trans y2, (hb.cell (World.block_lt_of_cell? w3 _ q0)).trans q0, (hb.cell (World.block_lt_of_cell? w3 _ z0)).trans z0, (hb.cell (World.block_lt_of_cell? w3 _ z1)).trans z1, (hb.cell (World.block_lt_of_cell? w3 _ z2)).trans z2, (hb.cell (World.block_lt_of_cell? w3 _ z3)).trans z3, (hb.cell (World.block_lt_of_cell? w3 _ z4)).trans z4, (hb.cell (World.block_lt_of_cell? w3 _ z5)).trans z5, (hb.cell (World.block_lt_of_cell? w3 _ z6)).trans z6⟩
  have i0 : 0 ≤ (m : Int) := by omega
  have i1 : (m : Int) < (L : Int) := by omega
  have hwr : IntKind.i64.wrap ((L : Int) - 1) = (m : Int) := by rw [IntKind.wrap_i64]; omega
  replace hLm := Aside0.mk hLm
  have HH2 := Aside0.mk hh
  clear hh
  have hwo : IntKind.i64.wrap (h0 + o) = h0 + o := by rw [IntKind.wrap_i64]; omega
  have hS0 : Below w3.heap.size w3 w3 := Below.refl _ _
  replace hB3 := Aside0.mk hB3
  replace hk3 := Aside0.mk hk3
  replace HW3 := Aside0.mk HW3
  replace hb23 := Aside0.mk hb23
  replace g4' := Aside0.mk g4'
  replace g6' := Aside0.mk g6'
  replace hC := Aside0.mk hC
  rw [hw3]
  go_region_held3 (fun w' => Below w3.heap.size w3 w' ∧ w'.cell? ⟨g, 2, none⟩ = some (.slice (some ad) L e3) ∧ w'.cell? (ad.add m) = some (.int .i64 h0) ∧ w'.cell? ⟨w2.heap.size, 0, none⟩ = some (.int .i64 n.f0) ∧ w'.cell? ⟨w2.heap.size, 1, none⟩ = some (.int .i64 n.f1) ∧ w'.cell? ⟨w2.heap.size, 2, none⟩ = some (.int .i64 n.f2) ∧ w'.cell? ⟨w2.heap.size, 3, none⟩ = some (.int .i64 n.f3) ∧ w'.cell? ⟨w2.heap.size, 4, none⟩ = some (.slice A4 n.f4.length c4) ∧ w'.cell? ⟨w2.heap.size, 5, none⟩ = some (.string n.f5) ∧ w'.cell? ⟨w2.heap.size, 6, none⟩ = some (.slice A6 n.f6.length c6))
    ((refine hSof _ ?_; repeat (first | assumption | refine below_drew ?_ | refine below_alloc ?_ _)))
    ((go_at_call 46; refine (cown_calls n A4 c4 A6 c6 o _ (Kd.C_below g4'.out (‹Below w3.heap.size w3 _ ∧ _›).1) l4 ho.out).mono ?_; rintro e w4 ⟨rfl, hb4⟩; have hb5 := below_step (‹Below w3.heap.size w3 _ ∧ _›).1 hb4))
  rename_i hHeld
  clear hHeld hSof y2 q0 z0 z1 z2 z3 z4 z5 z6 hwr i0 i1 hS0 hwo hb4
  have HW4 := HW3.out.below hb5
  have hk4 := blk_below hk3.out hb5
  have G6 := Kd.C_below g6'.out hb5
  have z6 : w4.cell? ⟨w2.heap.size, 6, none⟩ = some (.slice A6 n.f6.length c6) := (blk_cell hk4 6).trans rfl
  have j0 : 0 ≤ (i : Int) := by omega
  have j1 : (i : Int) ≤ (c6 : Int) := by omega
  replace HW4 := Aside0.mk HW4
  replace hk4 := Aside0.mk hk4
  replace G6 := Aside0.mk G6
  replace hb5 := Aside0.mk hb5
  go_wp2
  go_loopg [6, 40] i (fun mm u6 u40 wr => ∃ (x : Nat) (sx : Int), u40 = .int .i64 x ∧ mm + x = i ∧ u6 = .int .i64 (h0 + o + sx) ∧ Aside0 (lens fu (n.f6.take x) = some sx ∧ Below w4.heap.size w4 wr))
  case atStart =>
    exact ⟨0, 0, rfl, by omega, by rw [Int.add_zero], by rw [List.take_zero]; rfl, Below.refl _ _⟩
  case round =>
    obtain ⟨x, sx, rfl, hmx, rfl, hv⟩ := hrel
    by_cases hlt : x < i
    · have hb : decide ((x : Int) < (i : Int)) = true := decide_eq_true (by omega)
      obtain ⟨hsx, hbx⟩ := hv.out
      obtain ⟨ad2, B4, d4, B6, d6, hA6, q0, q1, q2, q3, q4, q5, q6, kl4, kg4, kl6, kg6⟩ := at_T26 (Kd.C_below G6.out hbx) (x : Int) (by omega) (by omega)
      subst hA6
      simp only [Int.toNat_natCast] at q0 q1 q2 q3 q4 q5 q6
      have hxl : x < n.f6.length := by omega
      have hkx : rd_T26 n.f6 (x : Int) = n.f6[x] := by simp [rd_T26, hxl]
      have hsplit : n.f6.take i = n.f6.take x ++ n.f6[x] :: (n.f6.take i).drop (x + 1) := by
        have h2 : x < (n.f6.take i).length := by simp; omega
        conv => lhs; rw [← List.take_append_drop x (n.f6.take i), List.drop_eq_getElem_cons h2]
        rw [List.take_take, Nat.min_eq_left (by omega), List.getElem_take]
      have hs' := hs.out
      rw [hsplit] at hs'
      obtain ⟨sa, sb, hsa, hsb, hsab⟩ := lens_append hs'
      obtain rfl : sa = sx := by rw [hsx] at hsa; exact (Option.some.inj hsa).symm
      simp only [lens] at hsb
      obtain ⟨ka, hka, hsb⟩ := Option.bind_eq_some_iff.1 hsb
      obtain ⟨kr, hkr, hsb⟩ := Option.bind_eq_some_iff.1 hsb
      have hsb := Option.some.inj hsb
      have k0 := lenOf_nonneg hka
      have k1 := lens_nonneg hkr
      have k2 := lens_nonneg hsa
      have hnext : lens fu (n.f6.take (x + 1)) = some (sa + ka) := by
        rw [List.take_succ_eq_append_getElem hxl]
        exact lens_snoc hsa hka
      rw [← hkx] at hka
      generalize hkk : rd_T26 n.f6 (x : Int) = k at q0 q1 q2 q3 q4 q5 q6 kl4 kg4 kl6 kg6 hka
      have hw1 : IntKind.i64.wrap (h0 + o + sa + ka) = h0 + o + sa + ka := by rw [IntKind.wrap_i64]; omega
      have hw2 : IntKind.i64.wrap ((x : Int) + 1) = ((x + 1 : Nat) : Int) := by rw [IntKind.wrap_i64]; omega
      have x0 : 0 ≤ (x : Int) := by omega
      have x1 : (x : Int) < (i : Int) := by omega
      replace hbx := Aside0.mk hbx
      replace hnext := Aside0.mk hnext
      replace hka := Aside0.mk hka
      replace kg4 := Aside0.mk kg4
      replace kg6 := Aside0.mk kg6
      clear hs' hsplit hsa hkx hsb hkr
      go_wp2_with (go_at_call 29; (have hBk := below_alloc (Below.refl wr.heap.size wr) (Obj.cells #[.int .i64 k.f0, .int .i64 k.f1, .int .i64 k.f2, .int .i64 k.f3, .slice B4 k.f4.length d4, .string k.f5, .slice B6 k.f6.length d6] 26)); refine (len_calls fu k B4 d4 B6 d6 ka _ (Kd.C_below kg4.out hBk) kl4 (Kd.C_below kg6.out hBk) kl6 hka.out).mono ?_; rintro e w5 ⟨rfl, hb6⟩; have hb7 := below_step hbx.out (below_step hBk hb6); replace hb7 := Aside0.mk hb7; clear hb6 hBk)
      go_roundg (i - (x + 1))
      case measure => omega
      case rel => exact ⟨x + 1, sa + ka, rfl, by omega, by rw [← Int.add_assoc], hnext.out, hb7.out⟩
    · have hb : decide ((x : Int) < (i : Int)) = false := decide_eq_false (by omega)
      obtain rfl : x = i := by omega
      obtain ⟨hsx, hbx⟩ := hv.out
      obtain rfl : sx = s := by rw [hs.out] at hsx; exact (Option.some.inj hsx).symm
      go_upto_region 10 with (fail)
      have HW5 := HW4.out.below hbx
      have hk5 := blk_below hk4.out hbx
      have hbR : Below w2.heap.size w2 wr := below_step hb23.out (below_step hb5.out hbx)
      have R6' := Kd.R_below R6.out hbR
      have hB5 : Below w.heap.size w wr := below_step hB3.out (below_step hb5.out hbx)
      obtain ⟨ad2, B4, d4, B6, d6, hA6, q0, q1, q2, q3, q4, q5, q6, kr4, kr6⟩ := at_R26 R6' (x : Int) (by omega) (by omega)
      subst hA6
      simp only [Int.toNat_natCast] at q0 q1 q2 q3 q4 q5 q6
      generalize hkd : rd_T26 n.f6 (x : Int) = kd at *
      obtain ⟨A1, cc1, ev1, hcc1, _⟩ := HW5.r1.reads
      obtain ⟨LN, hLN⟩ : ∃ LN, c.ns.length = LN := ⟨_, rfl⟩
      rw [hLN] at ev1
      subst ev1
      have y0 : wr.cell? ⟨g, 0, none⟩ = some (.slice A1 LN cc1) := (blk_cell HW5.hb 0).trans rfl
      have z6 : wr.cell? ⟨w2.heap.size, 6, none⟩ = some (.slice (some ad2) n.f6.length c6) := (blk_cell hk5 6).trans rfl
      have kr4' := Kd.R_mono (ok' := fun k => (k ≠ g ∧ some k ≠ v2.ownBlock ∧ some k ≠ (Value.slice (some ad) L e3).ownBlock) ∧ some k ≠ (Value.slice A1 LN cc1).ownBlock) kr4 (fun k hk => hk.1)
      have kr6' := Kd.R_mono (ok' := fun k => (k ≠ g ∧ some k ≠ v2.ownBlock ∧ some k ≠ (Value.slice (some ad) L e3).ownBlock) ∧ some k ≠ (Value.slice A1 LN cc1).ownBlock) kr6 (fun k hk => hk.1)
      have hLm2 : LN = m + 1 := by rw [← hLN]; exact hn
      replace hLN := Aside0.mk hLN
      have hLmi : (LN : Int) = (m : Int) + 1 := by omega
      have hL0 : 0 ≤ (LN : Int) := by omega
      have hL1 : (LN : Int) < (LN : Int) + 1 := by omega
      have hL2 : (c.ns.length + 1) * 96 ≤ 140737488355328 := by rw [hLN.out]; omega
      replace hL2 := Aside0.mk hL2
      replace hLmi := Aside0.mk hLmi
      replace hLm2 := Aside0.mk hLm2
      have hbc : B ≤ wr.heap.size := Nat.le_trans hBw hB5.size
      clear kr4 kr6 R6' hbR hcc1
      have hSof : ∀ w' : World, Below wr.heap.size wr w' → (w'.cell? ⟨g, 0, none⟩ = some (.slice A1 LN cc1) ∧ w'.cell? ⟨w2.heap.size, 6, none⟩ = some (.slice (some ad2) n.f6.length c6) ∧ w'.cell? (ad2.add (x * 7)) = some (.int .i64 kd.f0) ∧ w'.cell? ⟨(ad2.add (x * 7)).block, (ad2.add (x * 7)).off + 1, none⟩ = some (.int .i64 kd.f1) ∧ w'.cell? ⟨(ad2.add (x * 7)).block, (ad2.add (x * 7)).off + 2, none⟩ = some (.int .i64 kd.f2) ∧ w'.cell? ⟨(ad2.add (x * 7)).block, (ad2.add (x * 7)).off + 3, none⟩ = some (.int .i64 kd.f3) ∧ w'.cell? ⟨(ad2.add (x * 7)).block, (ad2.add (x * 7)).off + 4, none⟩ = some (.slice B4 kd.f4.length d4) ∧ w'.cell? ⟨(ad2.add (x * 7)).block, (ad2.add (x * 7)).off + 5, none⟩ = some (.string kd.f5) ∧ w'.cell? ⟨(ad2.add (x * 7)).block, (ad2.add (x * 7)).off + 6, none⟩ = some (.slice B6 kd.f6.length d6)) := fun w' hb => ⟨pw_cell_below hb y0, pw_cell_below hb z6, pw_cell_below hb q0, pw_cell_below hb q1, pw_cell_below hb q2, pw_cell_below hb q3, pw_cell_below hb q4, pw_cell_below hb q5, pw_cell_below hb q6⟩
      have hdr : Below wr.heap.size wr wr.drew := below_drew (Below.refl _ _)
      have x0 : 0 ≤ (x : Int) := by omega
      have x1 : (x : Int) < (n.f6.length : Int) := by omega
      replace HW5 := Aside0.mk HW5
      replace hk5 := Aside0.mk hk5
      replace hB5 := Aside0.mk hB5
      replace kr4' := Aside0.mk kr4'
      replace kr6' := Aside0.mk kr6'
      replace hSof := Aside0.mk hSof
      clear hat y0 z6 q0 q1 q2 q3 q4 q5 q6
      replace hkd := Aside0.mk hkd
      refine start_ (n := 17) (S := fun w' => w'.cell? ⟨g, 0, none⟩ = some (.slice A1 LN cc1) ∧ w'.cell? ⟨w2.heap.size, 6, none⟩ = some (.slice (some ad2) n.f6.length c6) ∧ w'.cell? (ad2.add (x * 7)) = some (.int .i64 kd.f0) ∧ w'.cell? ⟨(ad2.add (x * 7)).block, (ad2.add (x * 7)).off + 1, none⟩ = some (.int .i64 kd.f1) ∧ w'.cell? ⟨(ad2.add (x * 7)).block, (ad2.add (x * 7)).off + 2, none⟩ = some (.int .i64 kd.f2) ∧ w'.cell? ⟨(ad2.add (x * 7)).block, (ad2.add (x * 7)).off + 3, none⟩ = some (.int .i64 kd.f3) ∧ w'.cell? ⟨(ad2.add (x * 7)).block, (ad2.add (x * 7)).off + 4, none⟩ = some (.slice B4 kd.f4.length d4) ∧ w'.cell? ⟨(ad2.add (x * 7)).block, (ad2.add (x * 7)).off + 5, none⟩ = some (.string kd.f5) ∧ w'.cell? ⟨(ad2.add (x * 7)).block, (ad2.add (x * 7)).off + 6, none⟩ = some (.slice B6 kd.f6.length d6)) (ds := [11,13,16]) #[false, false, false, false, false, false, false, false, false, false, false, false, false, false, false, false, false] (by kernel_rfl) rfl rfl ?_ ?_
      · exact hSof.out _ hdr
      intro hHeld
      generalize hw1d : wr.drew = W1d at hdr hHeld ⊢
      clear hw1d
      refine pure_ (i := 0) (N := some 49) (v := ?_) (a' := ?_) #[true, false, false, false, false, false, false, false, false, false, false, false, false, false, false, false, false] rfl rfl (by kernel_rfl) (fun _ _ _ h => h) (Or.inl ⟨by rfl, ?_⟩) ?_ ?_
      rotate_left
      · intro w'
        go_simp
        with_reducible rfl
      rotate_left
      · simp only [Act.put, List.setIfInBounds_toArray, List.set_cons_zero, List.set_cons_succ, i64_w, i32_w]
        rfl
      refine pure_ (i := 1) (N := some 50) (v := ?_) (a' := ?_) #[true, true, false, false, false, false, false, false, false, false, false, false, false, false, false, false, false] rfl rfl (by kernel_rfl) (fun _ _ _ h => h) (Or.inl ⟨by rfl, ?_⟩) ?_ ?_
      rotate_left
      · intro w'
        go_simp
        with_reducible rfl
      rotate_left
      · simp only [Act.put, List.setIfInBounds_toArray, List.set_cons_zero, List.set_cons_succ, i64_w, i32_w]
        rfl
      refine pure_ (i := 2) (N := some 51) (v := ?_) (a' := ?_) #[true, true, true, false, false, false, false, false, false, false, false, false, false, false, false, false, false] rfl rfl (by kernel_rfl) (fun _ _ _ h => h) (Or.inl ⟨by rfl, ?_⟩) ?_ ?_
      rotate_left
      · intro w'
        go_simp
        with_reducible rfl
      rotate_left
      · simp only [Act.put, List.setIfInBounds_toArray, List.set_cons_zero, List.set_cons_succ, i64_w, i32_w]
        rfl
      refine take_ (i := 3) (N := some 52) (v := ?_) (a' := ?_) #[true, true, true, true, false, false, false, false, false, false, false, false, false, false, false, false, false] rfl rfl (by kernel_rfl) (fun _ _ _ h => h) (Or.inl ⟨by rfl, ?_⟩) hHeld ?_ ?_
      rotate_left
      · rintro w' ⟨s0, s1, s2, s3, s4, s5, s6, s7, s8⟩
        go_simp
        with_reducible rfl
      rotate_left
      · simp only [Act.put, List.setIfInBounds_toArray, List.set_cons_zero, List.set_cons_succ, i64_w, i32_w]
        rfl
      refine pure_ (i := 4) (N := some 53) (v := ?_) (a' := ?_) #[true, true, true, true, true, false, false, false, false, false, false, false, false, false, false, false, false] rfl rfl (by kernel_rfl) (fun _ _ _ h => h) (Or.inl ⟨by rfl, ?_⟩) ?_ ?_
      rotate_left
      · intro w'
        go_simp
        with_reducible rfl
      rotate_left
      · simp only [Act.put, List.setIfInBounds_toArray, List.set_cons_zero, List.set_cons_succ, i64_w, i32_w]
        rfl
      refine take_ (i := 5) (N := some 54) (v := ?_) (a' := ?_) #[true, true, true, true, true, true, false, false, false, false, false, false, false, false, false, false, false] rfl rfl (by kernel_rfl) (fun _ _ _ h => h) (Or.inl ⟨by rfl, ?_⟩) hHeld ?_ ?_
      rotate_left
      · rintro w' ⟨s0, s1, s2, s3, s4, s5, s6, s7, s8⟩
        go_simp
        with_reducible rfl
      rotate_left
      · simp only [Act.put, List.setIfInBounds_toArray, List.set_cons_zero, List.set_cons_succ, i64_w, i32_w]
        rfl
      refine pure_ (i := 6) (N := some 55) (v := ?_) (a' := ?_) #[true, true, true, true, true, true, true, false, false, false, false, false, false, false, false, false, false] rfl rfl (by kernel_rfl) (fun _ _ _ h => h) (Or.inl ⟨by rfl, ?_⟩) ?_ ?_
      rotate_left
      · intro w'
        go_simp
        with_reducible rfl
      rotate_left
      · simp only [Act.put, List.setIfInBounds_toArray, List.set_cons_zero, List.set_cons_succ, i64_w, i32_w]
        rfl
      refine pure_ (i := 7) (N := some 56) (v := ?_) (a' := ?_) #[true, true, true, true, true, true, true, true, false, false, false, false, false, false, false, false, false] rfl rfl (by kernel_rfl) (fun _ _ _ h => h) (Or.inl ⟨by rfl, ?_⟩) ?_ ?_
      rotate_left
      · intro w'
        go_simp
        with_reducible rfl
      rotate_left
      · simp only [Act.put, List.setIfInBounds_toArray, List.set_cons_zero, List.set_cons_succ, i64_w, i32_w]
        rfl
      refine take_ (i := 8) (N := some 57) (v := ?_) (a' := ?_) #[true, true, true, true, true, true, true, true, true, false, false, false, false, false, false, false, false] rfl rfl (by kernel_rfl) (fun _ _ _ h => h) (Or.inl ⟨by rfl, ?_⟩) hHeld ?_ ?_
      rotate_left
      · rintro w' ⟨s0, s1, s2, s3, s4, s5, s6, s7, s8⟩
        go_simp
        with_reducible rfl
      rotate_left
      · simp only [Act.put, List.setIfInBounds_toArray, List.set_cons_zero, List.set_cons_succ, i64_w, i32_w]
        rfl
      refine pure_ (i := 9) (N := some 58) (v := ?_) (a' := ?_) #[true, true, true, true, true, true, true, true, true, true, false, false, false, false, false, false, false] rfl rfl (by kernel_rfl) (fun _ _ _ h => h) (Or.inl ⟨by rfl, ?_⟩) ?_ ?_
      rotate_left
      · intro w'
        go_simp
        with_reducible rfl
      rotate_left
      · simp only [Act.put, List.setIfInBounds_toArray, List.set_cons_zero, List.set_cons_succ, i64_w, i32_w]
        rfl
      refine one_ (i := 10) (N := some 59) #[true, true, true, true, true, true, true, true, true, true, true, false, false, false, false, false, false] rfl rfl (by kernel_rfl) (by decide) (fun K hK => ?_)
      refine value_ (w1 := ?_) (v := ?_) (by rfl) rfl ?_ ?_
      rotate_left 2
      · go_simp
        constructor
        · rfl
        · rfl
      have hb12 := below_alloc hdr (.cells #[.int .i64 0, .int .i64 0, .int .i64 0, .int .i64 0, .slice none 0 0, .string ⟨#[]⟩, .slice none 0 0] 26)
      refine hK.out _ _ (hSof.out _ hb12) (fun hHeld => ?_)
      clear hK K
      refine norm_ (a' := ?_) ?_ ?_
      rotate_left
      · show Act.put _ (some 59) _ = _
        simp only [Act.put, List.setIfInBounds_toArray, List.set_cons_zero, List.set_cons_succ, i64_w, i32_w]
        rfl
      refine last_ (i := 11) (N := some 60) #[true, true, true, true, true, true, true, true, true, true, true, true, false, false, false, false, false] rfl rfl (by kernel_rfl) (by decide) (fun K hK => ?_)
      have HWd := HW5.out.below hdr
      refine Row.append_step k26 (w0 := w) B (by rfl) (.tmp 52) (.tmp 59) 24 26 (.agg #[.int .i64 0, .int .i64 0, .int .i64 0, .int .i64 0, .slice none 0 0, .string ⟨#[]⟩, .slice none 0 0]) 96 rfl Try.underlying24 info26 rfl (by decide) (by omega) (.slice A1 LN cc1) c.ns z26 [.int .i64 0, .int .i64 0, .int .i64 0, .int .i64 0, .slice none 0 0, .string ⟨#[]⟩, .slice none 0 0] (fun k => k ≠ g ∧ some k ≠ v2.ownBlock ∧ some k ≠ (Value.slice (some ad) L e3).ownBlock) (fun _ => False) rfl rfl (k26_mkM _ _ _ z26 (Kd.R_nil _ _ _ _ _) (Kd.R_nil _ _ _ _ _)) (fun _ h => h.elim) (fun k hk => HWd.fresh1 hk) HWd.r1 ((below_step hB5.out hdr).mono hBw) (Nat.le_trans hbc hdr.size) hL2.out ?_
      intro v1' w12 ho hb hg hat
      obtain ⟨gv, cv, ev, hgb, hgl, hcells⟩ := Kd.R_form ho (by simp)
      have hLz : (c.ns ++ [z26]).length = LN + 1 := List.length_append.trans (congrArg (· + 1) hLN.out)
      rw [hLz] at ev
      subst ev
      have hgv : ∀ k, k < W1d.heap.size → some k ≠ (Value.slice A1 LN cc1).ownBlock → k ≠ gv := fun k h1 h2 e => by
        rcases hat with hat | ⟨b, hb', hle⟩
        · exact h2 (by rw [← hat, e]; rfl)
        · have : gv = b := by simpa [Value.ownBlock] using hb'
          omega
      have hgT : ∀ k, k < wr.heap.size → k = gv → k = g ∨ some k = (Value.slice A1 LN cc1).ownBlock := fun k hk e => by
        rcases hat with hat | ⟨b, hb', hle⟩
        · exact .inr (by rw [← hat, e]; rfl)
        · have : gv = b := by simpa [Value.ownBlock] using hb'
          have := hdr.size
          omega
      have hnew : New wr (Value.slice (some ⟨gv, 0, none⟩) (LN + 1) cv) (.slice A1 LN cc1) := hat.imp id (fun ⟨b, h1, h2⟩ => ⟨b, h1, Nat.le_trans hdr.size h2⟩)
      have hgg : gv ≠ g := (ho.1 gv rfl).1
      have k4 : k76.R 76 w12 B (fun k => (k ≠ g ∧ some k ≠ v2.ownBlock ∧ some k ≠ (Value.slice (some ad) L e3).ownBlock) ∧ k ≠ gv) (.slice B4 kd.f4.length d4) kd.f4 := Kd.R_mono (Kd.R_grown (Kd.R_bound (Kd.R_below kr4'.out hdr)) hg (fun k hk e => hk.1.2 e)) (fun k hk => ⟨hk.1.1, hgv k hk.2.2.1 hk.1.2⟩)
      have k6 : k26.R 26 w12 B (fun k => (k ≠ g ∧ some k ≠ v2.ownBlock ∧ some k ≠ (Value.slice (some ad) L e3).ownBlock) ∧ k ≠ gv) (.slice B6 kd.f6.length d6) kd.f6 := Kd.R_mono (Kd.R_grown (Kd.R_bound (Kd.R_below kr6'.out hdr)) hg (fun k hk e => hk.1.2 e)) (fun k hk => ⟨hk.1.1, hgv k hk.2.2.1 hk.1.2⟩)
      have hw12 : W1d.grownBy w12 (Value.slice A1 LN cc1).ownBlock := hg
      have b12 := blk_grown HWd.hb hg (fun e => (HWd.r1.own g e.symm).1.1 rfl)
      have hchg : Chg (fun k => k = g ∨ some k = (Value.slice A1 LN cc1).ownBlock) wr w12 := (Chg.of_below _ hdr).trans (chg_grown hg (fun k hk => .inr hk.symm)) (fun _ _ h => h)
      have hsz : W1d.heap.size ≤ w12.heap.size := hg.size
      replace k4 := Aside0.mk k4
      replace k6 := Aside0.mk k6
      replace hgv := Aside0.mk hgv
      replace b12 := Aside0.mk b12
      replace ho := Aside0.mk ho
      replace hb := Aside0.mk hb
      replace hg := Aside0.mk hg
      replace hat := Aside0.mk hat
      replace HWd := Aside0.mk HWd
      replace hchg := Aside0.mk hchg
      replace hgT := Aside0.mk hgT
      replace hnew := Aside0.mk hnew
      clear hcells hw12
      refine hK.out _ _ ?_
      clear hK K
      refine norm_ (a' := ?_) ?_ ?_
      rotate_left
      · show Act.put _ (some 60) _ = _
        simp only [Act.put, List.setIfInBounds_toArray, List.set_cons_zero, List.set_cons_succ, i64_w, i32_w]
        rfl
      refine pure_ (i := 12) (N := some 61) (v := ?_) (a' := ?_) #[true, true, true, true, true, true, true, true, true, true, true, true, true, false, false, false, false] rfl rfl (by kernel_rfl) (fun _ _ _ h => h) (Or.inl ⟨by rfl, ?_⟩) ?_ ?_
      rotate_left
      · intro w'
        go_simp
        with_reducible rfl
      rotate_left
      · simp only [Act.put, List.setIfInBounds_toArray, List.set_cons_zero, List.set_cons_succ, i64_w, i32_w]
        rfl
      refine pure_ (i := 14) (N := some 62) (v := ?_) (a' := ?_) #[true, true, true, true, true, true, true, true, true, true, true, true, true, false, true, false, false] rfl rfl (by kernel_rfl) (fun _ _ _ h => h) (Or.inl ⟨by rfl, ?_⟩) ?_ ?_
      rotate_left
      · intro w'
        go_simp
        with_reducible rfl
      rotate_left
      · simp only [Act.put, List.setIfInBounds_toArray, List.set_cons_zero, List.set_cons_succ, i64_w, i32_w]
        rfl
      refine pure_ (i := 15) (N := some 63) (v := ?_) (a' := ?_) #[true, true, true, true, true, true, true, true, true, true, true, true, true, false, true, true, false] rfl rfl (by kernel_rfl) (fun _ _ _ h => h) (Or.inl ⟨by rfl, ?_⟩) ?_ ?_
      rotate_left
      · intro w'
        go_simp
        with_reducible rfl
      rotate_left
      · simp only [Act.put, List.setIfInBounds_toArray, List.set_cons_zero, List.set_cons_succ, i64_w, i32_w]
        rfl
      refine two_last_ (i := 13) (j := 16) (Ni := none) (Nj := none) #[true, true, true, true, true, true, true, true, true, true, true, true, true, true, true, true, false] #[true, true, true, true, true, true, true, true, true, true, true, true, true, false, true, true, true] rfl rfl rfl rfl (by kernel_rfl) (by decide) (by decide) (fun K hK => ?_) (fun K hK => ?_)
      · obtain ⟨cz, hczl, _, hczc, _⟩ := Kd.R_elem ho.out z26 (LN : Int) hL0 (by omega)
        have hczl7 : cz.length = 7 := hczl
        refine R_store_step k26 B (by rfl) rfl 26 (.tmp 61) (.tmp 57) rfl 26 (g := gv) (n := LN + 1) (cap := cv) (LN : Int) 0 (c.ns ++ [z26]) kd (.agg #[.int .i64 kd.f0, .int .i64 kd.f1, .int .i64 kd.f2, .int .i64 kd.f3, .slice B4 kd.f4.length d4, .string kd.f5, .slice B6 kd.f6.length d6]) [.int .i64 kd.f0, .int .i64 kd.f1, .int .i64 kd.f2, .int .i64 kd.f3, .slice B4 kd.f4.length d4, .string kd.f5, .slice B6 kd.f6.length d6] cz (fun k => k ≠ g ∧ some k ≠ v2.ownBlock ∧ some k ≠ (Value.slice (some ad) L e3).ownBlock) (fun k => (k ≠ g ∧ some k ≠ v2.ownBlock ∧ some k ≠ (Value.slice (some ad) L e3).ownBlock) ∧ k ≠ gv) rfl (by rw [Int.toNat_natCast]; rfl) rfl rfl (by kernel_rfl) (by simp [Value.oneCell']) ho.out hL0 (by omega) hczl hczc (Nat.le_refl 7)
          (by rw [show cz.drop (0 + ([.int .i64 kd.f0, .int .i64 kd.f1, .int .i64 kd.f2, .int .i64 kd.f3, .slice B4 kd.f4.length d4, .string kd.f5, .slice B6 kd.f6.length d6] : List Value).length) = [] from List.drop_of_length_le (Nat.le_of_eq hczl7), List.append_nil]; exact k26_mkM _ _ _ kd k4.out k6.out) (fun k hk => hk) ?_
        intro w13 ho13 hg13
        rw [show (c.ns ++ [z26]).set (LN : Int).toNat kd = c.ns ++ [kd] from set_last hLN.out] at ho13
        have b13 := blk_grown b12.out hg13 (fun e => hgg (Option.some.inj e).symm)
        have s13 : w13.cell? ⟨g, 0, none⟩ = some (.slice A1 LN cc1) := (blk_cell b13 0).trans rfl
        have f13 := blk_frozen b13 0
        have hchg13 := hchg.out.trans (w2 := w13) (chg_grown (T := fun k => k = gv) hg13 (fun k hk => (Option.some.inj hk).symm)) hgT.out
        replace b13 := Aside0.mk b13
        replace ho13 := Aside0.mk ho13
        replace hg13 := Aside0.mk hg13
        replace hchg13 := Aside0.mk hchg13
        clear hczc hczl
        refine hK.out _ _ ?_
        clear hK K
        refine last_ (i := 16) (N := none) #[true, true, true, true, true, true, true, true, true, true, true, true, true, true, true, true, true] rfl rfl (by kernel_rfl) (by decide) (fun K hK => ?_)
        refine skip_ (w1 := ?_) (by rfl) rfl ?_ ?_
        rotate_left
        · go_simp
          rfl
        refine hK.out _ _ ?_
        clear hK K
        refine done_ (by kernel_rfl) ?_
        obtain ⟨W13, hW13⟩ : ∃ W13, w13.setCell ⟨g, 0, none⟩ (.slice (some ⟨gv, 0, none⟩) (LN + 1) cv) = W13 := ⟨_, rfl⟩
        have C13 : CurW B g (.slice (some ⟨gv, 0, none⟩) (LN + 1) cv) v2 (.slice (some ad) L e3) ⟨c.ns ++ [kd], c.ps, c.hs⟩ W13 := hW13 ▸ HW5.out.put1 (blk_put b13.out 0 _ rfl) (hchg13.out.trans (Chg.set (T := fun k => k = g) w13 _ _ rfl) (fun _ _ h => .inl h)) (Kd.R_far ho13.out (fun k hk => hk.1) _) hnew.out
        have G13 : Chg (fun k => k = g ∨ some k = (Value.slice A1 LN cc1).ownBlock) wr W13 := hW13 ▸ hchg13.out.trans (Chg.set (T := fun k => k = g) w13 _ _ rfl) (fun _ _ h => .inl h)
        rw [hW13]
        clear hW13
        replace C13 := Aside0.mk C13
        replace G13 := Aside0.mk G13
        clear s13 f13
        have y1 : W13.cell? ⟨g, 1, none⟩ = some v2 := (blk_cell C13.out.hb 1).trans rfl
        have hLp : (c.ps.length + 1) * 8 ≤ 140737488355328 := by rw [hp]; omega
        have hLh : (c.hs.length + 1) * 8 ≤ 140737488355328 := by rw [HH2.out]; omega
        replace hLp := Aside0.mk hLp
        replace hLh := Aside0.mk hLh
        have hBg : B ≤ W13.heap.size := Nat.le_trans C13.out.lg (Nat.le_of_lt C13.out.g_lt)
        go_upto_region 12 with ((with_reducible refine gate_builtin (b := .append) (xs := #[.tmp 68, .tmp 70]) rfl ?_); at_builtin; refine Row.append (Kd.int .i64) (w0 := W13) B rfl (.tmp 68) (.tmp 70) 32 3 (.int .i64 0) 8 rfl Try.underlying32 info3 rfl (by decide) (by omega) v2 c.ps (x : Int) [.int .i64 x] (fun k => k ≠ g ∧ some k ≠ (Value.slice (some ⟨gv, 0, none⟩) (LN + 1) cv).ownBlock ∧ some k ≠ (Value.slice (some ad) L e3).ownBlock) (fun _ => False) rfl rfl rfl (fun _ h => h.elim) (fun k hk => C13.out.fresh2 hk) C13.out.r2 (Below.refl _ _) hBg hLp.out ?_; intro u2 w14 ho hb hg hat; obtain ⟨Au, cu, eu⟩ := Kd.R_slice ho; obtain ⟨Lu, hLu⟩ : ∃ Lu, (c.ps ++ [(x : Int)]).length = Lu := ⟨_, rfl⟩; rw [hLu] at eu; subst eu; replace hLu := Aside0.mk hLu; have b14 := blk_grown C13.out.hb hg (fun e => (C13.out.r2.own g e.symm).1.1 rfl); have s14 : w14.cell? ⟨g, 1, none⟩ = some v2 := (blk_cell b14 1).trans rfl; have f14 := blk_frozen b14 1; have HO2 := Aside0.mk ho; have HG2 := Aside0.mk hg; have HA2 := Aside0.mk hat; have B14 := Aside0.mk b14; clear ho hb hg hat b14)
        obtain ⟨W15, hW15⟩ : ∃ W15, w14.setCell ⟨g, 1, none⟩ (.slice Au Lu cu) = W15 := ⟨_, rfl⟩
        have G15 : Chg (fun k => k = g ∨ some k = v2.ownBlock) W13 W15 := hW15 ▸ (chg_grown (T := fun k => k = g ∨ some k = v2.ownBlock) HG2.out (fun k hk => .inr hk.symm)).trans (Chg.set (T := fun k => k = g) w14 _ _ rfl) (fun _ _ h => .inl h)
        have C15 : CurW B g (.slice (some ⟨gv, 0, none⟩) (LN + 1) cv) (.slice Au Lu cu) (.slice (some ad) L e3) ⟨c.ns ++ [kd], c.ps ++ [(x : Int)], c.hs⟩ W15 := C13.out.put2 (hW15 ▸ blk_put B14.out 1 _ rfl) G15 (hW15 ▸ Kd.R_far HO2.out (fun k hk => hk.1) _) HA2.out
        rw [hW15]
        clear hW15 s14 f14 y1
        replace C15 := Aside0.mk C15
        replace G15 := Aside0.mk G15
        have y2 : W15.cell? ⟨g, 2, none⟩ = some (.slice (some ad) L e3) := (blk_cell C15.out.hb 2).trans rfl
        have hBg : B ≤ W15.heap.size := Nat.le_trans C15.out.lg (Nat.le_of_lt C15.out.g_lt)
        go_wp2_with ((with_reducible refine gate_builtin (b := .append) (xs := #[.tmp 78, .tmp 80]) rfl ?_); at_builtin; refine Row.append (Kd.int .i64) (w0 := W15) B rfl (.tmp 78) (.tmp 80) 32 3 (.int .i64 0) 8 rfl Try.underlying32 info3 rfl (by decide) (by omega) (.slice (some ad) L e3) c.hs (h0 + o + sx) [.int .i64 (h0 + o + sx)] (fun k => k ≠ g ∧ some k ≠ (Value.slice (some ⟨gv, 0, none⟩) (LN + 1) cv).ownBlock ∧ some k ≠ (Value.slice Au Lu cu).ownBlock) (fun _ => False) rfl rfl rfl (fun _ h => h.elim) (fun k hk => C15.out.fresh3 hk) C15.out.r3 (Below.refl _ _) hBg hLh.out ?_; intro u3 w16 ho hb hg hat; obtain ⟨At, ct, et⟩ := Kd.R_slice ho; obtain ⟨Lt, hLt⟩ : ∃ Lt, (c.hs ++ [h0 + o + sx]).length = Lt := ⟨_, rfl⟩; rw [hLt] at et; subst et; replace hLt := Aside0.mk hLt; have b16 := blk_grown C15.out.hb hg (fun e => (C15.out.r3.own g e.symm).1.1 rfl); have s16 : w16.cell? ⟨g, 2, none⟩ = some (.slice (some ad) L e3) := (blk_cell b16 2).trans rfl; have f16 := blk_frozen b16 2; have HO3 := Aside0.mk ho; have HG3 := Aside0.mk hg; have HA3 := Aside0.mk hat; have B16 := Aside0.mk b16; clear ho hb hg hat b16)
        have G17 : Chg (fun k => k = g ∨ some k = (Value.slice (some ad) L e3).ownBlock) W15 (w16.setCell ⟨g, 2, none⟩ (.slice At Lt ct)) := (chg_grown (T := fun k => k = g ∨ some k = (Value.slice (some ad) L e3).ownBlock) HG3.out (fun k hk => .inr hk.symm)).trans (Chg.set (T := fun k => k = g) w16 _ _ rfl) (fun _ _ h => .inl h)
        have C17 := C15.out.put3 (blk_put B16.out 2 (.slice At Lt ct) rfl) G17 (Kd.R_far HO3.out (fun k hk => hk.1) _) HA3.out
        go_ret
        rw [hkd.out]
        exact ⟨rfl, _, _, _, (((Chg.of_below (Mine g (Value.slice A1 LN cc1) v2 (Value.slice (some ad) L e3)) hB5.out).trans G13.out (fun k _ h => h.elim .inl (fun e => .inr (.inl e)))).trans G15.out (fun k _ h => h.elim .inl (fun e => .inr (.inr (.inl e))))).trans G17 (fun k _ h => h.elim .inl (fun e => .inr (.inr (.inr e)))), C17, Mine.new hnew.out HA2.out HA3.out hB5.out.size (Nat.le_trans hB5.out.size G13.out.size) (Nat.le_trans hB5.out.size (Nat.le_trans G13.out.size G15.out.size))⟩
      · have s12 : w12.cell? ⟨g, 0, none⟩ = some (.slice A1 LN cc1) := (blk_cell b12.out 0).trans rfl
        have f12 := blk_frozen b12.out 0
        refine skip_ (w1 := ?_) (by rfl) rfl ?_ ?_
        rotate_left
        · go_simp
          rfl
        refine hK.out _ _ ?_
        clear hK K
        have b14 := blk_put b12.out 0 (.slice (some ⟨gv, 0, none⟩) (LN + 1) cv) rfl
        refine last_ (i := 13) (N := none) #[true, true, true, true, true, true, true, true, true, true, true, true, true, true, true, true, true] rfl rfl (by kernel_rfl) (by decide) (fun K hK => ?_)
        have hoF := Kd.R_far (p := ⟨g, 0, none⟩) ho.out (fun k hk => hk.1) (.slice (some ⟨gv, 0, none⟩) (LN + 1) cv)
        obtain ⟨cz, hczl, _, hczc, _⟩ := Kd.R_elem hoF z26 (LN : Int) hL0 (by omega)
        have hczl7 : cz.length = 7 := hczl
        refine R_store_step k26 B (by rfl) rfl 26 (.tmp 61) (.tmp 57) rfl 26 (g := gv) (n := LN + 1) (cap := cv) (LN : Int) 0 (c.ns ++ [z26]) kd (.agg #[.int .i64 kd.f0, .int .i64 kd.f1, .int .i64 kd.f2, .int .i64 kd.f3, .slice B4 kd.f4.length d4, .string kd.f5, .slice B6 kd.f6.length d6]) [.int .i64 kd.f0, .int .i64 kd.f1, .int .i64 kd.f2, .int .i64 kd.f3, .slice B4 kd.f4.length d4, .string kd.f5, .slice B6 kd.f6.length d6] cz (fun k => k ≠ g ∧ some k ≠ v2.ownBlock ∧ some k ≠ (Value.slice (some ad) L e3).ownBlock) (fun k => (k ≠ g ∧ some k ≠ v2.ownBlock ∧ some k ≠ (Value.slice (some ad) L e3).ownBlock) ∧ k ≠ gv) rfl (by rw [Int.toNat_natCast]; rfl) rfl rfl (by kernel_rfl) (by simp [Value.oneCell']) hoF hL0 (by omega) hczl hczc (Nat.le_refl 7)
          (by rw [show cz.drop (0 + ([.int .i64 kd.f0, .int .i64 kd.f1, .int .i64 kd.f2, .int .i64 kd.f3, .slice B4 kd.f4.length d4, .string kd.f5, .slice B6 kd.f6.length d6] : List Value).length) = [] from List.drop_of_length_le (Nat.le_of_eq hczl7), List.append_nil]; exact k26_mkM _ _ _ kd (Kd.R_far (p := ⟨g, 0, none⟩) k4.out (fun k hk => hk.1.1) _) (Kd.R_far (p := ⟨g, 0, none⟩) k6.out (fun k hk => hk.1.1) _)) (fun k hk => hk) ?_
        intro w13 ho13 hg13
        rw [show (c.ns ++ [z26]).set (LN : Int).toNat kd = c.ns ++ [kd] from set_last hLN.out] at ho13
        have b13 := blk_grown b14 hg13 (fun e => hgg (Option.some.inj e).symm)
        refine hK.out _ _ ?_
        clear hK K
        refine done_ (by kernel_rfl) ?_
        have hchg13 := (hchg.out.trans (Chg.set (T := fun k => k = g) w12 ⟨g, 0, none⟩ (.slice (some ⟨gv, 0, none⟩) (LN + 1) cv) rfl) (fun _ _ h => .inl h)).trans (w2 := w13) (chg_grown (T := fun k => k = gv) hg13 (fun k hk => (Option.some.inj hk).symm)) hgT.out
        have C13 : CurW B g (.slice (some ⟨gv, 0, none⟩) (LN + 1) cv) v2 (.slice (some ad) L e3) ⟨c.ns ++ [kd], c.ps, c.hs⟩ w13 := HW5.out.put1 b13 hchg13 ho13 hnew.out
        have G13 : Chg (fun k => k = g ∨ some k = (Value.slice A1 LN cc1).ownBlock) wr w13 := hchg13
        replace C13 := Aside0.mk C13
        replace G13 := Aside0.mk G13
        have y1 : w13.cell? ⟨g, 1, none⟩ = some v2 := (blk_cell C13.out.hb 1).trans rfl
        have hLp : (c.ps.length + 1) * 8 ≤ 140737488355328 := by rw [hp]; omega
        have hLh : (c.hs.length + 1) * 8 ≤ 140737488355328 := by rw [HH2.out]; omega
        replace hLp := Aside0.mk hLp
        replace hLh := Aside0.mk hLh
        have hBg : B ≤ w13.heap.size := Nat.le_trans C13.out.lg (Nat.le_of_lt C13.out.g_lt)
        go_upto_region 12 with ((with_reducible refine gate_builtin (b := .append) (xs := #[.tmp 68, .tmp 70]) rfl ?_); at_builtin; refine Row.append (Kd.int .i64) (w0 := w13) B rfl (.tmp 68) (.tmp 70) 32 3 (.int .i64 0) 8 rfl Try.underlying32 info3 rfl (by decide) (by omega) v2 c.ps (x : Int) [.int .i64 x] (fun k => k ≠ g ∧ some k ≠ (Value.slice (some ⟨gv, 0, none⟩) (LN + 1) cv).ownBlock ∧ some k ≠ (Value.slice (some ad) L e3).ownBlock) (fun _ => False) rfl rfl rfl (fun _ h => h.elim) (fun k hk => C13.out.fresh2 hk) C13.out.r2 (Below.refl _ _) hBg hLp.out ?_; intro u2 w14 ho hb hg hat; obtain ⟨Au, cu, eu⟩ := Kd.R_slice ho; obtain ⟨Lu, hLu⟩ : ∃ Lu, (c.ps ++ [(x : Int)]).length = Lu := ⟨_, rfl⟩; rw [hLu] at eu; subst eu; replace hLu := Aside0.mk hLu; have b14 := blk_grown C13.out.hb hg (fun e => (C13.out.r2.own g e.symm).1.1 rfl); have s14 : w14.cell? ⟨g, 1, none⟩ = some v2 := (blk_cell b14 1).trans rfl; have f14 := blk_frozen b14 1; have HO2 := Aside0.mk ho; have HG2 := Aside0.mk hg; have HA2 := Aside0.mk hat; have B14 := Aside0.mk b14; clear ho hb hg hat b14)
        obtain ⟨W15, hW15⟩ : ∃ W15, w14.setCell ⟨g, 1, none⟩ (.slice Au Lu cu) = W15 := ⟨_, rfl⟩
        have G15 : Chg (fun k => k = g ∨ some k = v2.ownBlock) w13 W15 := hW15 ▸ (chg_grown (T := fun k => k = g ∨ some k = v2.ownBlock) HG2.out (fun k hk => .inr hk.symm)).trans (Chg.set (T := fun k => k = g) w14 _ _ rfl) (fun _ _ h => .inl h)
        have C15 : CurW B g (.slice (some ⟨gv, 0, none⟩) (LN + 1) cv) (.slice Au Lu cu) (.slice (some ad) L e3) ⟨c.ns ++ [kd], c.ps ++ [(x : Int)], c.hs⟩ W15 := C13.out.put2 (hW15 ▸ blk_put B14.out 1 _ rfl) G15 (hW15 ▸ Kd.R_far HO2.out (fun k hk => hk.1) _) HA2.out
        rw [hW15]
        clear hW15 s14 f14 y1
        replace C15 := Aside0.mk C15
        replace G15 := Aside0.mk G15
        have y2 : W15.cell? ⟨g, 2, none⟩ = some (.slice (some ad) L e3) := (blk_cell C15.out.hb 2).trans rfl
        have hBg : B ≤ W15.heap.size := Nat.le_trans C15.out.lg (Nat.le_of_lt C15.out.g_lt)
        go_wp2_with ((with_reducible refine gate_builtin (b := .append) (xs := #[.tmp 78, .tmp 80]) rfl ?_); at_builtin; refine Row.append (Kd.int .i64) (w0 := W15) B rfl (.tmp 78) (.tmp 80) 32 3 (.int .i64 0) 8 rfl Try.underlying32 info3 rfl (by decide) (by omega) (.slice (some ad) L e3) c.hs (h0 + o + sx) [.int .i64 (h0 + o + sx)] (fun k => k ≠ g ∧ some k ≠ (Value.slice (some ⟨gv, 0, none⟩) (LN + 1) cv).ownBlock ∧ some k ≠ (Value.slice Au Lu cu).ownBlock) (fun _ => False) rfl rfl rfl (fun _ h => h.elim) (fun k hk => C15.out.fresh3 hk) C15.out.r3 (Below.refl _ _) hBg hLh.out ?_; intro u3 w16 ho hb hg hat; obtain ⟨At, ct, et⟩ := Kd.R_slice ho; obtain ⟨Lt, hLt⟩ : ∃ Lt, (c.hs ++ [h0 + o + sx]).length = Lt := ⟨_, rfl⟩; rw [hLt] at et; subst et; replace hLt := Aside0.mk hLt; have b16 := blk_grown C15.out.hb hg (fun e => (C15.out.r3.own g e.symm).1.1 rfl); have s16 : w16.cell? ⟨g, 2, none⟩ = some (.slice (some ad) L e3) := (blk_cell b16 2).trans rfl; have f16 := blk_frozen b16 2; have HO3 := Aside0.mk ho; have HG3 := Aside0.mk hg; have HA3 := Aside0.mk hat; have B16 := Aside0.mk b16; clear ho hb hg hat b16)
        have G17 : Chg (fun k => k = g ∨ some k = (Value.slice (some ad) L e3).ownBlock) W15 (w16.setCell ⟨g, 2, none⟩ (.slice At Lt ct)) := (chg_grown (T := fun k => k = g ∨ some k = (Value.slice (some ad) L e3).ownBlock) HG3.out (fun k hk => .inr hk.symm)).trans (Chg.set (T := fun k => k = g) w16 _ _ rfl) (fun _ _ h => .inl h)
        have C17 := C15.out.put3 (blk_put B16.out 2 (.slice At Lt ct) rfl) G17 (Kd.R_far HO3.out (fun k hk => hk.1) _) HA3.out
        go_ret
        rw [hkd.out]
        exact ⟨rfl, _, _, _, (((Chg.of_below (Mine g (Value.slice A1 LN cc1) v2 (Value.slice (some ad) L e3)) hB5.out).trans G13.out (fun k _ h => h.elim .inl (fun e => .inr (.inl e)))).trans G15.out (fun k _ h => h.elim .inl (fun e => .inr (.inr (.inl e))))).trans G17 (fun k _ h => h.elim .inl (fun e => .inr (.inr (.inr e)))), C17, Mine.new hnew.out HA2.out HA3.out hB5.out.size (Nat.le_trans hB5.out.size G13.out.size) (Nat.le_trans hB5.out.size (Nat.le_trans G13.out.size G15.out.size))⟩
end Go.Proofs.Ytfekpmbecoeijaa.Hand
