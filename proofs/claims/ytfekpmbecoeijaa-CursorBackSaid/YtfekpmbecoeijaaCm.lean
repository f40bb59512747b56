import Derived.Test.YtfekpmbecoeijaaCh
/- The cursor's way up. -/
namespace Go.Proofs.Ytfekpmbecoeijaa.Hand
open Go.RowKit Go.Proofs.YtfekpmbecoeijaaW.PrintWords Go.Proofs.YtfekpmbecoeijaaW.PrintLast Go.Proofs.YtfekpmbecoeijaaW.PrintMore Go.Proofs.Ytfekpmbecoeijaa.Q Go.Proofs.Ytfekpmbecoeijaa.RF
set_option linter.unusedVariables false
set_option linter.unusedSimpArgs false
set_option maxRecDepth 100000

set_option maxHeartbeats 8000000 in
theorem up_none {B g : Nat} {v1 v2 v3 : Value} {c : Cu} {w : World} (hw : CurW B g v1 v2 v3 c w) (hm : c.ps.length = 0) :
    Calls Try.prog 43 #[.pointer (some ⟨g, 0, none⟩)] w fun e w' => e = .returned (.tuple #[.int .i64 0, .bool false]) ∧ w' = w := by
  obtain ⟨A2, c2, e2, h2, C2⟩ := hw.r2.reads
  subst e2
  rw [hm] at hw
  have y1 : w.cell? ⟨g, 1, none⟩ = some (.slice A2 0 c2) := (blk_cell hw.hb 1).trans rfl
  have hwr : IntKind.i64.wrap ((0 : Int) - 1) = -1 := by rw [IntKind.wrap_i64]; omega
  go_enter Try.func43, Try.ntmps43
  go_wp2
  exact bodyPost_ret (results_tmp2 rfl _ _ _) rfl ⟨rfl, rfl⟩
set_option maxHeartbeats 8000000 in
theorem up_calls {B g : Nat} {v1 v2 v3 : Value} {c : Cu} {w : World} (hw : CurW B g v1 v2 v3 c w) (m : Nat) (hm : c.ps.length = m + 1) (hn : c.ns.length = m + 2) (hh : c.hs.length = m + 2) (hm63 : m < 4611686018427387904) :
    Calls Try.prog 43 #[.pointer (some ⟨g, 0, none⟩)] w fun e w' => e = .returned (.tuple #[.int .i64 (rd c.ps (m : Int)), .bool true]) ∧
      ∃ A1 A2 A3 c1 c2 c3, v1 = .slice A1 (m + 2) c1 ∧ v2 = .slice A2 (m + 1) c2 ∧ v3 = .slice A3 (m + 2) c3 ∧ Chg (fun k => k = g) w w' ∧ CurW B g (.slice A1 (m + 1) (m + 1)) (.slice A2 m m) (.slice A3 (m + 1) (m + 1)) ⟨c.ns.take (m + 1), c.ps.take m, c.hs.take (m + 1)⟩ w' := by
  obtain ⟨A1, c1, e1, h1, C1⟩ := hw.r1.reads
  obtain ⟨A2, c2, e2, h2, C2⟩ := hw.r2.reads
  obtain ⟨A3, c3, e3, h3, C3⟩ := hw.r3.reads
  subst e1 e2 e3
  obtain ⟨ad, hA, q0⟩ := Kd.at_int C2 (m : Int) (by omega) (by omega)
  subst hA
  simp only [Int.toNat_natCast] at q0
  obtain ⟨A1', _, k1, K1⟩ := hw.r1.cut (m := m + 1) (by omega)
  obtain ⟨A2', _, k2, K2⟩ := hw.r2.cut (m := m) (by omega)
  obtain ⟨A3', _, k3, K3⟩ := hw.r3.cut (m := m + 1) (by omega)
  obtain rfl : A1 = A1' := by injection k1
  obtain rfl : some ad = A2' := by injection k2
  obtain rfl : A3 = A3' := by injection k3
  clear k1 k2 k3
  rw [hn] at h1
  rw [hm] at h2
  rw [hh] at h3
  have hb := hw.hb
  rw [hn, hm, hh] at hb
  have y0 : w.cell? ⟨g, 0, none⟩ = some (.slice A1 (m + 2) c1) := (blk_cell hb 0).trans rfl
  have y1 : w.cell? ⟨g, 1, none⟩ = some (.slice (some ad) (m + 1) c2) := (blk_cell hb 1).trans rfl
  have y2 : w.cell? ⟨g, 2, none⟩ = some (.slice A3 (m + 2) c3) := (blk_cell hb 2).trans rfl
  have f0 := blk_frozen hb 0
  have f1 := blk_frozen hb 1
  have f2 := blk_frozen hb 2
  have hwr : IntKind.i64.wrap (((m + 1 : Nat) : Int) - 1) = (m : Int) := by rw [IntKind.wrap_i64]; omega
  have hwp : IntKind.i64.wrap ((m : Int) + 1) = ((m + 1 : Nat) : Int) := by rw [IntKind.wrap_i64]; omega
  have i0 : 0 ≤ (m : Int) := by omega
  have i1 : (m : Int) < ((m + 1 : Nat) : Int) := by omega
  replace hb := Aside0.mk hb
  replace K1 := Aside0.mk K1
  replace K2 := Aside0.mk K2
  replace K3 := Aside0.mk K3
  have hlg := hw.lg
  clear C1 C2 C3 hw
  go_enter Try.func43, Try.ntmps43
  go_wp2
  go_region
  go_wp2
  refine bodyPost_ret (results_tmp2 rfl _ _ _) rfl ⟨rfl, A1, some ad, A3, c1, c2, c3, by rw [hn], by rw [hm], by rw [hh], ?_, ?_⟩
  · exact ((((Chg.refl (fun k => k = g) w).trans (Chg.set (T := fun k => k = g) _ ⟨g, 0, none⟩ (.slice A1 (m + 1) (m + 1)) rfl) (fun _ _ h => h)).trans (Chg.set (T := fun k => k = g) _ ⟨g, 1, none⟩ (.slice (some ad) m m) rfl) (fun _ _ h => h)).trans (Chg.set (T := fun k => k = g) _ ⟨g, 2, none⟩ (.slice A3 (m + 1) (m + 1)) rfl) (fun _ _ h => h)).trans (Chg.of_below _ (below_drew1 (Below.refl _ _))) (fun _ _ h => h)
  · have hc := ((((Chg.refl (fun k => k = g) w).trans (Chg.set (T := fun k => k = g) _ ⟨g, 0, none⟩ (.slice A1 (m + 1) (m + 1)) rfl) (fun _ _ h => h)).trans (Chg.set (T := fun k => k = g) _ ⟨g, 1, none⟩ (.slice (some ad) m m) rfl) (fun _ _ h => h)).trans (Chg.set (T := fun k => k = g) _ ⟨g, 2, none⟩ (.slice A3 (m + 1) (m + 1)) rfl) (fun _ _ h => h)).trans (Chg.of_below _ (below_drew1 (Below.refl _ _))) (fun _ _ h => h)
    have st := fun {k : Nat} (h : k ≠ g) (hk : k < w.heap.size) => hc.block k hk h
    exact ⟨blk_drew (blk_put (blk_put (blk_put hb.out 0 _ rfl) 1 _ rfl) 2 _ rfl), hlg, (K1.out.step (fun k hk hlt => st hk.1 hlt)).mono (fun k hk => ⟨hk.1, nown hk.2.1, nown hk.2.2⟩), (K2.out.step (fun k hk hlt => st hk.1 hlt)).mono (fun k hk => ⟨hk.1, nown hk.2.1, nown hk.2.2⟩), (K3.out.step (fun k hk hlt => st hk.1 hlt)).mono (fun k hk => ⟨hk.1, nown hk.2.1, nown hk.2.2⟩)⟩
end Go.Proofs.Ytfekpmbecoeijaa.Hand

/- The cursor's way down, where there is no such child. -/
namespace Go.Proofs.Ytfekpmbecoeijaa.Hand
open Go.RowKit Go.Proofs.YtfekpmbecoeijaaW.PrintWords Go.Proofs.YtfekpmbecoeijaaW.PrintLast Go.Proofs.YtfekpmbecoeijaaW.PrintMore Go.Proofs.Ytfekpmbecoeijaa.Q Go.Proofs.Ytfekpmbecoeijaa.RF
set_option linter.unusedVariables false
set_option linter.unusedSimpArgs false
set_option maxRecDepth 100000

set_option maxHeartbeats 8000000 in
theorem down_none {B g : Nat} {v1 v2 v3 : Value} {c : Cu} {w : World} (hw : CurW B g v1 v2 v3 c w) (m : Nat) (hn : c.ns.length = m + 1) (hm63 : m < 4611686018427387904) (i : Int) (hi : i < 0 ∨ ((rd_T26 c.ns (m : Int)).f6.length : Int) ≤ i) :
    Calls Try.prog 42 #[.pointer (some ⟨g, 0, none⟩), .int .i64 i] w fun e w' => e = .returned (.bool false) ∧ Below w.heap.size w w' := by
  have hu26 := Try.underlying26
  have hnow := now_calls hw m hn hm63
  generalize hnn : rd_T26 c.ns (m : Int) = n at *
  replace hnow := Aside0.mk hnow
  replace hi := Aside0.mk hi
  clear hw
  go_enter Try.func42, Try.ntmps42
  by_cases h0 : i < 0
  · have hb := decide_eq_true h0
    go_wp2_with (go_at_call 41; refine hnow.out.mono ?_; rintro e w2 ⟨A4, c4, A6, c6, rfl, l4, g4, l6, g6, hb2⟩; replace hb2 := Aside0.mk hb2; clear g4 l4 g6 l6)
    go_ret
    exact ⟨rfl, below_alloc hb2.out _⟩
  · have hb := decide_eq_false h0
    have hb3 : decide (i ≥ (n.f6.length : Int)) = true := decide_eq_true (by rcases hi.out with h | h <;> omega)
    have hb4 : decide ((n.f6.length : Int) ≤ i) = true := decide_eq_true (by rcases hi.out with h | h <;> omega)
    go_wp2_with (go_at_call 41; refine hnow.out.mono ?_; rintro e w2 ⟨A4, c4, A6, c6, rfl, l4, g4, l6, g6, hb2⟩; replace hb2 := Aside0.mk hb2; clear g4 l4 g6 l6)
    go_ret
    exact ⟨rfl, below_alloc hb2.out _⟩
end Go.Proofs.Ytfekpmbecoeijaa.Hand

/- An append to a row that is one's own or was cut short. -/
namespace Go.Proofs.Ytfekpmbecoeijaa.Hand
open Go.RowKit Go.Proofs.YtfekpmbecoeijaaW.PrintWords Go.Proofs.YtfekpmbecoeijaaW.PrintLast Go.Proofs.YtfekpmbecoeijaaW.PrintMore Go.Proofs.Ytfekpmbecoeijaa.Q Go.Proofs.Ytfekpmbecoeijaa.RF
set_option linter.unusedVariables false
set_option linter.unusedSimpArgs false

theorem grown_any {w w' : World} {row : Option Nat} (h : w.grownBy w' none) : w.grownBy w' row := ⟨h.os, h.tape, h.output, h.size, fun k hk _ => h.block k hk (by simp)⟩
theorem grown_trans {w w1 w2 : World} (h : w.grownBy w1 none) (k : w1.grownBy w2 none) : w.grownBy w2 none :=
  ⟨k.os.trans h.os, k.tape.trans h.tape, k.output.trans h.output, Nat.le_trans h.size k.size, fun i hi _ => (k.block i (Nat.lt_of_lt_of_le hi h.size) (by simp)).trans (h.block i hi (by simp))⟩
theorem own_holds {w : World} {base e size n c : Nat} {A : Option Addr} {xs : List Value} (h : w.ownsRow base e size (.slice A n c) n xs) : (A = none → n = 0 ∧ c = 0) ∧ ∀ b, A = some b → ∀ j u, xs[j]? = some u → w.cell? (b.add j) = some u := by
  obtain ⟨hl, h⟩ := h
  rcases h with ⟨he, h0⟩ | ⟨g, cap, cur, he, hb, hh, hnc, hcm, hcs, ht⟩
  · injection he with ha hn hc
    subst ha; subst hc
    exact ⟨fun _ => ⟨h0, rfl⟩, fun b hb => by cases hb⟩
  · injection he with ha hn hc
    subst ha; subst hc
    constructor
    · intro e; cases e
    intro b hb' j u hu
    obtain rfl := Option.some.inj hb'
    rw [add_plain, blk_cell hh]
    rw [← ht] at hu
    have := List.getElem?_take (l := cur.toList) (i := n * size) (j := j)
    rw [this] at hu
    split at hu
    · simpa using hu
    · cases hu
section
variable {P : Program} {ops : Array Oper} {o : Oper} {a : Act} {Q : Exit → Act → World → Prop} {Kc : Act → World → Prop} {α : Type}
theorem Row.append_step (d : Kd α) {w0 W : World} (base : Nat) (hgd : o.guard = none) (s x : Operand) (t e : TypeId) (z : Value) (bytes : Nat)
    (ho : o.op = .call { callee := .builtin .append, args := #[s, x], argTypes := #[t, t] })
    (ht : P.underlying t = some (.slice e)) (hinfo : (P.info? e).map (fun i => (i.zero, i.size, i.bytes)) = some (some z, d.sz, bytes)) (hz : z.cells.size = d.sz) (hs0 : 0 < d.sz) (hb0 : 0 < bytes)
    (v : Value) (xs : List α) (p : α) (cs : List Value) (ok okp : Nat → Prop) (hs : a.eval s = v) (hx : a.eval x = .slice (some ⟨W.heap.size, 0, none⟩) 1 1) (hp : d.M W base okp p cs) (hokp : ∀ k, okp k → ok k ∧ some k ≠ v.ownBlock) (hfresh : ∀ k, W.heap.size ≤ k → ok k)
    (HO : Row d e base ok v xs W) (HB : Below base w0 W) (hbase : base ≤ W.heap.size) (hl : (xs.length + 1) * bytes ≤ 140737488355328)
    (h : ∀ v1 w1, d.R e w1 base ok v1 (xs ++ [p]) → Below base w0 w1 → W.grownBy w1 v.ownBlock → (v1.ownBlock = v.ownBlock ∨ ∃ b, v1.ownBlock = some b ∧ W.heap.size ≤ b) → Kc (a.put o.dst v1) w1) :
    if Region.wanted o (yielded ops a.tmps) = true then Oper.wp P o a (W.alloc (.cells cs.toArray e)) Kc Q else Kc (a.put o.dst undef) (W.alloc (.cells cs.toArray e)) := by
  have hw : Region.wanted o (yielded ops a.tmps) = true := by simp [Region.wanted, hgd]
  obtain ⟨A, c, c0, rfl, hc, hR⟩ := HO
  rcases hc with rfl | rfl
  · exact Kd.R_append_step d base hw s x t e z bytes ho ht hinfo hz hs0 hb0 _ xs p cs ok okp hs hx hp hokp hfresh hR HB hbase hl h
  · obtain ⟨hok0, inner, hown, hr⟩ := hR
    obtain ⟨i0, hi, hzz⟩ := Option.map_eq_some_iff.1 hinfo
    simp only [Prod.mk.injEq] at hzz
    obtain ⟨hz0, hz1, hz2⟩ := hzz
    have hcl := d.K_len (d.K_of_M hp)
    obtain ⟨hn1, hn2⟩ := own_holds (hown.alloc (.cells cs.toArray e))
    have hx1 : xs.length + 1 ≤ 140737488355328 := Nat.le_trans (Nat.le_mul_of_pos_right _ hb0) hl
    refine step_append_full (W.alloc (.cells cs.toArray e)) hgd s x t ho e i0 z d.sz bytes ht hi hz0 hz1 hz2 hz hs0 A xs.length xs.length inner hs (fun e => ⟨(hn1 e).1, (hn1 e).1⟩) hown.1 hn2 ⟨W.heap.size, 0, none⟩ 1 1 cs hx (by rw [hcl, Nat.one_mul]) (fun j u hu => ?_) (d.K_one (d.K_of_M hp)) (by decide) (by omega) (by simp only [maxLen]; omega) hl ?_
    · rw [add_plain, blk_cell (blk_new W (.cells cs.toArray e))]
      simpa using hu
    · intro g c' w1 hown1 hg1 hge hlt
      have hg2 : W.grownBy w1 none := grown_trans (World.grownBy_alloc W _ none) hg1
      have hsz : (W.alloc (.cells cs.toArray e)).heap.size = W.heap.size + 1 := World.size_alloc _ _
      have ho1 : (Value.slice A xs.length xs.length).ownBlock = (Value.slice A xs.length c0).ownBlock := by cases A <;> rfl
      refine h _ w1 (Kd.R_appended (v := .slice A xs.length c0) hok0 hr hp (fun k hk => by rw [← ho1]; exact hokp k hk) hfresh (own_weaken hown1 (by omega)) (grown_any hg2) (.inr ⟨g, rfl, by omega⟩)) ?_ (grown_any hg2) (.inr ⟨g, rfl, by omega⟩)
      exact pw_below_grown HB _ hbase hg2 (fun k e => by cases e)
end
end Go.Proofs.Ytfekpmbecoeijaa.Hand

/- A cursor of which one row has been written anew. -/
namespace Go.Proofs.Ytfekpmbecoeijaa.Hand
open Go.RowKit Go.Proofs.YtfekpmbecoeijaaW.PrintWords Go.Proofs.YtfekpmbecoeijaaW.PrintLast Go.Proofs.YtfekpmbecoeijaaW.PrintMore Go.Proofs.Ytfekpmbecoeijaa.Q Go.Proofs.Ytfekpmbecoeijaa.RF
set_option linter.unusedVariables false
set_option linter.unusedSimpArgs false

section
variable {P : Program} {ops : Array Oper} {Q : Exit → Act → World → Prop} {a : Act} {w : World} {rest : List Oper} {o : Oper} {α : Type}
theorem Row.append (d : Kd α) {w0 W : World} (base : Nat) (hgd : o.guard = none) (s x : Operand) (t e : TypeId) (z : Value) (bytes : Nat)
    (ho : o.op = .call { callee := .builtin .append, args := #[s, x], argTypes := #[t, t] })
    (ht : P.underlying t = some (.slice e)) (hinfo : (P.info? e).map (fun i => (i.zero, i.size, i.bytes)) = some (some z, d.sz, bytes)) (hz : z.cells.size = d.sz) (hs0 : 0 < d.sz) (hb0 : 0 < bytes)
    (v : Value) (xs : List α) (p : α) (cs : List Value) (ok okp : Nat → Prop) (hs : a.eval s = v) (hx : a.eval x = .slice (some ⟨W.heap.size, 0, none⟩) 1 1) (hp : d.M W base okp p cs) (hokp : ∀ k, okp k → ok k ∧ some k ≠ v.ownBlock) (hfresh : ∀ k, W.heap.size ≤ k → ok k)
    (HO : Row d e base ok v xs W) (HB : Below base w0 W) (hbase : base ≤ W.heap.size) (hl : (xs.length + 1) * bytes ≤ 140737488355328)
    (h : ∀ v1 w1, d.R e w1 base ok v1 (xs ++ [p]) → Below base w0 w1 → W.grownBy w1 v.ownBlock → (v1.ownBlock = v.ownBlock ∨ ∃ b, v1.ownBlock = some b ∧ W.heap.size ≤ b) → wpList P ops Q rest (a.put o.dst v1) w1) :
    wpList P ops Q (o :: rest) a (W.alloc (.cells cs.toArray e)) :=
  wpList_step fun K hK => Row.append_step (w0 := w0) d base hgd s x t e z bytes ho ht hinfo hz hs0 hb0 v xs p cs ok okp hs hx hp hokp hfresh HO HB hbase hl fun v1 w1 h1 h2 h3 h4 => hK _ _ (h v1 w1 h1 h2 h3 h4)
end
section
variable {α : Type} {d : Kd α} {e B : Nat} {W W' : World} {ok ok' : Nat → Prop} {v : Value} {xs : List α}
theorem Row.bound (h : Row d e B ok v xs W) : Row d e B (fun k => ok k ∧ B ≤ k ∧ k < W.heap.size) v xs W := by
  obtain ⟨A, c, c0, rfl, hc, hR⟩ := h
  exact ⟨A, c, c0, rfl, hc, Kd.R_mono (Kd.R_bound hR) (fun k hk => ⟨hk.1, hk.2.1, hk.2.2.1⟩)⟩
end
/-- A row's block after an append. -/
def New (W : World) (u v : Value) : Prop := u.ownBlock = v.ownBlock ∨ ∃ b, u.ownBlock = some b ∧ W.heap.size ≤ b
theorem New.ne {W : World} {u v : Value} (h : New W u v) {k : Nat} (hk : k < W.heap.size) (hv : some k ≠ v.ownBlock) : some k ≠ u.ownBlock := by
  rcases h with h | ⟨b, h, hb⟩
  · rw [h]; exact hv
  · rw [h]; intro e; injection e with e; omega
section
variable {B g : Nat} {v1 v2 v3 u : Value} {c : Cu} {W W' : World}
theorem CurW.g_lt (h : CurW B g v1 v2 v3 c W) : g < W.heap.size := blk_lt h.hb
theorem CurW.fresh1 (h : CurW B g v1 v2 v3 c W) {k : Nat} (hk : W.heap.size ≤ k) : k ≠ g ∧ some k ≠ v2.ownBlock ∧ some k ≠ v3.ownBlock :=
  ⟨by have := h.g_lt; omega, fun e => by have := (h.r2.own k e.symm).2.2; omega, fun e => by have := (h.r3.own k e.symm).2.2; omega⟩
theorem CurW.fresh2 (h : CurW B g v1 v2 v3 c W) {k : Nat} (hk : W.heap.size ≤ k) : k ≠ g ∧ some k ≠ v1.ownBlock ∧ some k ≠ v3.ownBlock :=
  ⟨by have := h.g_lt; omega, fun e => by have := (h.r1.own k e.symm).2.2; omega, fun e => by have := (h.r3.own k e.symm).2.2; omega⟩
theorem CurW.fresh3 (h : CurW B g v1 v2 v3 c W) {k : Nat} (hk : W.heap.size ≤ k) : k ≠ g ∧ some k ≠ v1.ownBlock ∧ some k ≠ v2.ownBlock :=
  ⟨by have := h.g_lt; omega, fun e => by have := (h.r1.own k e.symm).2.2; omega, fun e => by have := (h.r2.own k e.symm).2.2; omega⟩
theorem CurW.put1 (h : CurW B g v1 v2 v3 c W) {ns : List S26} (hb : W'.heap[g]? = some (.cells #[u, v2, v3] 61 (0, 0))) (hc : Chg (fun k => k = g ∨ some k = v1.ownBlock) W W')
    (hR : k26.R 26 W' B (fun k => k ≠ g ∧ some k ≠ v2.ownBlock ∧ some k ≠ v3.ownBlock) u ns) (hu : New W u v1) : CurW B g u v2 v3 ⟨ns, c.ps, c.hs⟩ W' := by
  have st := fun {k : Nat} (h1 : k ≠ g) (h2 : some k ≠ v1.ownBlock) (hk : k < W.heap.size) => hc.block k hk (fun h => h.elim h1 h2)
  exact ⟨hb, h.lg, .of hR, (h.r2.bound.step (fun k hk hlt => st hk.1.1 hk.1.2.1 hlt)).mono (fun k hk => ⟨hk.1.1, hu.ne hk.2.2 hk.1.2.1, hk.1.2.2⟩), (h.r3.bound.step (fun k hk hlt => st hk.1.1 hk.1.2.1 hlt)).mono (fun k hk => ⟨hk.1.1, hu.ne hk.2.2 hk.1.2.1, hk.1.2.2⟩)⟩
theorem CurW.put2 (h : CurW B g v1 v2 v3 c W) {ps : List Int} (hb : W'.heap[g]? = some (.cells #[v1, u, v3] 61 (0, 0))) (hc : Chg (fun k => k = g ∨ some k = v2.ownBlock) W W')
    (hR : (Kd.int .i64).R 3 W' B (fun k => k ≠ g ∧ some k ≠ v1.ownBlock ∧ some k ≠ v3.ownBlock) u ps) (hu : New W u v2) : CurW B g v1 u v3 ⟨c.ns, ps, c.hs⟩ W' := by
  have st := fun {k : Nat} (h1 : k ≠ g) (h2 : some k ≠ v2.ownBlock) (hk : k < W.heap.size) => hc.block k hk (fun h => h.elim h1 h2)
  exact ⟨hb, h.lg, (h.r1.bound.step (fun k hk hlt => st hk.1.1 hk.1.2.1 hlt)).mono (fun k hk => ⟨hk.1.1, hu.ne hk.2.2 hk.1.2.1, hk.1.2.2⟩), .of hR, (h.r3.bound.step (fun k hk hlt => st hk.1.1 hk.1.2.2 hlt)).mono (fun k hk => ⟨hk.1.1, hk.1.2.1, hu.ne hk.2.2 hk.1.2.2⟩)⟩
theorem CurW.put3 (h : CurW B g v1 v2 v3 c W) {hs : List Int} (hb : W'.heap[g]? = some (.cells #[v1, v2, u] 61 (0, 0))) (hc : Chg (fun k => k = g ∨ some k = v3.ownBlock) W W')
    (hR : (Kd.int .i64).R 3 W' B (fun k => k ≠ g ∧ some k ≠ v1.ownBlock ∧ some k ≠ v2.ownBlock) u hs) (hu : New W u v3) : CurW B g v1 v2 u ⟨c.ns, c.ps, hs⟩ W' := by
  have st := fun {k : Nat} (h1 : k ≠ g) (h2 : some k ≠ v3.ownBlock) (hk : k < W.heap.size) => hc.block k hk (fun h => h.elim h1 h2)
  exact ⟨hb, h.lg, (h.r1.bound.step (fun k hk hlt => st hk.1.1 hk.1.2.2 hlt)).mono (fun k hk => ⟨hk.1.1, hk.1.2.1, hu.ne hk.2.2 hk.1.2.2⟩), (h.r2.bound.step (fun k hk hlt => st hk.1.1 hk.1.2.2 hlt)).mono (fun k hk => ⟨hk.1.1, hk.1.2.1, hu.ne hk.2.2 hk.1.2.2⟩), .of hR⟩
theorem chg_grown {T : Nat → Prop} {row : Option Nat} (h : W.grownBy W' row) (hT : ∀ k, row = some k → T k) : Chg T W W' := ⟨h.os, h.tape, h.output, h.size, fun k hk hn => h.block k hk (fun e => hn (hT k e.symm))⟩
end
/-- What a cursor's move leaves: only the cursor's own blocks and new ones are written. -/
def Moved (B g : Nat) (v1 v2 v3 : Value) (w : World) (c : Cu) (w' : World) : Prop :=
  ∃ u1 u2 u3, Chg (Mine g v1 v2 v3) w w' ∧ CurW B g u1 u2 u3 c w' ∧ ∀ k, Mine g u1 u2 u3 k → Mine g v1 v2 v3 k ∨ w.heap.size ≤ k
theorem Mine.new {g : Nat} {v1 v2 v3 u1 u2 u3 : Value} {w w1 w2 w3 : World} (h1 : New w1 u1 v1) (h2 : New w2 u2 v2) (h3 : New w3 u3 v3) (l1 : w.heap.size ≤ w1.heap.size) (l2 : w.heap.size ≤ w2.heap.size) (l3 : w.heap.size ≤ w3.heap.size) :
    ∀ k, Mine g u1 u2 u3 k → Mine g v1 v2 v3 k ∨ w.heap.size ≤ k := by
  have go : ∀ {W : World} {u v : Value} {k : Nat}, New W u v → w.heap.size ≤ W.heap.size → some k = u.ownBlock → some k = v.ownBlock ∨ w.heap.size ≤ k := by
    intro W u v k h l e
    rcases h with h | ⟨b, h, hb⟩
    · exact .inl (e.trans h)
    · rw [h] at e; injection e with e; exact .inr (by omega)
  rintro k (rfl | h | h | h)
  · exact .inl (.inl rfl)
  · exact (go h1 l1 h).imp (fun e => .inr (.inl e)) id
  · exact (go h2 l2 h).imp (fun e => .inr (.inr (.inl e))) id
  · exact (go h3 l3 h).imp (fun e => .inr (.inr (.inr e))) id
theorem Moved.trans {B g : Nat} {v1 v2 v3 u1 u2 u3 : Value} {w w1 w2 : World} {c : Cu} (h1 : Chg (Mine g v1 v2 v3) w w1) (h2 : ∀ k, Mine g u1 u2 u3 k → Mine g v1 v2 v3 k ∨ w.heap.size ≤ k) (h : Moved B g u1 u2 u3 w1 c w2) : Moved B g v1 v2 v3 w c w2 := by
  obtain ⟨t1, t2, t3, h3, h4, h5⟩ := h
  refine ⟨t1, t2, t3, h1.trans h3 (fun k hk h => (h2 k h).elim id (fun hl => by omega)), h4, fun k hk => ?_⟩
  rcases h5 k hk with h | h
  · exact h2 k h
  · exact .inr (Nat.le_trans h1.size h)
theorem Moved.of {B g : Nat} {v1 v2 v3 : Value} {w w' : World} {c : Cu} (h : CurW B g v1 v2 v3 c w) (hb : Below w.heap.size w w') : Moved B g v1 v2 v3 w c w' := ⟨v1, v2, v3, Chg.of_below _ hb, h.below hb, fun k hk => .inl hk⟩
end Go.Proofs.Ytfekpmbecoeijaa.Hand
