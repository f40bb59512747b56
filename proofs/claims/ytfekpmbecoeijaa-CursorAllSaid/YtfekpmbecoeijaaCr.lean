import Derived.Test.YtfekpmbecoeijaaCk
/- The cursor's moves: Down, Up. -/
namespace Go.Proofs.Ytfekpmbecoeijaa.Hand
open Go.RowKit Go.Proofs.YtfekpmbecoeijaaW.PrintWords Go.Proofs.YtfekpmbecoeijaaW.PrintLast Go.Proofs.YtfekpmbecoeijaaW.PrintMore Go.Proofs.Ytfekpmbecoeijaa.Q Go.Proofs.Ytfekpmbecoeijaa.RF
set_option linter.unusedVariables false
set_option linter.unusedSimpArgs false
set_option maxRecDepth 100000

/-- A cursor's three rows fit one another. -/
def Cu.ok (c : Cu) : Prop := c.ns.length = c.ps.length + 1 ∧ c.hs.length = c.ps.length + 1 ∧ c.ps.length < 1000000
instance (c : Cu) : Decidable c.ok := inferInstanceAs (Decidable (_ ∧ _ ∧ _))
/-- The node where a cursor stands, its offset. -/
def Cu.now (c : Cu) : S26 := rd_T26 c.ns (c.ps.length : Int)
def Cu.at_ (c : Cu) : Int := rd c.hs (c.ps.length : Int)
def downF (fu : Nat) (c : Cu) (i : Int) : Option (Bool × Cu) :=
  if c.ok then
    if i < 0 ∨ (c.now.f6.length : Int) ≤ i then some (false, c)
    else if c.now.f6.length < 4611686018427387904 then (offF fu c.at_ c.now i.toNat).map fun a => (true, ⟨c.ns ++ [rd_T26 c.now.f6 i], c.ps ++ [i], c.hs ++ [a]⟩)
    else none
  else none
theorem downF_false {fu : Nat} {c c' : Cu} {i : Int} (h : downF fu c i = some (false, c')) : c' = c ∧ c.ok ∧ (i < 0 ∨ (c.now.f6.length : Int) ≤ i) := by
  unfold downF at h
  split at h
  · rename_i hk
    split at h
    · rename_i hi
      have h := Option.some.inj h
      exact ⟨(Prod.mk.inj h).2.symm, hk, hi⟩
    · split at h
      · obtain ⟨a, _, h⟩ := Option.map_eq_some_iff.1 h
        cases h
      · cases h
  · cases h
theorem downF_true {fu : Nat} {c c' : Cu} {i : Int} (h : downF fu c i = some (true, c')) : ∃ (j : Nat) (a : Int), i = (j : Int) ∧ j < c.now.f6.length ∧ c.now.f6.length < 4611686018427387904 ∧ offF fu c.at_ c.now j = some a ∧ c' = ⟨c.ns ++ [rd_T26 c.now.f6 (j : Int)], c.ps ++ [(j : Int)], c.hs ++ [a]⟩ ∧ c.ok := by
  unfold downF at h
  split at h
  · rename_i hk
    split at h
    · have h := Option.some.inj h
      cases h
    · rename_i hi
      split at h
      · rename_i hl
        obtain ⟨a, ha, h⟩ := Option.map_eq_some_iff.1 h
        have hj : i = ((i.toNat : Nat) : Int) := by omega
        refine ⟨i.toNat, a, hj, by omega, hl, ha, ?_, hk⟩
        rw [← hj]
        exact (Prod.mk.inj h).2.symm
      · cases h
  · cases h
theorem down_F {B g : Nat} {v1 v2 v3 : Value} {c : Cu} {w : World} (hw : CurW B g v1 v2 v3 c w) (hBw : B ≤ w.heap.size) (fu : Nat) (i : Int) (b : Bool) (c' : Cu) (h : downF fu c i = some (b, c')) :
    Calls Try.prog 42 #[.pointer (some ⟨g, 0, none⟩), .int .i64 i] w fun e w' => e = .returned (.bool b) ∧ Moved B g v1 v2 v3 w c' w' := by
  cases b with
  | false =>
    obtain ⟨rfl, hk, hi⟩ := downF_false h
    refine (down_none hw c'.ps.length hk.1 (by have := hk.2.2; omega) i hi).mono ?_
    rintro e w' ⟨rfl, hb⟩
    exact ⟨rfl, .of hw hb⟩
  | true =>
    obtain ⟨j, a, rfl, hj, hl, ha, rfl, hk⟩ := downF_true h
    exact down_calls hw hBw c.ps.length hk.1 hk.2.1 rfl hk.2.2 fu j hj hl a ha

set_option maxHeartbeats 8000000 in
theorem Down_nil (i : Int) (w : World) : Calls Try.prog 21 #[.pointer none, .int .i64 i] w fun e w' => e = .returned (.bool false) ∧ w' = w := by
  go_enter Try.func21, Try.ntmps21
  go_wp2
  go_ret
  exact ⟨rfl, rfl⟩
set_option maxHeartbeats 8000000 in
theorem Down_calls {B g : Nat} {v1 v2 v3 : Value} {c : Cu} {w : World} (hw : CurW B g v1 v2 v3 c w) (hBw : B ≤ w.heap.size) (fu : Nat) (i : Int) (b : Bool) (c' : Cu) (h : downF fu c i = some (b, c')) :
    Calls Try.prog 21 #[.pointer (some ⟨g, 0, none⟩), .int .i64 i] w fun e w' => e = .returned (.bool b) ∧ Moved B g v1 v2 v3 w c' w' := by
  have hd := down_F hw hBw fu i b c' h
  replace hd := Aside0.mk hd
  clear hw h
  go_enter Try.func21, Try.ntmps21
  go_wp2_with (go_at_call 42; refine hd.out.mono ?_; rintro e w2 ⟨rfl, hm⟩; replace hm := Aside0.mk hm)
  go_ret
  exact ⟨rfl, hm.out⟩
/-- The cursor behind a move up. -/
def Cu.up (c : Cu) : Cu := ⟨c.ns.take c.ps.length, c.ps.take (c.ps.length - 1), c.hs.take c.ps.length⟩
set_option maxHeartbeats 8000000 in
theorem Up_nil (w : World) : Calls Try.prog 22 #[.pointer none] w fun e w' => e = .returned (.bool false) ∧ w' = w := by
  go_enter Try.func22, Try.ntmps22
  go_wp2
  go_ret
  exact ⟨rfl, rfl⟩
set_option maxHeartbeats 8000000 in
theorem Up_none {B g : Nat} {v1 v2 v3 : Value} {c : Cu} {w : World} (hw : CurW B g v1 v2 v3 c w) (hm : c.ps.length = 0) : Calls Try.prog 22 #[.pointer (some ⟨g, 0, none⟩)] w fun e w' => e = .returned (.bool false) ∧ w' = w := by
  have hd := up_none hw hm
  replace hd := Aside0.mk hd
  clear hw
  go_enter Try.func22, Try.ntmps22
  go_wp2_with (go_at_call 43; refine hd.out.mono ?_; rintro e w2 ⟨rfl, rfl⟩)
  go_ret
  exact ⟨rfl, rfl⟩
theorem up_moved {B g : Nat} {v1 v2 v3 : Value} {c : Cu} {w : World} (hw : CurW B g v1 v2 v3 c w) (hk : c.ok) (m : Nat) (hm : c.ps.length = m + 1) :
    Calls Try.prog 43 #[.pointer (some ⟨g, 0, none⟩)] w fun e w' => e = .returned (.tuple #[.int .i64 (rd c.ps (m : Int)), .bool true]) ∧ Moved B g v1 v2 v3 w c.up w' := by
  obtain ⟨h1, h2, h3⟩ := hk
  refine (up_calls hw m hm (by omega) (by omega) (by omega)).mono ?_
  rintro e w' ⟨rfl, A1, A2, A3, c1, c2, c3, rfl, rfl, rfl, hc, hC⟩
  refine ⟨rfl, _, _, _, hc.mono (fun k _ h => .inl h), (by unfold Cu.up; rw [hm]; exact hC), ?_⟩
  have e : ∀ {A : Option Addr} {a b c d : Nat}, (Value.slice A a b).ownBlock = (Value.slice A c d).ownBlock := by intro A a b c d; cases A <;> rfl
  rintro k (h | h | h | h)
  · exact .inl (.inl h)
  · exact .inl (.inr (.inl (h.trans e)))
  · exact .inl (.inr (.inr (.inl (h.trans e))))
  · exact .inl (.inr (.inr (.inr (h.trans e))))
set_option maxHeartbeats 8000000 in
theorem Up_calls {B g : Nat} {v1 v2 v3 : Value} {c : Cu} {w : World} (hw : CurW B g v1 v2 v3 c w) (hk : c.ok) (m : Nat) (hm : c.ps.length = m + 1) :
    Calls Try.prog 22 #[.pointer (some ⟨g, 0, none⟩)] w fun e w' => e = .returned (.bool true) ∧ Moved B g v1 v2 v3 w c.up w' := by
  have hd := up_moved hw hk m hm
  replace hd := Aside0.mk hd
  clear hw
  go_enter Try.func22, Try.ntmps22
  go_wp2_with (go_at_call 43; refine hd.out.mono ?_; rintro e w2 ⟨rfl, hm⟩; replace hm := Aside0.mk hm)
  go_ret
  exact ⟨rfl, hm.out⟩
end Go.Proofs.Ytfekpmbecoeijaa.Hand

/- The cursor's move to the next node. -/
namespace Go.Proofs.Ytfekpmbecoeijaa.Hand
open Go.RowKit Go.Proofs.YtfekpmbecoeijaaW.PrintWords Go.Proofs.YtfekpmbecoeijaaW.PrintLast Go.Proofs.YtfekpmbecoeijaaW.PrintMore Go.Proofs.Ytfekpmbecoeijaa.Q Go.Proofs.Ytfekpmbecoeijaa.RF
set_option linter.unusedVariables false
set_option linter.unusedSimpArgs false
set_option maxRecDepth 100000

/-- Up until there is a next child. -/
def nextUp (fu : Nat) : Nat → Cu → Option (Bool × Cu)
  | 0, _ => none
  | s + 1, c => if c.ps.length = 0 then some (false, c)
    else if -1 ≤ rd c.ps ((c.ps.length - 1 : Nat) : Int) ∧ rd c.ps ((c.ps.length - 1 : Nat) : Int) < 4611686018427387904 ∧ c.ok then
      (downF fu c.up (rd c.ps ((c.ps.length - 1 : Nat) : Int) + 1)).bind fun r => if r.1 then some r else nextUp fu s c.up
    else none
def nextF (fu : Nat) (c : Cu) : Option (Bool × Cu) :=
  (downF fu c 0).bind fun r => if r.1 then some r else (nextUp fu (c.ps.length + 1) c).map fun r => if r.1 then r else (false, c)

theorem own_cut {A : Option Addr} {a b c d : Nat} : (Value.slice A a b).ownBlock = (Value.slice A c d).ownBlock := by cases A <;> rfl
/-- Only the cursor's block has been written: its rows are as they were. -/
theorem CurW.back {B g : Nat} {v1 v2 v3 u1 u2 u3 : Value} {c c' : Cu} {w w' : World} (h : CurW B g v1 v2 v3 c w) (hc : Chg (fun k => k = g) w w') (hb : w'.heap[g]? = some (.cells #[v1, v2, v3] 61 (0, 0))) : CurW B g v1 v2 v3 c w' :=
  ⟨hb, h.lg, h.r1.step (fun k hk hlt => hc.block k hlt hk.1), h.r2.step (fun k hk hlt => hc.block k hlt hk.1), h.r3.step (fun k hk hlt => hc.block k hlt hk.1)⟩

set_option maxHeartbeats 8000000 in
theorem Next_nil (w : World) : Calls Try.prog 23 #[.pointer none] w fun e w' => e = .returned (.bool false) ∧ w' = w := by
  go_enter Try.func23, Try.ntmps23
  go_wp2
  go_ret
  exact ⟨rfl, rfl⟩
set_option maxHeartbeats 8000000 in
theorem Next_calls {B g : Nat} {v1 v2 v3 : Value} {c : Cu} {w : World} (hw : CurW B g v1 v2 v3 c w) (hBw : B ≤ w.heap.size) (fu : Nat) (b : Bool) (c' : Cu) (h : nextF fu c = some (b, c')) :
    Calls Try.prog 23 #[.pointer (some ⟨g, 0, none⟩)] w fun e w' => e = .returned (.bool b) ∧ Moved B g v1 v2 v3 w c' w' := by
  unfold nextF at h
  obtain ⟨⟨b1, c1⟩, hd, h⟩ := Option.bind_eq_some_iff.1 h
  cases b1 with
  | true =>
    rw [if_pos rfl] at h
    obtain ⟨rfl, rfl⟩ := Prod.mk.inj (Option.some.inj h)
    have hd := down_F hw hBw fu 0 _ _ hd
    replace hd := Aside0.mk hd
    clear hw h
    go_enter Try.func23, Try.ntmps23
    go_wp2_with (go_at_call 42; refine hd.out.mono ?_; rintro e w2 ⟨rfl, hm⟩; replace hm := Aside0.mk hm)
    go_ret
    exact ⟨rfl, hm.out⟩
  | false =>
    rw [if_neg (by simp)] at h
    obtain ⟨⟨b2, c2⟩, hup, h⟩ := Option.map_eq_some_iff.1 h
    obtain ⟨rfl, hk, hi⟩ := downF_false hd
    have hn := down_none hw c1.ps.length hk.1 (by have := hk.2.2; omega) 0 hi
    replace hn := Aside0.mk hn
    replace hup := Aside0.mk hup
    replace h := Aside0.mk h
    obtain ⟨A1, d1, e1, _, _⟩ := hw.r1.reads
    obtain ⟨A2, d2, e2, _, _⟩ := hw.r2.reads
    obtain ⟨A3, d3, e3, _, _⟩ := hw.r3.reads
    generalize hl1 : c1.ns.length = l1 at e1
    generalize hl2 : c1.ps.length = l2 at e2
    generalize hl3 : c1.hs.length = l3 at e3
    subst e1 e2 e3
    replace hl1 := Aside0.mk hl1
    replace hl2 := Aside0.mk hl2
    replace hl3 := Aside0.mk hl3
    replace hw := Aside0.mk hw
    replace hk := Aside0.mk hk
    clear hd hi
    go_enter Try.func23, Try.ntmps23
    go_upto_region 5 with (go_at_call 42; refine hn.out.mono ?_; rintro e w2 ⟨rfl, hb2⟩; replace hb2 := Aside0.mk hb2)
    have HW2 := hw.out.below hb2.out
    have y0 : w2.cell? ⟨g, 0, none⟩ = some (.slice A1 l1 d1) := (blk_cell HW2.hb 0).trans rfl
    have y1 : w2.cell? ⟨g, 1, none⟩ = some (.slice A2 l2 d2) := (blk_cell HW2.hb 1).trans rfl
    have y2 : w2.cell? ⟨g, 2, none⟩ = some (.slice A3 l3 d3) := (blk_cell HW2.hb 2).trans rfl
    replace HW2 := Aside0.mk HW2
    go_wp2
    obtain ⟨w3, hw3⟩ : ∃ w3, w2.alloc (.cells #[.slice A1 l1 d1, .slice A2 l2 d2, .slice A3 l3 d3] 59) = w3 := ⟨_, rfl⟩
    have hb3 : Below w.heap.size w w3 := hw3 ▸ below_alloc hb2.out _
    have hx3 : w3.heap[w2.heap.size]? = some (.cells #[.slice A1 l1 d1, .slice A2 l2 d2, .slice A3 l3 d3] 59 (0, 0)) := hw3 ▸ blk_new _ _
    have HW3 := hw.out.below hb3
    have hgx : w2.heap.size ≠ g := by have := HW2.out.g_lt; omega
    rw [hw3]
    clear hw3 y0 y1 y2
    replace hx3 := Aside0.mk hx3
    replace HW3 := Aside0.mk HW3
    replace hb3 := Aside0.mk hb3
    go_loopg [] c1.ps.length (fun mm wr => ∃ cc u1 u2 u3, Aside0 (CurW B g u1 u2 u3 cc wr ∧ Chg (fun k => k = g) w3 wr ∧ cc.ok ∧ nextUp fu (mm + 1) cc = some (b2, c2) ∧ u1.ownBlock = (Value.slice A1 l1 d1).ownBlock ∧ u2.ownBlock = (Value.slice A2 l2 d2).ownBlock ∧ u3.ownBlock = (Value.slice A3 l3 d3).ownBlock))
    case atStart => exact ⟨c1, _, _, _, ⟨HW3.out, Chg.refl _ _, hk.out, hup.out, rfl, rfl, rfl⟩⟩
    case round =>
      obtain ⟨cc, u1, u2, u3, hv⟩ := hrel
      obtain ⟨hC, hG, hok, hnx, o1, o2, o3⟩ := hv.out
      unfold nextUp at hnx
      by_cases hz : cc.ps.length = 0
      · rw [if_pos hz] at hnx
        obtain ⟨rfl, rfl⟩ := Prod.mk.inj (Option.some.inj hnx)
        have hN := up_none hC hz
        replace hN := Aside0.mk hN
        have hxr := hG.same hx3.out hgx
        have x0 : wr.cell? ⟨w2.heap.size, 0, none⟩ = some (.slice A1 l1 d1) := (blk_cell hxr 0).trans rfl
        have x1 : wr.cell? ⟨w2.heap.size, 1, none⟩ = some (.slice A2 l2 d2) := (blk_cell hxr 1).trans rfl
        have x2 : wr.cell? ⟨w2.heap.size, 2, none⟩ = some (.slice A3 l3 d3) := (blk_cell hxr 2).trans rfl
        obtain ⟨B1, e1, q1, _, _⟩ := hC.r1.reads
        obtain ⟨B2, e2, q2, _, _⟩ := hC.r2.reads
        obtain ⟨B3, e3, q3, _, _⟩ := hC.r3.reads
        have z0 : wr.cell? ⟨g, 0, none⟩ = some u1 := (blk_cell hC.hb 0).trans rfl
        have z1 : wr.cell? ⟨g, 1, none⟩ = some u2 := (blk_cell hC.hb 1).trans rfl
        have z2 : wr.cell? ⟨g, 2, none⟩ = some u3 := (blk_cell hC.hb 2).trans rfl
        have f0 := blk_frozen hC.hb 0
        have f1 := blk_frozen hC.hb 1
        have f2 := blk_frozen hC.hb 2
        replace hC := Aside0.mk hC
        replace hG := Aside0.mk hG
        replace hok := Aside0.mk hok
        replace hz := Aside0.mk hz
        clear hxr q1 q2 q3 o1 o2 o3 hnx
        go_wp2_with (go_at_call 43; refine hN.out.mono ?_; rintro e w4 ⟨rfl, rfl⟩)
        obtain ⟨rfl, rfl⟩ := Prod.mk.inj h.out
        have hE := ((hG.out.trans (Chg.set (T := fun k => k = g) _ ⟨g, 0, none⟩ (.slice A1 l1 d1) rfl) (fun _ _ h => h)).trans (Chg.set (T := fun k => k = g) _ ⟨g, 1, none⟩ (.slice A2 l2 d2) rfl) (fun _ _ h => h)).trans (Chg.set (T := fun k => k = g) _ ⟨g, 2, none⟩ (.slice A3 l3 d3) rfl) (fun _ _ h => h)
        go_ret
        exact ⟨rfl, _, _, _, (Chg.of_below _ hb3.out).trans hE (fun k _ h => .inl h), HW3.out.back (c' := c1) (u1 := u1) (u2 := u2) (u3 := u3) hE (blk_put (blk_put (blk_put hC.out.hb 0 _ rfl) 1 _ rfl) 2 _ rfl), fun k hk => .inl hk⟩
      · rw [if_neg hz] at hnx
        obtain ⟨m, hm⟩ : ∃ m, cc.ps.length = m + 1 := ⟨cc.ps.length - 1, by omega⟩
        rw [hm, Nat.add_sub_cancel] at hnx
        by_cases hr : -1 ≤ rd cc.ps (m : Int) ∧ rd cc.ps (m : Int) < 4611686018427387904 ∧ cc.ok
        case neg => rw [if_neg hr] at hnx; cases hnx
        rw [if_pos hr] at hnx
        obtain ⟨⟨b3, c3⟩, hd, hnx⟩ := Option.bind_eq_some_iff.1 hnx
        have hU := up_calls hC m hm (by have := hok.1; omega) (by have := hok.2.1; omega) (by have := hok.2.2; omega)
        have hwr : IntKind.i64.wrap (rd cc.ps (m : Int) + 1) = rd cc.ps (m : Int) + 1 := by rw [IntKind.wrap_i64]; omega
        have hcu : (⟨cc.ns.take (m + 1), cc.ps.take m, cc.hs.take (m + 1)⟩ : Cu) = cc.up := by unfold Cu.up; rw [hm, Nat.add_sub_cancel]
        rw [hcu] at hU
        generalize hrr : rd cc.ps (m : Int) = r at *
        replace hU := Aside0.mk hU
        replace hC := Aside0.mk hC
        replace hG := Aside0.mk hG
        replace hok := Aside0.mk hok
        replace hm := Aside0.mk hm
        replace hd := Aside0.mk hd
        replace hnx := Aside0.mk hnx
        replace hrr := Aside0.mk hrr
        clear hz hr hcu
        have o1 := Aside0.mk o1
        have o2 := Aside0.mk o2
        have o3 := Aside0.mk o3
        have hBr : B ≤ wr.heap.size := Nat.le_trans hC.out.lg (Nat.le_of_lt hC.out.g_lt)
        cases b3 with
        | true =>
          go_wp2_with (first | (go_at_call 43; refine hU.out.mono ?_; rintro e w4 ⟨rfl, B1, B2, B3, e1, e2, e3, rfl, rfl, rfl, hG4, hC4⟩; have hd4 := down_F hC4 (Nat.le_trans hBr hG4.size) fu _ _ _ hd.out; replace hG4 := Aside0.mk hG4; replace hC4 := Aside0.mk hC4; replace hd4 := Aside0.mk hd4) | (go_at_call 42; refine hd4.out.mono ?_; rintro e w5 ⟨rfl, hm5⟩; replace hm5 := Aside0.mk hm5))
          have hnx' := hnx
          simp only [if_true, Option.some.injEq, Prod.mk.injEq] at hnx'
          obtain ⟨rfl, rfl⟩ := hnx'
          obtain ⟨rfl, rfl⟩ := Prod.mk.inj h.out
          have hM : Chg (Mine g (Value.slice A1 l1 d1) (Value.slice A2 l2 d2) (Value.slice A3 l3 d3)) w w4 := ((Chg.of_below _ hb3.out).trans hG.out (fun k _ h => .inl h)).trans hG4.out (fun k _ h => .inl h)
          go_ret
          refine ⟨rfl, Moved.trans hM ?_ hm5.out⟩
          rintro k (h | h | h | h)
          · exact .inl (.inl h)
          · exact .inl (.inr (.inl ((h.trans own_cut).trans o1.out)))
          · exact .inl (.inr (.inr (.inl ((h.trans own_cut).trans o2.out))))
          · exact .inl (.inr (.inr (.inr ((h.trans own_cut).trans o3.out))))
        | false =>
          obtain ⟨_, hk3, hi3⟩ := downF_false hd.out
          replace hk3 := Aside0.mk hk3
          replace hi3 := Aside0.mk hi3
          go_wp2_with (first | (go_at_call 43; refine hU.out.mono ?_; rintro e w4 ⟨rfl, B1, B2, B3, e1, e2, e3, rfl, rfl, rfl, hG4, hC4⟩; have hd4 := down_none hC4 cc.up.ps.length hk3.out.1 (by have := hk3.out.2.2; omega) _ hi3.out; replace hG4 := Aside0.mk hG4; replace hC4 := Aside0.mk hC4; replace hd4 := Aside0.mk hd4) | (go_at_call 42; refine hd4.out.mono ?_; rintro e w5 ⟨rfl, hb5⟩; replace hb5 := Aside0.mk hb5))
          have hnx' := hnx
          simp only [Bool.false_eq_true, if_false] at hnx'
          cases gk with
          | zero => simp [nextUp] at hnx'
          | succ gk =>
            go_roundg gk
            case measure => omega
            case rel => exact ⟨cc.up, _, _, _, ⟨hC4.out.below hb5.out, (hG.out.trans hG4.out (fun _ _ h => h)).trans (Chg.of_below _ hb5.out) (fun _ _ h => h), hk3.out, hnx', own_cut.trans o1.out, own_cut.trans o2.out, own_cut.trans o3.out⟩⟩
end Go.Proofs.Ytfekpmbecoeijaa.Hand

/- The cursor's move to the node before. -/
namespace Go.Proofs.Ytfekpmbecoeijaa.Hand
open Go.RowKit Go.Proofs.YtfekpmbecoeijaaW.PrintWords Go.Proofs.YtfekpmbecoeijaaW.PrintLast Go.Proofs.YtfekpmbecoeijaaW.PrintMore Go.Proofs.Ytfekpmbecoeijaa.Q Go.Proofs.Ytfekpmbecoeijaa.RF
set_option linter.unusedVariables false
set_option linter.unusedSimpArgs false
set_option maxRecDepth 100000

/-- Down to the last child until there is none. -/
def lastF (fu : Nat) : Nat → Cu → Option Cu
  | 0, _ => none
  | s + 1, c => if c.ok ∧ c.now.f6.length < 4611686018427387904 then (downF fu c ((c.now.f6.length : Int) - 1)).bind fun r => if r.1 then lastF fu s r.2 else some r.2 else none
def prevF (fu sz : Nat) (c : Cu) : Option (Bool × Cu) :=
  if c.ps.length = 0 then some (false, c)
  else if -4611686018427387904 ≤ rd c.ps ((c.ps.length - 1 : Nat) : Int) ∧ rd c.ps ((c.ps.length - 1 : Nat) : Int) < 4611686018427387904 ∧ c.ok then
    if rd c.ps ((c.ps.length - 1 : Nat) : Int) = 0 then some (true, c.up)
    else (downF fu c.up (rd c.ps ((c.ps.length - 1 : Nat) : Int) - 1)).bind fun r => (lastF fu sz r.2).map fun c' => (true, c')
  else none

theorem field26_6 (f0 f1 f2 f3 : Int) (A4 : Option Addr) (l4 c4 : Nat) (f5 : ByteArray) (A6 : Option Addr) (l6 c6 : Nat) (w : World) : (Instr.field 26 (.agg #[.int .i64 f0, .int .i64 f1, .int .i64 f2, .int .i64 f3, .slice A4 l4 c4, .string f5, .slice A6 l6 c6]) 6).run Try.prog w = .ok (.slice A6 l6 c6) w := by kernel_rfl
theorem field26_5 (f0 f1 f2 f3 : Int) (A4 : Option Addr) (l4 c4 : Nat) (f5 : ByteArray) (A6 : Option Addr) (l6 c6 : Nat) (w : World) : (Instr.field 26 (.agg #[.int .i64 f0, .int .i64 f1, .int .i64 f2, .int .i64 f3, .slice A4 l4 c4, .string f5, .slice A6 l6 c6]) 5).run Try.prog w = .ok (.string f5) w := by kernel_rfl
theorem field26_0 (f0 f1 f2 f3 : Int) (A4 : Option Addr) (l4 c4 : Nat) (f5 : ByteArray) (A6 : Option Addr) (l6 c6 : Nat) (w : World) : (Instr.field 26 (.agg #[.int .i64 f0, .int .i64 f1, .int .i64 f2, .int .i64 f3, .slice A4 l4 c4, .string f5, .slice A6 l6 c6]) 0).run Try.prog w = .ok (.int .i64 f0) w := by kernel_rfl
set_option maxHeartbeats 8000000 in
theorem Prev_nil (w : World) : Calls Try.prog 24 #[.pointer none] w fun e w' => e = .returned (.bool false) ∧ w' = w := by
  go_enter Try.func24, Try.ntmps24
  go_wp2
  go_ret
  exact ⟨rfl, rfl⟩
theorem Moved.below {B g : Nat} {v1 v2 v3 : Value} {w w' : World} {c : Cu} (h : Moved B g v1 v2 v3 w c w') : w.heap.size ≤ w'.heap.size := by
  obtain ⟨_, _, _, h, _⟩ := h
  exact h.size
set_option maxHeartbeats 8000000 in
theorem Prev_calls {B g : Nat} {v1 v2 v3 : Value} {c : Cu} {w : World} (hw : CurW B g v1 v2 v3 c w) (hBw : B ≤ w.heap.size) (fu sz : Nat) (b : Bool) (c' : Cu) (h : prevF fu sz c = some (b, c')) :
    Calls Try.prog 24 #[.pointer (some ⟨g, 0, none⟩)] w fun e w' => e = .returned (.bool b) ∧ Moved B g v1 v2 v3 w c' w' := by
  unfold prevF at h
  by_cases hz : c.ps.length = 0
  · rw [if_pos hz] at h
    obtain ⟨rfl, rfl⟩ := Prod.mk.inj (Option.some.inj h)
    have hN := up_none hw hz
    have hM := Moved.of hw (Below.refl _ _)
    replace hN := Aside0.mk hN
    clear hw h hz
    go_enter Try.func24, Try.ntmps24
    go_wp2_with (go_at_call 43; refine hN.out.mono ?_; rintro e w4 ⟨rfl, rfl⟩)
    go_ret
    exact ⟨rfl, hM⟩
  · rw [if_neg hz] at h
    obtain ⟨m, hm⟩ : ∃ m, c.ps.length = m + 1 := ⟨c.ps.length - 1, by omega⟩
    rw [hm, Nat.add_sub_cancel] at h
    by_cases hr : -4611686018427387904 ≤ rd c.ps (m : Int) ∧ rd c.ps (m : Int) < 4611686018427387904 ∧ c.ok
    case neg => rw [if_neg hr] at h; cases h
    rw [if_pos hr] at h
    have hU := up_moved hw hr.2.2 m hm
    have hwr : IntKind.i64.wrap (rd c.ps (m : Int) - 1) = rd c.ps (m : Int) - 1 := by rw [IntKind.wrap_i64]; omega
    generalize hrr : rd c.ps (m : Int) = r at *
    by_cases h0 : r = 0
    · subst h0
      rw [if_pos rfl] at h
      obtain ⟨rfl, rfl⟩ := Prod.mk.inj (Option.some.inj h)
      replace hU := Aside0.mk hU
      clear hw h hz hr hrr
      go_enter Try.func24, Try.ntmps24
      go_wp2_with (go_at_call 43; refine hU.out.mono ?_; rintro e w4 ⟨rfl, hm⟩; replace hm := Aside0.mk hm)
      go_ret
      exact ⟨rfl, hm.out⟩
    · rw [if_neg h0] at h
      obtain ⟨⟨b2, c2⟩, hd, h⟩ := Option.bind_eq_some_iff.1 h
      obtain ⟨c3, hl, h⟩ := Option.map_eq_some_iff.1 h
      obtain ⟨rfl, rfl⟩ := Prod.mk.inj h
      have hb0 : decide (r = 0) = false := decide_eq_false h0
      have hfd := field26_6
      replace hU := Aside0.mk hU
      replace hd := Aside0.mk hd
      replace hl := Aside0.mk hl
      clear hw h hz hr hrr
      go_enter Try.func24, Try.ntmps24
      go_wp2_with (first | (go_at_call 43; refine hU.out.mono ?_; rintro e w4 ⟨rfl, u1, u2, u3, hG4, hC4, hm4⟩; have hd4 := down_F hC4 (Nat.le_trans hBw hG4.size) fu _ _ _ hd.out; replace hG4 := Aside0.mk hG4; replace hC4 := Aside0.mk hC4; replace hd4 := Aside0.mk hd4; replace hm4 := Aside0.mk hm4) | (go_at_call 42; refine hd4.out.mono ?_; rintro e w5 ⟨rfl, hm5⟩; replace hm5 := Aside0.mk hm5))
      have hM5 := Moved.trans hG4.out hm4.out hm5.out
      replace hM5 := Aside0.mk hM5
      clear hm5 hd4
      cases sz with
      | zero => have h := hl.out; simp [lastF] at h
      | succ sz =>
        go_loopg [] sz (fun mm wr => ∃ cc, Aside0 (Moved B g v1 v2 v3 w cc wr ∧ lastF fu (mm + 1) cc = some c3))
        case atStart => exact ⟨c2, ⟨hM5.out, hl.out⟩⟩
        case round =>
          obtain ⟨cc, hv⟩ := hrel
          obtain ⟨⟨t1, t2, t3, hG, hC, hmi⟩, hlast⟩ := hv.out
          unfold lastF at hlast
          by_cases hk : cc.ok ∧ cc.now.f6.length < 4611686018427387904
          case neg => rw [if_neg hk] at hlast; cases hlast
          rw [if_pos hk] at hlast
          obtain ⟨⟨b6, cd⟩, hd6, hlast⟩ := Option.bind_eq_some_iff.1 hlast
          generalize hL : cc.now.f6.length = L at *
          have hnow : ∀ W', CurW B g t1 t2 t3 cc W' → Calls Try.prog 41 #[.pointer (some ⟨g, 0, none⟩)] W' fun e w' => ∃ f0 f1 f2 f3 A4 l4 c4 f5 A6 c6, e = .returned (.agg #[.int .i64 f0, .int .i64 f1, .int .i64 f2, .int .i64 f3, .slice A4 l4 c4, .string f5, .slice A6 L c6]) ∧ Below W'.heap.size W' w' := by
            intro W' hW'
            refine (now_calls hW' cc.ps.length hk.1.1 (by have := hk.1.2.2; omega)).mono ?_
            rintro e w' ⟨A4, c4, A6, c6, rfl, _, _, _, _, hb⟩
            exact ⟨_, _, _, _, _, _, _, _, A6, c6, by rw [← hL]; rfl, hb⟩
          have hwl : IntKind.i64.wrap ((L : Int) - 1) = (L : Int) - 1 := by rw [IntKind.wrap_i64]; omega
          have hBr : B ≤ wr.heap.size := Nat.le_trans hBw hG.size
          replace hL := Aside0.mk hL
          replace hnow := Aside0.mk hnow
          replace hC := Aside0.mk hC
          replace hG := Aside0.mk hG
          replace hmi := Aside0.mk hmi
          replace hd6 := Aside0.mk hd6
          replace hlast := Aside0.mk hlast
          clear hk
          go_upto_region 9 with (fail)
          have hdr : Below wr.heap.size wr wr.drew := below_drew (Below.refl _ _)
          refine start_ (n := 11) (S := fun w' => Below wr.heap.size wr w') (ds := [10]) #[false, false, false, false, false, false, false, false, false, false, false] (by kernel_rfl) rfl rfl ?_ ?_
          · exact hdr
          intro hHeld
          generalize hw1d : wr.drew = W1d at hdr hHeld ⊢
          clear hw1d
          refine pure_ (i := 0) (N := some 24) (v := ?_) (a' := ?_) #[true, false, false, false, false, false, false, false, false, false, false] rfl rfl (by kernel_rfl) (fun _ _ _ h => h) (Or.inl ⟨by rfl, ?_⟩) ?_ ?_
          rotate_left
          · intro w'
            go_simp
            with_reducible rfl
          rotate_left
          · simp only [Act.put, List.setIfInBounds_toArray, List.set_cons_zero, List.set_cons_succ, i64_w, i32_w]
            rfl
          refine pure_ (i := 1) (N := some 25) (v := ?_) (a' := ?_) #[true, true, false, false, false, false, false, false, false, false, false] rfl rfl (by kernel_rfl) (fun _ _ _ h => h) (Or.inl ⟨by rfl, ?_⟩) ?_ ?_
          rotate_left
          · intro w'
            go_simp
            with_reducible rfl
          rotate_left
          · simp only [Act.put, List.setIfInBounds_toArray, List.set_cons_zero, List.set_cons_succ, i64_w, i32_w]
            rfl
          refine pure_ (i := 2) (N := some 26) (v := ?_) (a' := ?_) #[true, true, true, false, false, false, false, false, false, false, false] rfl rfl (by kernel_rfl) (fun _ _ _ h => h) (Or.inl ⟨by rfl, ?_⟩) ?_ ?_
          rotate_left
          · intro w'
            go_simp
            with_reducible rfl
          rotate_left
          · simp only [Act.put, List.setIfInBounds_toArray, List.set_cons_zero, List.set_cons_succ, i64_w, i32_w]
            rfl
          refine pure_ (i := 3) (N := some 27) (v := ?_) (a' := ?_) #[true, true, true, true, false, false, false, false, false, false, false] rfl rfl (by kernel_rfl) (fun _ _ _ h => h) (Or.inl ⟨by rfl, ?_⟩) ?_ ?_
          rotate_left
          · intro w'
            go_simp
            with_reducible rfl
          rotate_left
          · simp only [Act.put, List.setIfInBounds_toArray, List.set_cons_zero, List.set_cons_succ, i64_w, i32_w]
            rfl
          refine pure_ (i := 4) (N := some 28) (v := ?_) (a' := ?_) #[true, true, true, true, true, false, false, false, false, false, false] rfl rfl (by kernel_rfl) (fun _ _ _ h => h) (Or.inl ⟨by rfl, ?_⟩) ?_ ?_
          rotate_left
          · intro w'
            go_simp
            with_reducible rfl
          rotate_left
          · simp only [Act.put, List.setIfInBounds_toArray, List.set_cons_zero, List.set_cons_succ, i64_w, i32_w]
            rfl
          refine pure_ (i := 5) (N := some 29) (v := ?_) (a' := ?_) #[true, true, true, true, true, true, false, false, false, false, false] rfl rfl (by kernel_rfl) (fun _ _ _ h => h) (Or.inl ⟨by rfl, ?_⟩) ?_ ?_
          rotate_left
          · intro w'
            go_simp
            with_reducible rfl
          rotate_left
          · simp only [Act.put, List.setIfInBounds_toArray, List.set_cons_zero, List.set_cons_succ, i64_w, i32_w]
            rfl
          refine one_ (i := 6) (N := some 30) #[true, true, true, true, true, true, true, false, false, false, false] rfl rfl (by kernel_rfl) (by decide) (fun K hK => ?_)
          refine goes_ Try.func41 (by kernel_rfl) rfl #[.pointer (some ⟨g, 0, none⟩)] (by rfl) rfl rfl (by (try simp only [List.map_toArray, List.map_cons, List.map_nil]); first | done | rfl) ?_
          refine (hnow.out _ (hC.out.below hdr)).mono ?_
          rintro e w6 ⟨f0, f1, f2, f3, A4, l4, c4, f5, A6, c6, rfl, hb6⟩
          have hb7 := below_step hdr hb6
          refine ⟨_, rfl, ?_⟩
          refine hK.out _ _ hb7 (fun hHeld => ?_)
          clear hK K
          refine norm_ (a' := ?_) ?_ ?_
          rotate_left
          · show Act.put _ (some 30) _ = _
            simp only [Act.put, List.setIfInBounds_toArray, List.set_cons_zero, List.set_cons_succ, i64_w, i32_w]
            rfl
          refine pure_ (i := 7) (N := some 31) (v := ?_) (a' := ?_) #[true, true, true, true, true, true, true, true, false, false, false] rfl rfl (by kernel_rfl) (fun _ _ _ h => h) (Or.inl ⟨by rfl, ?_⟩) ?_ ?_
          rotate_left
          · intro w'
            go_simp
            with_reducible rfl
          rotate_left
          · simp only [Act.put, List.setIfInBounds_toArray, List.set_cons_zero, List.set_cons_succ, i64_w, i32_w]
            rfl
          refine pure_ (i := 8) (N := some 32) (v := ?_) (a' := ?_) #[true, true, true, true, true, true, true, true, true, false, false] rfl rfl (by kernel_rfl) (fun _ _ _ h => h) (Or.inl ⟨by rfl, ?_⟩) ?_ ?_
          rotate_left
          · intro w'
            go_simp
            with_reducible rfl
          rotate_left
          · simp only [Act.put, List.setIfInBounds_toArray, List.set_cons_zero, List.set_cons_succ, i64_w, i32_w]
            rfl
          refine pure_ (i := 9) (N := some 33) (v := ?_) (a' := ?_) #[true, true, true, true, true, true, true, true, true, true, false] rfl rfl (by kernel_rfl) (fun _ _ _ h => h) (Or.inl ⟨by rfl, ?_⟩) ?_ ?_
          rotate_left
          · intro w'
            go_simp
            with_reducible rfl
          rotate_left
          · simp only [Act.put, List.setIfInBounds_toArray, List.set_cons_zero, List.set_cons_succ, i64_w, i32_w]
            rfl
          refine last_ (i := 10) (N := some 34) #[true, true, true, true, true, true, true, true, true, true, true] rfl rfl (by kernel_rfl) (by decide) (fun K hK => ?_)
          refine goes_ Try.func42 (by kernel_rfl) rfl #[.pointer (some ⟨g, 0, none⟩), .int .i64 ((L : Int) - 1)] (by rfl) rfl rfl (by (try simp only [List.map_toArray, List.map_cons, List.map_nil]); first | done | rfl) ?_
          refine (down_F (hC.out.below hb7) (Nat.le_trans hBr hb7.size) fu _ _ _ hd6.out).mono ?_
          rintro e w8 ⟨rfl, hm8⟩
          have hM8 : Moved B g v1 v2 v3 w cd w8 := Moved.trans (hG.out.trans (Chg.of_below (Mine g t1 t2 t3) hb7) (fun k hk h => (hmi.out k h).elim id (fun hl => by omega))) hmi.out hm8
          replace hM8 := Aside0.mk hM8
          clear hm8
          refine ⟨_, rfl, ?_⟩
          refine hK.out _ _ ?_
          clear hK K
          refine done_ (by kernel_rfl) ?_
          cases b6 with
          | true =>
            have hl6 := hlast
            simp only [if_true] at hl6
            simp only [Act.put, List.setIfInBounds_toArray, List.set_cons_zero, List.set_cons_succ]
            go_wp2
            cases gk with
            | zero => simp [lastF] at hl6
            | succ gk =>
              go_roundg gk
              case measure => omega
              case rel => exact ⟨cd, ⟨hM8.out, hl6⟩⟩
          | false =>
            have hl6 := hlast
            simp only [Bool.false_eq_true, if_false, Option.some.injEq] at hl6
            subst hl6
            simp only [Act.put, List.setIfInBounds_toArray, List.set_cons_zero, List.set_cons_succ]
            go_wp2
            go_ret
            exact ⟨rfl, hM8.out⟩
end Go.Proofs.Ytfekpmbecoeijaa.Hand
