import Derived.Test.YtfekpmbecoeijaaCk
namespace Go.Proofs.Ytfekpmbecoeijaa.Hand
open Go.RowKit Go.Proofs.YtfekpmbecoeijaaW.PrintWords Go.Proofs.YtfekpmbecoeijaaW.PrintLast Go.Proofs.YtfekpmbecoeijaaW.PrintMore Go.Proofs.Ytfekpmbecoeijaa.Q Go.Proofs.Ytfekpmbecoeijaa.RF
set_option linter.unusedVariables false
set_option linter.unusedSimpArgs false
set_option maxRecDepth 100000
def Cu.ok (c : Cu) : Prop := c.ns.length = c.ps.length + 1 ∧ c.hs.length = c.ps.length + 1 ∧ c.ps.length < 1000000
instance (c : Cu) : Decidable c.ok := inferInstanceAs (Decidable (_ ∧ _ ∧ _))
def Cu.now (c : Cu) : S26 := rd_T26 c.ns (c.ps.length : Int)
def Cu.at_ (c : Cu) : Int := rd c.hs (c.ps.length : Int)
def downF (fu : Nat) (c : Cu) (i : Int) : Option (Bool × Cu) :=
  if c.ok then
    if i < 0 ∨ (c.now.f6.length : Int) ≤ i then some (false, c)
    else if c.now.f6.length < 4611686018427387904 then (offF fu c.at_ c.now i.toNat).map fun a => (true, ⟨c.ns ++ [rd_T26 c.now.f6 i], c.ps ++ [i], c.hs ++ [a]⟩)
    else none
  else none
theorem downF_false {fu : Nat} {c c' : Cu} {i : Int} (h : downF fu c i = some (false, c')) : c' = c ∧ c.ok ∧ (i < 0 ∨ (c.now.f6.length : Int) ≤ i) := by
  unfold downF at h
  split at h
  · rename_i hk
    split at h
    · rename_i hi
      have h := Option.some.inj h
      exact ⟨(Prod.mk.inj h).2.symm, hk, hi⟩
    · split at h
      · obtain ⟨a, _, h⟩ := Option.map_eq_some_iff.1 h
        cases h
      · cases h
  · cases h
theorem downF_true {fu : Nat} {c c' : Cu} {i : Int} (h : downF fu c i = some (true, c')) : ∃ (j : Nat) (a : Int), i = (j : Int) ∧ j < c.now.f6.length ∧ c.now.f6.length < 4611686018427387904 ∧ offF fu c.at_ c.now j = some a ∧ c' = ⟨c.ns ++ [rd_T26 c.now.f6 (j : Int)], c.ps ++ [(j : Int)], c.hs ++ [a]⟩ ∧ c.ok := by
  unfold downF at h
  split at h
  · rename_i hk
    split at h
    · have h := Option.some.inj h
      cases h
    · rename_i hi
      split at h
      · rename_i hl
        obtain ⟨a, ha, h⟩ := Option.map_eq_some_iff.1 h
        have hj : i = ((i.toNat : Nat) : Int) := by omega
        refine ⟨i.toNat, a, hj, by omega, hl, ha, ?_, hk⟩
        rw [← hj]
        exact (Prod.mk.inj h).2.symm
      · cases h
  · cases h
theorem down_F {B g : Nat} {v1 v2 v3 : Value} {c : Cu} {w : World} (hw : CurW B g v1 v2 v3 c w) (hBw : B ≤ w.heap.size) (fu : Nat) (i : Int) (b : Bool) (c' : Cu) (h : downF fu c i = some (b, c')) :
    Calls Try.prog 42 #[.pointer (some ⟨g, 0, none⟩), .int .i64 i] w fun e w' => e = .returned (.bool b) ∧ Moved B g v1 v2 v3 w c' w' := by
  cases b with
  | false =>
    obtain ⟨rfl, hk, hi⟩ := downF_false h
    refine (down_none hw c'.ps.length hk.1 (by have := hk.2.2; omega) i hi).mono ?_
    rintro e w' ⟨rfl, hb⟩
    exact ⟨rfl, .of hw hb⟩
  | true =>
    obtain ⟨j, a, rfl, hj, hl, ha, rfl, hk⟩ := downF_true h
    exact down_calls hw hBw c.ps.length hk.1 hk.2.1 rfl hk.2.2 fu j hj hl a ha
set_option maxHeartbeats 8000000 in
theorem Down_nil (i : Int) (w : World) : Calls Try.prog 21 #[.pointer none, .int .i64 i] w fun e w' => e = .returned (.bool false) ∧ w' = w := by
  go_enter Try.func21, Try.ntmps21
  go_wp2
  go_ret
  exact ⟨rfl, rfl⟩
set_option maxHeartbeats 8000000 in
theorem Down_calls {B g : Nat} {v1 v2 v3 : Value} {c : Cu} {w : World} (hw : CurW B g v1 v2 v3 c w) (hBw : B ≤ w.heap.size) (fu : Nat) (i : Int) (b : Bool) (c' : Cu) (h : downF fu c i = some (b, c')) :
    Calls Try.prog 21 #[.pointer (some ⟨g, 0, none⟩), .int .i64 i] w fun e w' => e = .returned (.bool b) ∧ Moved B g v1 v2 v3 w c' w' := by
  have hd := down_F hw hBw fu i b c' h
  replace hd := Aside0.mk hd
  clear hw h
  go_enter Try.func21, Try.ntmps21
  go_wp2_with (go_at_call 42; refine hd.out.mono ?_; rintro e w2 ⟨rfl, hm⟩; replace hm := Aside0.mk hm)
  go_ret
  exact ⟨rfl, hm.out⟩
def Cu.up (c : Cu) : Cu := ⟨c.ns.take c.ps.length, c.ps.take (c.ps.length - 1), c.hs.take c.ps.length⟩
set_option maxHeartbeats 8000000 in
theorem Up_none {B g : Nat} {v1 v2 v3 : Value} {c : Cu} {w : World} (hw : CurW B g v1 v2 v3 c w) (hm : c.ps.length = 0) : Calls Try.prog 22 #[.pointer (some ⟨g, 0, none⟩)] w fun e w' => e = .returned (.bool false) ∧ w' = w := by
  have hd := up_none hw hm
  replace hd := Aside0.mk hd
  clear hw
  go_enter Try.func22, Try.ntmps22
  go_wp2_with (go_at_call 43; refine hd.out.mono ?_; rintro e w2 ⟨rfl, rfl⟩)
  go_ret
  exact ⟨rfl, rfl⟩
theorem up_moved {B g : Nat} {v1 v2 v3 : Value} {c : Cu} {w : World} (hw : CurW B g v1 v2 v3 c w) (hk : c.ok) (m : Nat) (hm : c.ps.length = m + 1) :
    Calls Try.prog 43 #[.pointer (some ⟨g, 0, none⟩)] w fun e w' => e = .returned (.tuple #[.int .i64 (rd c.ps (m : Int)), .bool true]) ∧ Moved B g v1 v2 v3 w c.up w' := by
  obtain ⟨h1, h2, h3⟩ := hk
  refine (up_calls hw m hm (by omega) (by omega) (by omega)).mono ?_
  rintro e w' ⟨rfl, A1, A2, A3, c1, c2, c3, rfl, rfl, rfl, hc, hC⟩
  refine ⟨rfl, _, _, _, hc.mono (fun k _ h => .inl h), (by unfold Cu.up; rw [hm]; exact hC), ?_⟩
  have e : ∀ {A : Option Addr} {a b c d : Nat}, (Value.slice A a b).ownBlock = (Value.slice A c d).ownBlock := by intro A a b c d; cases A <;> rfl
  rintro k (h | h | h | h)
  · exact .inl (.inl h)
  · exact .inl (.inr (.inl (h.trans e)))
  · exact .inl (.inr (.inr (.inl (h.trans e))))
  · exact .inl (.inr (.inr (.inr (h.trans e))))
set_option maxHeartbeats 8000000 in
theorem Up_calls {B g : Nat} {v1 v2 v3 : Value} {c : Cu} {w : World} (hw : CurW B g v1 v2 v3 c w) (hk : c.ok) (m : Nat) (hm : c.ps.length = m + 1) :
    Calls Try.prog 22 #[.pointer (some ⟨g, 0, none⟩)] w fun e w' => e = .returned (.bool true) ∧ Moved B g v1 v2 v3 w c.up w' := by
  have hd := up_moved hw hk m hm
  replace hd := Aside0.mk hd
  clear hw
  go_enter Try.func22, Try.ntmps22
  go_wp2_with (go_at_call 43; refine hd.out.mono ?_; rintro e w2 ⟨rfl, hm⟩; replace hm := Aside0.mk hm)
  go_ret
  exact ⟨rfl, hm.out⟩
end Go.Proofs.Ytfekpmbecoeijaa.Hand
namespace Go.Proofs.Ytfekpmbecoeijaa.Hand
open Go.RowKit Go.Proofs.YtfekpmbecoeijaaW.PrintWords Go.Proofs.YtfekpmbecoeijaaW.PrintLast Go.Proofs.YtfekpmbecoeijaaW.PrintMore Go.Proofs.Ytfekpmbecoeijaa.Q Go.Proofs.Ytfekpmbecoeijaa.RF
set_option linter.unusedVariables false
set_option linter.unusedSimpArgs false
set_option maxRecDepth 100000
def nextUp (fu : Nat) : Nat → Cu → Option (Bool × Cu)
  | 0, _ => none
  | s + 1, c => if c.ps.length = 0 then some (false, c)
    else if -1 ≤ rd c.ps ((c.ps.length - 1 : Nat) : Int) ∧ rd c.ps ((c.ps.length - 1 : Nat) : Int) < 4611686018427387904 ∧ c.ok then
      (downF fu c.up (rd c.ps ((c.ps.length - 1 : Nat) : Int) + 1)).bind fun r => if r.1 then some r else nextUp fu s c.up
    else none
def nextF (fu : Nat) (c : Cu) : Option (Bool × Cu) :=
  (downF fu c 0).bind fun r => if r.1 then some r else (nextUp fu (c.ps.length + 1) c).map fun r => if r.1 then r else (false, c)
theorem own_cut {A : Option Addr} {a b c d : Nat} : (Value.slice A a b).ownBlock = (Value.slice A c d).ownBlock := by cases A <;> rfl
theorem CurW.back {B g : Nat} {v1 v2 v3 u1 u2 u3 : Value} {c c' : Cu} {w w' : World} (h : CurW B g v1 v2 v3 c w) (hc : Chg (fun k => k = g) w w') (hb : w'.heap[g]? = some (.cells #[v1, v2, v3] 61 (0, 0))) : CurW B g v1 v2 v3 c w' :=
  ⟨hb, h.lg, h.r1.step (fun k hk hlt => hc.block k hlt hk.1), h.r2.step (fun k hk hlt => hc.block k hlt hk.1), h.r3.step (fun k hk hlt => hc.block k hlt hk.1)⟩
set_option maxHeartbeats 8000000 in
theorem Next_nil (w : World) : Calls Try.prog 23 #[.pointer none] w fun e w' => e = .returned (.bool false) ∧ w' = w := by
  go_enter Try.func23, Try.ntmps23
  go_wp2
  go_ret
  exact ⟨rfl, rfl⟩
set_option maxHeartbeats 8000000 in
theorem Next_calls {B g : Nat} {v1 v2 v3 : Value} {c : Cu} {w : World} (hw : CurW B g v1 v2 v3 c w) (hBw : B ≤ w.heap.size) (fu : Nat) (b : Bool) (c' : Cu) (h : nextF fu c = some (b, c')) :
    Calls Try.prog 23 #[.pointer (some ⟨g, 0, none⟩)] w fun e w' => e = .returned (.bool b) ∧ Moved B g v1 v2 v3 w c' w' := by
  unfold nextF at h
  obtain ⟨⟨b1, c1⟩, hd, h⟩ := Option.bind_eq_some_iff.1 h
  cases b1 with
  | true =>
    rw [if_pos rfl] at h
    obtain ⟨rfl, rfl⟩ := Prod.mk.inj (Option.some.inj h)
    have hd := down_F hw hBw fu 0 _ _ hd
    replace hd := Aside0.mk hd
    clear hw h
    go_enter Try.func23, Try.ntmps23
    go_wp2_with (go_at_call 42; refine hd.out.mono ?_; rintro e w2 ⟨rfl, hm⟩; replace hm := Aside0.mk hm)
    go_ret
    exact ⟨rfl, hm.out⟩
  | false =>
    rw [if_neg (by simp)] at h
    obtain ⟨⟨b2, c2⟩, hup, h⟩ := Option.map_eq_some_iff.1 h
    obtain ⟨rfl, hk, hi⟩ := downF_false hd
    have hn := down_none hw c1.ps.length hk.1 (by have := hk.2.2; omega) 0 hi
    replace hn := Aside0.mk hn
    replace hup := Aside0.mk hup
    replace h := Aside0.mk h
    obtain ⟨A1, d1, e1, _, _⟩ := hw.r1.reads
    obtain ⟨A2, d2, e2, _, _⟩ := hw.r2.reads
    obtain ⟨A3, d3, e3, _, _⟩ := hw.r3.reads
    generalize hl1 : c1.ns.length = l1 at e1
    generalize hl2 : c1.ps.length = l2 at e2
    generalize hl3 : c1.hs.length = l3 at e3
    subst e1 e2 e3
    replace hl1 := Aside0.mk hl1
    replace hl2 := Aside0.mk hl2
    replace hl3 := Aside0.mk hl3
    replace hw := Aside0.mk hw
    replace hk := Aside0.mk hk
    clear hd hi
    go_enter Try.func23, Try.ntmps23
    go_upto_region 5 with (go_at_call 42; refine hn.out.mono ?_; rintro e w2 ⟨rfl, hb2⟩; replace hb2 := Aside0.mk hb2)
    have HW2 := hw.out.below hb2.out
    have y0 : w2.cell? ⟨g, 0, none⟩ = some (.slice A1 l1 d1) := (blk_cell HW2.hb 0).trans rfl
    have y1 : w2.cell? ⟨g, 1, none⟩ = some (.slice A2 l2 d2) := (blk_cell HW2.hb 1).trans rfl
    have y2 : w2.cell? ⟨g, 2, none⟩ = some (.slice A3 l3 d3) := (blk_cell HW2.hb 2).trans rfl
    replace HW2 := Aside0.mk HW2
    go_wp2
    obtain ⟨w3, hw3⟩ : ∃ w3, w2.alloc (.cells #[.slice A1 l1 d1, .slice A2 l2 d2, .slice A3 l3 d3] 59) = w3 := ⟨_, rfl⟩
    have hb3 : Below w.heap.size w w3 := hw3 ▸ below_alloc hb2.out _
    have hx3 : w3.heap[w2.heap.size]? = some (.cells #[.slice A1 l1 d1, .slice A2 l2 d2, .slice A3 l3 d3] 59 (0, 0)) := hw3 ▸ blk_new _ _
    have HW3 := hw.out.below hb3
    have hgx : w2.heap.size ≠ g := by have := HW2.out.g_lt; omega
    rw [hw3]
    clear hw3 y0 y1 y2
    replace hx3 := Aside0.mk hx3
    replace HW3 := Aside0.mk HW3
    replace hb3 := Aside0.mk hb3
    go_loopg [] c1.ps.length (fun mm wr => ∃ cc u1 u2 u3, Aside0 (CurW B g u1 u2 u3 cc wr ∧ Chg (fun k => k = g) w3 wr ∧ cc.ok ∧ nextUp fu (mm + 1) cc = some (b2, c2) ∧ u1.ownBlock = (Value.slice A1 l1 d1).ownBlock ∧ u2.ownBlock = (Value.slice A2 l2 d2).ownBlock ∧ u3.ownBlock = (Value.slice A3 l3 d3).ownBlock))
    case atStart => exact ⟨c1, _, _, _, ⟨HW3.out, Chg.refl _ _, hk.out, hup.out, rfl, rfl, rfl⟩⟩
    case round =>
      obtain ⟨cc, u1, u2, u3, hv⟩ := hrel
      obtain ⟨hC, hG, hok, hnx, o1, o2, o3⟩ := hv.out
      unfold nextUp at hnx
      by_cases hz : cc.ps.length = 0
      · rw [if_pos hz] at hnx
        obtain ⟨rfl, rfl⟩ := Prod.mk.inj (Option.some.inj hnx)
        have hN := up_none hC hz
        replace hN := Aside0.mk hN
        have hxr := hG.same hx3.out hgx
        have x0 : wr.cell? ⟨w2.heap.size, 0, none⟩ = some (.slice A1 l1 d1) := (blk_cell hxr 0).trans rfl
        have x1 : wr.cell? ⟨w2.heap.size, 1, none⟩ = some (.slice A2 l2 d2) := (blk_cell hxr 1).trans rfl
        have x2 : wr.cell? ⟨w2.heap.size, 2, none⟩ = some (.slice A3 l3 d3) := (blk_cell hxr 2).trans rfl
        obtain ⟨B1, e1, q1, _, _⟩ := hC.r1.reads
        obtain ⟨B2, e2, q2, _, _⟩ := hC.r2.reads
        obtain ⟨B3, e3, q3, _, _⟩ := hC.r3.reads
        have z0 : wr.cell? ⟨g, 0, none⟩ = some u1 := (blk_cell hC.hb 0).trans rfl
        have z1 : wr.cell? ⟨g, 1, none⟩ = some u2 := (blk_cell hC.hb 1).trans rfl
        have z2 : wr.cell? ⟨g, 2, none⟩ = some u3 := (blk_cell hC.hb 2).trans rfl
        have f0 := blk_frozen hC.hb 0
        have f1 := blk_frozen hC.hb 1
        have f2 := blk_frozen hC.hb 2
        replace hC := Aside0.mk hC
        replace hG := Aside0.mk hG
        replace hok := Aside0.mk hok
        replace hz := Aside0.mk hz
        clear hxr q1 q2 q3 o1 o2 o3 hnx
        go_wp2_with (go_at_call 43; refine hN.out.mono ?_; rintro e w4 ⟨rfl, rfl⟩)
        obtain ⟨rfl, rfl⟩ := Prod.mk.inj h.out
        have hE := ((hG.out.trans (Chg.set (T := fun k => k = g) _ ⟨g, 0, none⟩ (.slice A1 l1 d1) rfl) (fun _ _ h => h)).trans (Chg.set (T := fun k => k = g) _ ⟨g, 1, none⟩ (.slice A2 l2 d2) rfl) (fun _ _ h => h)).trans (Chg.set (T := fun k => k = g) _ ⟨g, 2, none⟩ (.slice A3 l3 d3) rfl) (fun _ _ h => h)
        go_ret
        exact ⟨rfl, _, _, _, (Chg.of_below _ hb3.out).trans hE (fun k _ h => .inl h), HW3.out.back (c' := c1) (u1 := u1) (u2 := u2) (u3 := u3) hE (blk_put (blk_put (blk_put hC.out.hb 0 _ rfl) 1 _ rfl) 2 _ rfl), fun k hk => .inl hk⟩
      · rw [if_neg hz] at hnx
        obtain ⟨m, hm⟩ : ∃ m, cc.ps.length = m + 1 := ⟨cc.ps.length - 1, by omega⟩
        rw [hm, Nat.add_sub_cancel] at hnx
        by_cases hr : -1 ≤ rd cc.ps (m : Int) ∧ rd cc.ps (m : Int) < 4611686018427387904 ∧ cc.ok
        case neg => rw [if_neg hr] at hnx; cases hnx
        rw [if_pos hr] at hnx
        obtain ⟨⟨b3, c3⟩, hd, hnx⟩ := Option.bind_eq_some_iff.1 hnx
        have hU := up_calls hC m hm (by have := hok.1; omega) (by have := hok.2.1; omega) (by have := hok.2.2; omega)
        have hwr : IntKind.i64.wrap (rd cc.ps (m : Int) + 1) = rd cc.ps (m : Int) + 1 := by rw [IntKind.wrap_i64]; omega
        have hcu : (⟨cc.ns.take (m + 1), cc.ps.take m, cc.hs.take (m + 1)⟩ : Cu) = cc.up := by unfold Cu.up; rw [hm, Nat.add_sub_cancel]
        rw [hcu] at hU
        generalize hrr : rd cc.ps (m : Int) = r at *
        replace hU := Aside0.mk hU
        replace hC := Aside0.mk hC
        replace hG := Aside0.mk hG
        replace hok := Aside0.mk hok
        replace hm := Aside0.mk hm
        replace hd := Aside0.mk hd
        replace hnx := Aside0.mk hnx
        replace hrr := Aside0.mk hrr
        clear hz hr hcu
        have o1 := Aside0.mk o1
        have o2 := Aside0.mk o2
        have o3 := Aside0.mk o3
        have hBr : B ≤ wr.heap.size := Nat.le_trans hC.out.lg (Nat.le_of_lt hC.out.g_lt)
        cases b3 with
        | true =>
          go_wp2_with (first | (go_at_call 43; refine hU.out.mono ?_; rintro e w4 ⟨rfl, B1, B2, B3, e1, e2, e3, rfl, rfl, rfl, hG4, hC4⟩; have hd4 := down_F hC4 (Nat.le_trans hBr hG4.size) fu _ _ _ hd.out; replace hG4 := Aside0.mk hG4; replace hC4 := Aside0.mk hC4; replace hd4 := Aside0.mk hd4) | (go_at_call 42; refine hd4.out.mono ?_; rintro e w5 ⟨rfl, hm5⟩; replace hm5 := Aside0.mk hm5))
          have hnx' := hnx
          simp only [if_true, Option.some.injEq, Prod.mk.injEq] at hnx'
          obtain ⟨rfl, rfl⟩ := hnx'
          obtain ⟨rfl, rfl⟩ := Prod.mk.inj h.out
          have hM : Chg (Mine g (Value.slice A1 l1 d1) (Value.slice A2 l2 d2) (Value.slice A3 l3 d3)) w w4 := ((Chg.of_below _ hb3.out).trans hG.out (fun k _ h => .inl h)).trans hG4.out (fun k _ h => .inl h)
          go_ret
          refine ⟨rfl, Moved.trans hM ?_ hm5.out⟩
          rintro k (h | h | h | h)
          · exact .inl (.inl h)
          · exact .inl (.inr (.inl ((h.trans own_cut).trans o1.out)))
          · exact .inl (.inr (.inr (.inl ((h.trans own_cut).trans o2.out))))
          · exact .inl (.inr (.inr (.inr ((h.trans own_cut).trans o3.out))))
        | false =>
          obtain ⟨_, hk3, hi3⟩ := downF_false hd.out
          replace hk3 := Aside0.mk hk3
          replace hi3 := Aside0.mk hi3
          go_wp2_with (first | (go_at_call 43; refine hU.out.mono ?_; rintro e w4 ⟨rfl, B1, B2, B3, e1, e2, e3, rfl, rfl, rfl, hG4, hC4⟩; have hd4 := down_none hC4 cc.up.ps.length hk3.out.1 (by have := hk3.out.2.2; omega) _ hi3.out; replace hG4 := Aside0.mk hG4; replace hC4 := Aside0.mk hC4; replace hd4 := Aside0.mk hd4) | (go_at_call 42; refine hd4.out.mono ?_; rintro e w5 ⟨rfl, hb5⟩; replace hb5 := Aside0.mk hb5))
          have hnx' := hnx
          simp only [Bool.false_eq_true, if_false] at hnx'
          cases gk with
          | zero => simp [nextUp] at hnx'
          | succ gk =>
            go_roundg gk
            case measure => omega
            case rel => exact ⟨cc.up, _, _, _, ⟨hC4.out.below hb5.out, (hG.out.trans hG4.out (fun _ _ h => h)).trans (Chg.of_below _ hb5.out) (fun _ _ h => h), hk3.out, hnx', own_cut.trans o1.out, own_cut.trans o2.out, own_cut.trans o3.out⟩⟩
end Go.Proofs.Ytfekpmbecoeijaa.Hand
namespace Go.Proofs.Ytfekpmbecoeijaa.Hand
open Go.RowKit Go.Proofs.YtfekpmbecoeijaaW.PrintWords Go.Proofs.YtfekpmbecoeijaaW.PrintLast Go.Proofs.YtfekpmbecoeijaaW.PrintMore Go.Proofs.Ytfekpmbecoeijaa.Q Go.Proofs.Ytfekpmbecoeijaa.RF
set_option linter.unusedVariables false
set_option linter.unusedSimpArgs false
set_option maxRecDepth 100000
def lastF (fu : Nat) : Nat → Cu → Option Cu
  | 0, _ => none
  | s + 1, c => if c.ok ∧ c.now.f6.length < 4611686018427387904 then (downF fu c ((c.now.f6.length : Int) - 1)).bind fun r => if r.1 then lastF fu s r.2 else some r.2 else none
def prevF (fu sz : Nat) (c : Cu) : Option (Bool × Cu) :=
  if c.ps.length = 0 then some (false, c)
  else if -4611686018427387904 ≤ rd c.ps ((c.ps.length - 1 : Nat) : Int) ∧ rd c.ps ((c.ps.length - 1 : Nat) : Int) < 4611686018427387904 ∧ c.ok then
    if rd c.ps ((c.ps.length - 1 : Nat) : Int) = 0 then some (true, c.up)
    else (downF fu c.up (rd c.ps ((c.ps.length - 1 : Nat) : Int) - 1)).bind fun r => (lastF fu sz r.2).map fun c' => (true, c')
  else none
theorem field26_6 (f0 f1 f2 f3 : Int) (A4 : Option Addr) (l4 c4 : Nat) (f5 : ByteArray) (A6 : Option Addr) (l6 c6 : Nat) (w : World) : (Instr.field 26 (.agg #[.int .i64 f0, .int .i64 f1, .int .i64 f2, .int .i64 f3, .slice A4 l4 c4, .string f5, .slice A6 l6 c6]) 6).run Try.prog w = .ok (.slice A6 l6 c6) w := by kernel_rfl
theorem field26_5 (f0 f1 f2 f3 : Int) (A4 : Option Addr) (l4 c4 : Nat) (f5 : ByteArray) (A6 : Option Addr) (l6 c6 : Nat) (w : World) : (Instr.field 26 (.agg #[.int .i64 f0, .int .i64 f1, .int .i64 f2, .int .i64 f3, .slice A4 l4 c4, .string f5, .slice A6 l6 c6]) 5).run Try.prog w = .ok (.string f5) w := by kernel_rfl
theorem field26_0 (f0 f1 f2 f3 : Int) (A4 : Option Addr) (l4 c4 : Nat) (f5 : ByteArray) (A6 : Option Addr) (l6 c6 : Nat) (w : World) : (Instr.field 26 (.agg #[.int .i64 f0, .int .i64 f1, .int .i64 f2, .int .i64 f3, .slice A4 l4 c4, .string f5, .slice A6 l6 c6]) 0).run Try.prog w = .ok (.int .i64 f0) w := by kernel_rfl
theorem Moved.below {B g : Nat} {v1 v2 v3 : Value} {w w' : World} {c : Cu} (h : Moved B g v1 v2 v3 w c w') : w.heap.size ≤ w'.heap.size := by
  obtain ⟨_, _, _, h, _⟩ := h
  exact h.size
set_option maxHeartbeats 8000000 in
theorem Prev_calls {B g : Nat} {v1 v2 v3 : Value} {c : Cu} {w : World} (hw : CurW B g v1 v2 v3 c w) (hBw : B ≤ w.heap.size) (fu sz : Nat) (b : Bool) (c' : Cu) (h : prevF fu sz c = some (b, c')) :
    Calls Try.prog 24 #[.pointer (some ⟨g, 0, none⟩)] w fun e w' => e = .returned (.bool b) ∧ Moved B g v1 v2 v3 w c' w' := by
  unfold prevF at h
  by_cases hz : c.ps.length = 0
  · rw [if_pos hz] at h
    obtain ⟨rfl, rfl⟩ := Prod.mk.inj (Option.some.inj h)
    have hN := up_none hw hz
    have hM := Moved.of hw (Below.refl _ _)
    replace hN := Aside0.mk hN
    clear hw h hz
    go_enter Try.func24, Try.ntmps24
    go_wp2_with (go_at_call 43; refine hN.out.mono ?_; rintro e w4 ⟨rfl, rfl⟩)
    go_ret
    exact ⟨rfl, hM⟩
  · rw [if_neg hz] at h
    obtain ⟨m, hm⟩ : ∃ m, c.ps.length = m + 1 := ⟨c.ps.length - 1, by omega⟩
    rw [hm, Nat.add_sub_cancel] at h
    by_cases hr : -4611686018427387904 ≤ rd c.ps (m : Int) ∧ rd c.ps (m : Int) < 4611686018427387904 ∧ c.ok
    case neg => rw [if_neg hr] at h; cases h
    rw [if_pos hr] at h
    have hU := up_moved hw hr.2.2 m hm
    have hwr : IntKind.i64.wrap (rd c.ps (m : Int) - 1) = rd c.ps (m : Int) - 1 := by rw [IntKind.wrap_i64]; omega
    generalize hrr : rd c.ps (m : Int) = r at *
    by_cases h0 : r = 0
    · subst h0
      rw [if_pos rfl] at h
      obtain ⟨rfl, rfl⟩ := Prod.mk.inj (Option.some.inj h)
      replace hU := Aside0.mk hU
      clear hw h hz hr hrr
      go_enter Try.func24, Try.ntmps24
      go_wp2_with (go_at_call 43; refine hU.out.mono ?_; rintro e w4 ⟨rfl, hm⟩; replace hm := Aside0.mk hm)
      go_ret
      exact ⟨rfl, hm.out⟩
    · rw [if_neg h0] at h
      obtain ⟨⟨b2, c2⟩, hd, h⟩ := Option.bind_eq_some_iff.1 h
      obtain ⟨c3, hl, h⟩ := Option.map_eq_some_iff.1 h
      obtain ⟨rfl, rfl⟩ := Prod.mk.inj h
      have hb0 : decide (r = 0) = false := decide_eq_false h0
      have hfd := field26_6
      replace hU := Aside0.mk hU
      replace hd := Aside0.mk hd
      replace hl := Aside0.mk hl
      clear hw h hz hr hrr
      go_enter Try.func24, Try.ntmps24
      go_wp2_with (first | (go_at_call 43; refine hU.out.mono ?_; rintro e w4 ⟨rfl, u1, u2, u3, hG4, hC4, hm4⟩; have hd4 := down_F hC4 (Nat.le_trans hBw hG4.size) fu _ _ _ hd.out; replace hG4 := Aside0.mk hG4; replace hC4 := Aside0.mk hC4; replace hd4 := Aside0.mk hd4; replace hm4 := Aside0.mk hm4) | (go_at_call 42; refine hd4.out.mono ?_; rintro e w5 ⟨rfl, hm5⟩; replace hm5 := Aside0.mk hm5))
      have hM5 := Moved.trans hG4.out hm4.out hm5.out
      replace hM5 := Aside0.mk hM5
      clear hm5 hd4
      cases sz with
      | zero => have h := hl.out; simp [lastF] at h
      | succ sz =>
        go_loopg [] sz (fun mm wr => ∃ cc, Aside0 (Moved B g v1 v2 v3 w cc wr ∧ lastF fu (mm + 1) cc = some c3))
        case atStart => exact ⟨c2, ⟨hM5.out, hl.out⟩⟩
        case round =>
          obtain ⟨cc, hv⟩ := hrel
          obtain ⟨⟨t1, t2, t3, hG, hC, hmi⟩, hlast⟩ := hv.out
          unfold lastF at hlast
          by_cases hk : cc.ok ∧ cc.now.f6.length < 4611686018427387904
          case neg => rw [if_neg hk] at hlast; cases hlast
          rw [if_pos hk] at hlast
          obtain ⟨⟨b6, cd⟩, hd6, hlast⟩ := Option.bind_eq_some_iff.1 hlast
          generalize hL : cc.now.f6.length = L at *
          have hnow : ∀ W', CurW B g t1 t2 t3 cc W' → Calls Try.prog 41 #[.pointer (some ⟨g, 0, none⟩)] W' fun e w' => ∃ f0 f1 f2 f3 A4 l4 c4 f5 A6 c6, e = .returned (.agg #[.int .i64 f0, .int .i64 f1, .int .i64 f2, .int .i64 f3, .slice A4 l4 c4, .string f5, .slice A6 L c6]) ∧ Below W'.heap.size W' w' := by
            intro W' hW'
            refine (now_calls hW' cc.ps.length hk.1.1 (by have := hk.1.2.2; omega)).mono ?_
            rintro e w' ⟨A4, c4, A6, c6, rfl, _, _, _, _, hb⟩
            exact ⟨_, _, _, _, _, _, _, _, A6, c6, by rw [← hL]; rfl, hb⟩
          have hwl : IntKind.i64.wrap ((L : Int) - 1) = (L : Int) - 1 := by rw [IntKind.wrap_i64]; omega
          have hBr : B ≤ wr.heap.size := Nat.le_trans hBw hG.size
          replace hL := Aside0.mk hL
          replace hnow := Aside0.mk hnow
          replace hC := Aside0.mk hC
          replace hG := Aside0.mk hG
          replace hmi := Aside0.mk hmi
          replace hd6 := Aside0.mk hd6
          replace hlast := Aside0.mk hlast
          clear hk
          go_upto_region 9 with (fail)
          have hdr : Below wr.heap.size wr wr.drew := below_drew (Below.refl _ _)
          refine start_ (n := 11) (S := fun w' => Below wr.heap.size wr w') (ds := [10]) #[false, false, false, false, false, false, false, false, false, false, false] (by kernel_rfl) rfl rfl ?_ ?_
          · exact hdr
          intro hHeld
          generalize hw1d : wr.drew = W1d at hdr hHeld ⊢
          clear hw1d
          refine pure_ (i := 0) (N := some 24) (v := ?_) (a' := ?_) #[true, false, false, false, false, false, false, false, false, false, false] rfl rfl (by kernel_rfl) (fun _ _ _ h => h) (Or.inl ⟨by rfl, ?_⟩) ?_ ?_
          rotate_left
          · intro w'
            go_simp
            with_reducible rfl
          rotate_left
          · simp only [Act.put, List.setIfInBounds_toArray, List.set_cons_zero, List.set_cons_succ, i64_w, i32_w]
            rfl
          refine pure_ (i := 1) (N := some 25) (v := ?_) (a' := ?_) #[true, true, false, false, false, false, false, false, false, false, false] rfl rfl (by kernel_rfl) (fun _ _ _ h => h) (Or.inl ⟨by rfl, ?_⟩) ?_ ?_
          rotate_left
          · intro w'
            go_simp
            with_reducible rfl
          rotate_left
          · simp only [Act.put, List.setIfInBounds_toArray, List.set_cons_zero, List.set_cons_succ, i64_w, i32_w]
            rfl
          refine pure_ (i := 2) (N := some 26) (v := ?_) (a' := ?_) #[true, true, true, false, false, false, false, false, false, false, false] rfl rfl (by kernel_rfl) (fun _ _ _ h => h) (Or.inl ⟨by rfl, ?_⟩) ?_ ?_
          rotate_left
          · intro w'
            go_simp
            with_reducible rfl
          rotate_left
          · simp only [Act.put, List.setIfInBounds_toArray, List.set_cons_zero, List.set_cons_succ, i64_w, i32_w]
            rfl
          refine pure_ (i := 3) (N := some 27) (v := ?_) (a' := ?_) #[true, true, true, true, false, false, false, false, false, false, false] rfl rfl (by kernel_rfl) (fun _ _ _ h => h) (Or.inl ⟨by rfl, ?_⟩) ?_ ?_
          rotate_left
          · intro w'
            go_simp
            with_reducible rfl
          rotate_left
          · simp only [Act.put, List.setIfInBounds_toArray, List.set_cons_zero, List.set_cons_succ, i64_w, i32_w]
            rfl
          refine pure_ (i := 4) (N := some 28) (v := ?_) (a' := ?_) #[true, true, true, true, true, false, false, false, false, false, false] rfl rfl (by kernel_rfl) (fun _ _ _ h => h) (Or.inl ⟨by rfl, ?_⟩) ?_ ?_
          rotate_left
          · intro w'
            go_simp
            with_reducible rfl
          rotate_left
          · simp only [Act.put, List.setIfInBounds_toArray, List.set_cons_zero, List.set_cons_succ, i64_w, i32_w]
            rfl
          refine pure_ (i := 5) (N := some 29) (v := ?_) (a' := ?_) #[true, true, true, true, true, true, false, false, false, false, false] rfl rfl (by kernel_rfl) (fun _ _ _ h => h) (Or.inl ⟨by rfl, ?_⟩) ?_ ?_
          rotate_left
          · intro w'
            go_simp
            with_reducible rfl
          rotate_left
          · simp only [Act.put, List.setIfInBounds_toArray, List.set_cons_zero, List.set_cons_succ, i64_w, i32_w]
            rfl
          refine one_ (i := 6) (N := some 30) #[true, true, true, true, true, true, true, false, false, false, false] rfl rfl (by kernel_rfl) (by decide) (fun K hK => ?_)
          refine goes_ Try.func41 (by kernel_rfl) rfl #[.pointer (some ⟨g, 0, none⟩)] (by rfl) rfl rfl (by (try simp only [List.map_toArray, List.map_cons, List.map_nil]); first | done | rfl) ?_
          refine (hnow.out _ (hC.out.below hdr)).mono ?_
          rintro e w6 ⟨f0, f1, f2, f3, A4, l4, c4, f5, A6, c6, rfl, hb6⟩
          have hb7 := below_step hdr hb6
          refine ⟨_, rfl, ?_⟩
          refine hK.out _ _ hb7 (fun hHeld => ?_)
          clear hK K
          refine norm_ (a' := ?_) ?_ ?_
          rotate_left
          · show Act.put _ (some 30) _ = _
            simp only [Act.put, List.setIfInBounds_toArray, List.set_cons_zero, List.set_cons_succ, i64_w, i32_w]
            rfl
          refine pure_ (i := 7) (N := some 31) (v := ?_) (a' := ?_) #[true, true, true, true, true, true, true, true, false, false, false] rfl rfl (by kernel_rfl) (fun _ _ _ h => h) (Or.inl ⟨by rfl, ?_⟩) ?_ ?_
          rotate_left
          · intro w'
            go_simp
            with_reducible rfl
          rotate_left
          · simp only [Act.put, List.setIfInBounds_toArray, List.set_cons_zero, List.set_cons_succ, i64_w, i32_w]
            rfl
          refine pure_ (i := 8) (N := some 32) (v := ?_) (a' := ?_) #[true, true, true, true, true, true, true, true, true, false, false] rfl rfl (by kernel_rfl) (fun _ _ _ h => h) (Or.inl ⟨by rfl, ?_⟩) ?_ ?_
          rotate_left
          · intro w'
            go_simp
            with_reducible rfl
          rotate_left
          · simp only [Act.put, List.setIfInBounds_toArray, List.set_cons_zero, List.set_cons_succ, i64_w, i32_w]
            rfl
          refine pure_ (i := 9) (N := some 33) (v := ?_) (a' := ?_) #[true, true, true, true, true, true, true, true, true, true, false] rfl rfl (by kernel_rfl) (fun _ _ _ h => h) (Or.inl ⟨by rfl, ?_⟩) ?_ ?_
          rotate_left
          · intro w'
            go_simp
            with_reducible rfl
          rotate_left
          · simp only [Act.put, List.setIfInBounds_toArray, List.set_cons_zero, List.set_cons_succ, i64_w, i32_w]
            rfl
          refine last_ (i := 10) (N := some 34) #[true, true, true, true, true, true, true, true, true, true, true] rfl rfl (by kernel_rfl) (by decide) (fun K hK => ?_)
          refine goes_ Try.func42 (by kernel_rfl) rfl #[.pointer (some ⟨g, 0, none⟩), .int .i64 ((L : Int) - 1)] (by rfl) rfl rfl (by (try simp only [List.map_toArray, List.map_cons, List.map_nil]); first | done | rfl) ?_
          refine (down_F (hC.out.below hb7) (Nat.le_trans hBr hb7.size) fu _ _ _ hd6.out).mono ?_
          rintro e w8 ⟨rfl, hm8⟩
          have hM8 : Moved B g v1 v2 v3 w cd w8 := Moved.trans (hG.out.trans (Chg.of_below (Mine g t1 t2 t3) hb7) (fun k hk h => (hmi.out k h).elim id (fun hl => by omega))) hmi.out hm8
          replace hM8 := Aside0.mk hM8
          clear hm8
          refine ⟨_, rfl, ?_⟩
          refine hK.out _ _ ?_
          clear hK K
          refine done_ (by kernel_rfl) ?_
          cases b6 with
          | true =>
            have hl6 := hlast
            simp only [if_true] at hl6
            simp only [Act.put, List.setIfInBounds_toArray, List.set_cons_zero, List.set_cons_succ]
            go_wp2
            cases gk with
            | zero => simp [lastF] at hl6
            | succ gk =>
              go_roundg gk
              case measure => omega
              case rel => exact ⟨cd, ⟨hM8.out, hl6⟩⟩
          | false =>
            have hl6 := hlast
            simp only [Bool.false_eq_true, if_false, Option.some.injEq] at hl6
            subst hl6
            simp only [Act.put, List.setIfInBounds_toArray, List.set_cons_zero, List.set_cons_succ]
            go_wp2
            go_ret
            exact ⟨rfl, hM8.out⟩
end Go.Proofs.Ytfekpmbecoeijaa.Hand
namespace Go.Proofs.Ytfekpmbecoeijaa.Hand
open Go.RowKit Go.Proofs.YtfekpmbecoeijaaW.PrintWords Go.Proofs.YtfekpmbecoeijaaW.PrintLast Go.Proofs.YtfekpmbecoeijaaW.PrintMore Go.Proofs.Ytfekpmbecoeijaa.Q Go.Proofs.Ytfekpmbecoeijaa.RF
set_option linter.unusedVariables false
set_option linter.unusedSimpArgs false
set_option maxRecDepth 100000
def kidAt (fu : Nat) (at_ : Int) : List S26 → Int → Option Nat
  | [], _ => none
  | k :: ks, h => (lenOf fu k).bind fun l => if h + l < 9223372036854775807 then if at_ < h + l then some 0 else (kidAt fu at_ ks (h + l)).map (· + 1) else none
def leafGo (fu : Nat) (at_ : Int) : Nat → Cu → Option Cu
  | 0, _ => none
  | s + 1, c => if c.ok ∧ c.now.f6.length < 4611686018427387904 ∧ 0 ≤ c.at_ then (cOwn c.now).bind fun o => if c.at_ + o < 9223372036854775807 then
      if at_ < c.at_ + o then some c else (kidAt fu at_ c.now.f6 (c.at_ + o)).bind fun i => (downF fu c (i : Int)).bind fun r => leafGo fu at_ s r.2 else none
    else none
def rootC (c : Cu) : Cu := ⟨c.ns.take 1, [], [0]⟩
def leafF (fu sz : Nat) (c : Cu) (at_ : Int) : Option (Bool × Cu) :=
  if at_ < 0 then some (false, c)
  else if c.ok then (lenOf fu (rd_T26 c.ns 0)).bind fun l => if l ≤ at_ then some (false, c) else (leafGo fu at_ sz (rootC c)).map fun c' => (true, c')
  else none
theorem ad0 (ad : Addr) : ad.add 0 = ad := by simp [go_sem]
set_option maxHeartbeats 8000000 in
theorem Leaf_nil (i : Int) (w : World) : Calls Try.prog 26 #[.pointer none, .int .i64 i] w fun e w' => e = .returned (.bool false) ∧ w' = w := by
  go_enter Try.func26, Try.ntmps26
  go_wp2
  go_ret
  exact ⟨rfl, rfl⟩
set_option maxHeartbeats 8000000 in
theorem Leaf_neg {g : Nat} {at_ : Int} (h : at_ < 0) (w : World) : Calls Try.prog 26 #[.pointer (some ⟨g, 0, none⟩), .int .i64 at_] w fun e w' => e = .returned (.bool false) ∧ w' = w := by
  have hb := decide_eq_true h
  go_enter Try.func26, Try.ntmps26
  go_wp2
  go_ret
  exact ⟨rfl, rfl⟩
set_option maxHeartbeats 8000000 in
theorem Leaf_far {B g : Nat} {v1 v2 v3 : Value} {c : Cu} {w : World} (hw : CurW B g v1 v2 v3 c w) (hk : c.ok) (fu : Nat) {at_ l : Int} (h0 : 0 ≤ at_) (hl : lenOf fu (rd_T26 c.ns 0) = some l) (hat : l ≤ at_) :
    Calls Try.prog 26 #[.pointer (some ⟨g, 0, none⟩), .int .i64 at_] w fun e w' => e = .returned (.bool false) ∧ Below w.heap.size w w' := by
  have hu26 := Try.underlying26
  have hb := decide_eq_false (show ¬ at_ < 0 by omega)
  have hb1 := decide_eq_true hat
  have hb2 : decide (at_ ≥ l) = true := decide_eq_true hat
  obtain ⟨A1, cc1, e1, hcc, C1⟩ := hw.r1.reads
  obtain ⟨ad, A4, c4, A6, c6, hA, q0, q1, q2, q3, q4, q5, q6, l4, g4, l6, g6⟩ := at_T26 C1 0 (by omega) (by have := hk.1; omega)
  generalize hL1 : c.ns.length = L1 at *
  subst e1 hA
  have y0 : w.cell? ⟨g, 0, none⟩ = some (.slice (some ad) L1 cc1) := (blk_cell hw.hb 0).trans rfl
  have i1 : (0 : Int) < (L1 : Int) := by have := hk.1; omega
  simp only [Int.toNat_zero, Nat.zero_mul, ad0] at q0 q1 q2 q3 q4 q5 q6
  generalize hn : rd_T26 c.ns 0 = n at *
  have hN := len_calls fu n A4 c4 A6 c6 l w g4 l4 g6 l6 hl
  replace hN := Aside0.mk hN
  clear hw hk C1 g4 g6
  go_enter Try.func26, Try.ntmps26
  go_wp2_with (go_at_call 29; refine hN.out.mono ?_; rintro e w4 ⟨rfl, hb4⟩)
  go_ret
  exact ⟨rfl, hb4⟩
set_option maxHeartbeats 8000000 in
theorem Leaf_calls {B g : Nat} {v1 v2 v3 : Value} {c : Cu} {w : World} (hw : CurW B g v1 v2 v3 c w) (hBw : B ≤ w.heap.size) (hk : c.ok) (fu sz : Nat) {at_ l : Int} (h0 : 0 ≤ at_) (hl : lenOf fu (rd_T26 c.ns 0) = some l) (hat : at_ < l) (c' : Cu) (h : leafGo fu at_ (sz + 1) (rootC c) = some c') :
    Calls Try.prog 26 #[.pointer (some ⟨g, 0, none⟩), .int .i64 at_] w fun e w' => e = .returned (.bool true) ∧ Moved B g v1 v2 v3 w c' w' := by
  have hu26 := Try.underlying26
  have hu59 := Try.underlying59
  have hb := decide_eq_false (show ¬ at_ < 0 by omega)
  have hb1 := decide_eq_false (show ¬ l ≤ at_ by omega)
  have hb2 : decide (at_ ≥ l) = false := decide_eq_false (by omega)
  obtain ⟨A1, cc1, e1, hcc, C1⟩ := hw.r1.reads
  obtain ⟨A1', _, k1, K1⟩ := hw.r1.cut (m := 1) (by have := hk.1; omega)
  obtain ⟨ad, A4, c4, A6, c6, hA, q0, q1, q2, q3, q4, q5, q6, l4, g4, l6, g6⟩ := at_T26 C1 0 (by omega) (by have := hk.1; omega)
  obtain ⟨A2, d2, e2, _, _⟩ := hw.r2.reads
  obtain ⟨A3, d3, e3, _, _⟩ := hw.r3.reads
  obtain rfl : A1' = A1 := by rw [e1] at k1; injection k1 with k1; exact k1.symm
  clear k1
  generalize hL1 : c.ns.length = L1 at *
  generalize hL2 : c.ps.length = L2 at e2
  generalize hL3 : c.hs.length = L3 at e3
  subst e1 hA e2 e3
  have y0 : w.cell? ⟨g, 0, none⟩ = some (.slice (some ad) L1 cc1) := (blk_cell hw.hb 0).trans rfl
  have i1 : (0 : Int) < (L1 : Int) := by have := hk.1; omega
  have i2 : (1 : Int) ≤ (L1 : Int) := by omega
  have i3 : (1 : Int) ≤ (cc1 : Int) := by omega
  simp only [Int.toNat_zero, Nat.zero_mul, ad0] at q0 q1 q2 q3 q4 q5 q6
  generalize hn : rd_T26 c.ns 0 = n at *
  have hN := len_calls fu n A4 c4 A6 c6 l w g4 l4 g6 l6 hl
  replace hN := Aside0.mk hN
  replace hw := Aside0.mk hw
  replace hk := Aside0.mk hk
  replace K1 := Aside0.mk K1
  replace hL1 := Aside0.mk hL1
  replace hL2 := Aside0.mk hL2
  replace hL3 := Aside0.mk hL3
  replace h := Aside0.mk h
  clear C1 g4 g6 hn
  go_enter Try.func26, Try.ntmps26
  go_upto_region 3 with (go_at_call 29; refine hN.out.mono ?_; rintro e w4 ⟨rfl, hb4⟩)
  have HW4 := hw.out.below hb4
  have z0 : w4.cell? ⟨g, 0, none⟩ = some (.slice (some ad) L1 cc1) := (blk_cell HW4.hb 0).trans rfl
  have hb5 := below_alloc (Below.refl w4.heap.size w4) (.cells #[.int .i64 0] 3)
  have HW5 := HW4.below hb5
  have s0 : (w4.alloc (.cells #[.int .i64 0] 3)).cell? ⟨g, 0, none⟩ = some (.slice (some ad) L1 cc1) := (blk_cell HW5.hb 0).trans rfl
  have s1 : (w4.alloc (.cells #[.int .i64 0] 3)).cell? ⟨g, 1, none⟩ = some (.slice A2 L2 d2) := (blk_cell HW5.hb 1).trans rfl
  have s2 : (w4.alloc (.cells #[.int .i64 0] 3)).cell? ⟨g, 2, none⟩ = some (.slice A3 L3 d3) := (blk_cell HW5.hb 2).trans rfl
  have f0 := blk_frozen HW5.hb 0
  have f1 := blk_frozen HW5.hb 1
  have f2 := blk_frozen HW5.hb 2
  replace HW5 := Aside0.mk HW5
  replace hb5 := Aside0.mk hb5
  replace HW4 := Aside0.mk HW4
  replace hb4 := Aside0.mk hb4
  clear y0 q0 q1 q2 q3 q4 q5 q6
  go_wp2
  have hb54 : Below w4.heap.size w4 (w4.alloc (.cells #[.int .i64 0] 3)) := hb5.out
  have hE : Chg (fun k => k = g) w4 ((((w4.alloc (.cells #[.int .i64 0] 3)).setCell ⟨g, 0, none⟩ (.slice (some ad) 1 1)).setCell ⟨g, 1, none⟩ (.slice none 0 0)).setCell ⟨g, 2, none⟩ (.slice (some ⟨w4.heap.size, 0, none⟩) 1 1)) := (((Chg.of_below _ hb5.out).trans (Chg.set (T := fun k => k = g) _ ⟨g, 0, none⟩ (.slice (some ad) 1 1) rfl) (fun _ _ h => h)).trans (Chg.set (T := fun k => k = g) _ ⟨g, 1, none⟩ (.slice none 0 0) rfl) (fun _ _ h => h)).trans (Chg.set (T := fun k => k = g) _ ⟨g, 2, none⟩ (.slice (some ⟨w4.heap.size, 0, none⟩) 1 1) rfl) (fun _ _ h => h)
  have hB4 : B ≤ w4.heap.size := Nat.le_trans hBw hb4.out.size
  have hgl := HW4.out.g_lt
  have hadl : ∀ k, some k = (Value.slice (some ad) 1 1).ownBlock → k < w.heap.size := fun k e => (K1.out.own k e.symm).2.2
  have hwl := hb4.out.size
  have hR3 := R_one (d := Kd.int .i64) (e := 3) (W := w4) (B := B) (x := (0 : Int)) (cs := [.int .i64 0]) (okp := fun _ => False) (ok := fun k => k ≠ g ∧ some k ≠ (Value.slice (some ad) 1 1).ownBlock ∧ some k ≠ (Value.slice none 0 0).ownBlock) (by rfl) rfl hB4 (fun k h _ => h.elim) ⟨by omega, fun e => by have := hadl _ e; omega, by simp [Value.ownBlock]⟩
  have hC6 : CurW B g (.slice (some ad) 1 1) (.slice none 0 0) (.slice (some ⟨w4.heap.size, 0, none⟩) 1 1) (rootC c) ((((w4.alloc (.cells #[.int .i64 0] 3)).setCell ⟨g, 0, none⟩ (.slice (some ad) 1 1)).setCell ⟨g, 1, none⟩ (.slice none 0 0)).setCell ⟨g, 2, none⟩ (.slice (some ⟨w4.heap.size, 0, none⟩) 1 1)) := by
    refine ⟨blk_put (blk_put (blk_put HW5.out.hb 0 _ rfl) 1 _ rfl) 2 _ rfl, hw.out.lg, ?_, Row.of (Kd.R_nil _ _ _ _ _), Row.of (Kd.R_far (Kd.R_far (Kd.R_far hR3 (fun k hk => hk.1) _) (fun k hk => hk.1) _) (fun k hk => hk.1) _)⟩
    refine (K1.out.bound.step (fun k hk hlt => (hE.block k (by omega) hk.1.1).trans (hb4.out.block k hlt))).mono (fun k hk => ⟨hk.1.1, by simp [Value.ownBlock], fun e => ?_⟩)
    have e : some k = some w4.heap.size := e
    injection e with e
    have := hk.2.2
    omega
  obtain ⟨w6, hw6⟩ : ∃ w6, ((((w4.alloc (.cells #[.int .i64 0] 3)).setCell ⟨g, 0, none⟩ (.slice (some ad) 1 1)).setCell ⟨g, 1, none⟩ (.slice none 0 0)).setCell ⟨g, 2, none⟩ (.slice (some ⟨w4.heap.size, 0, none⟩) 1 1)) = w6 := ⟨_, rfl⟩
  rw [hw6] at hE hC6 ⊢
  have hM6 : Moved B g (.slice (some ad) L1 cc1) (.slice A2 L2 d2) (.slice A3 L3 d3) w (rootC c) w6 := by
    refine ⟨_, _, _, (Chg.of_below _ hb4.out).trans hE (fun k _ h => .inl h), hC6, ?_⟩
    rintro k (h | h | h | h)
    · exact .inl (.inl h)
    · exact .inl (.inr (.inl (h.trans own_cut)))
    · cases h
    · have e : some k = some w4.heap.size := h
      injection e with e
      exact .inr (by omega)
  replace hM6 := Aside0.mk hM6
  clear hw6 hE hC6 hR3 hadl s0 s1 s2 f0 f1 f2 z0 hb54 hb1 hb2
  go_loopg [] sz (fun mm wr => ∃ cc, Aside0 (Moved B g (.slice (some ad) L1 cc1) (.slice A2 L2 d2) (.slice A3 L3 d3) w cc wr ∧ leafGo fu at_ (mm + 1) cc = some c'))
  case atStart => exact ⟨rootC c, ⟨hM6.out, h.out⟩⟩
  case round =>
    obtain ⟨cc, hv⟩ := hrel
    obtain ⟨⟨t1, t2, t3, hG, hC, hmi⟩, hgo⟩ := hv.out
    unfold leafGo at hgo
    by_cases hkk : cc.ok ∧ cc.now.f6.length < 4611686018427387904 ∧ 0 ≤ cc.at_
    case neg => rw [if_neg hkk] at hgo; cases hgo
    rw [if_pos hkk] at hgo
    obtain ⟨o, ho, hgo⟩ := Option.bind_eq_some_iff.1 hgo
    by_cases hsum : cc.at_ + o < 9223372036854775807
    case neg => rw [if_neg hsum] at hgo; cases hgo
    rw [if_pos hsum] at hgo
    have ho0 := cOwn_nonneg ho
    obtain ⟨hcok, hlim, hat0⟩ := hkk
    have hnow := now_calls hC cc.ps.length hcok.1 (by have := hcok.2.2; omega)
    have hnn : rd_T26 cc.ns (cc.ps.length : Int) = cc.now := rfl
    have hhh : rd cc.hs (cc.ps.length : Int) = cc.at_ := rfl
    rw [hnn] at hnow
    clear hnn
    generalize hna : cc.now = n at *
    generalize hh0 : cc.at_ = h0' at *
    generalize hmm : cc.ps.length = m at *
    have hBr : B ≤ wr.heap.size := Nat.le_trans hBw hG.size
    obtain ⟨hcok1, hcok2, hcok3⟩ := hcok
    rw [hmm] at hcok1 hcok2 hcok3
    replace hC := Aside0.mk hC
    replace hG := Aside0.mk hG
    replace hmi := Aside0.mk hmi
    replace hnow := Aside0.mk hnow
    replace hgo := Aside0.mk hgo
    replace ho := Aside0.mk ho
    replace hna := Aside0.mk hna
    replace hh0 := Aside0.mk hh0
    replace hmm := Aside0.mk hmm
    replace hhh := Aside0.mk hhh
    replace hcok1 := Aside0.mk hcok1
    replace hcok2 := Aside0.mk hcok2
    clear l4 l6
    go_upto_region 5 with (go_at_call 41; refine hnow.out.mono ?_; rintro e w2 ⟨A4, c4, A6, c6, rfl, l4, g4, l6, g6, hb2⟩; replace hb2 := Aside0.mk hb2; replace g4 := Aside0.mk g4; replace g6 := Aside0.mk g6)
    obtain ⟨w3, hw3⟩ : ∃ w3, w2.alloc (Obj.cells #[.int .i64 n.f0, .int .i64 n.f1, .int .i64 n.f2, .int .i64 n.f3, .slice A4 n.f4.length c4, .string n.f5, .slice A6 n.f6.length c6] 26) = w3 := ⟨_, rfl⟩
    have hB3 : Below wr.heap.size wr w3 := hw3 ▸ below_alloc hb2.out _
    have hk3 : w3.heap[w2.heap.size]? = some (.cells #[.int .i64 n.f0, .int .i64 n.f1, .int .i64 n.f2, .int .i64 n.f3, .slice A4 n.f4.length c4, .string n.f5, .slice A6 n.f6.length c6] 26 (0, 0)) := hw3 ▸ blk_new _ _
    have HC3 := hC.out.below hB3
    have hb23 : Below w2.heap.size w2 w3 := hw3 ▸ below_alloc (Below.refl _ _) _
    have g4' := Kd.C_below g4.out hb23
    have g6' := Kd.C_below g6.out hb23
    obtain ⟨Ah, e3, eh, hhl, hCh⟩ := HC3.r3.reads
    obtain ⟨ad3, hA3, q0⟩ := Kd.at_int hCh (m : Int) (by omega) (by have := hcok2.out; omega)
    subst hA3
    simp only [Int.toNat_natCast] at q0
    rw [hhh.out] at q0
    obtain ⟨L, hL⟩ : ∃ L, cc.hs.length = L := ⟨_, rfl⟩
    have hLm : L = m + 1 := by rw [← hL]; exact hcok2.out
    rw [hL] at eh
    subst eh
    have y2 : w3.cell? ⟨g, 2, none⟩ = some (.slice (some ad3) L e3) := (blk_cell HC3.hb 2).trans rfl
    have z0 : w3.cell? ⟨w2.heap.size, 0, none⟩ = some (.int .i64 n.f0) := (blk_cell hk3 0).trans rfl
    have z1 : w3.cell? ⟨w2.heap.size, 1, none⟩ = some (.int .i64 n.f1) := (blk_cell hk3 1).trans rfl
    have z2 : w3.cell? ⟨w2.heap.size, 2, none⟩ = some (.int .i64 n.f2) := (blk_cell hk3 2).trans rfl
    have z3 : w3.cell? ⟨w2.heap.size, 3, none⟩ = some (.int .i64 n.f3) := (blk_cell hk3 3).trans rfl
    have z4 : w3.cell? ⟨w2.heap.size, 4, none⟩ = some (.slice A4 n.f4.length c4) := (blk_cell hk3 4).trans rfl
    have z5 : w3.cell? ⟨w2.heap.size, 5, none⟩ = some (.string n.f5) := (blk_cell hk3 5).trans rfl
    have z6 : w3.cell? ⟨w2.heap.size, 6, none⟩ = some (.slice A6 n.f6.length c6) := (blk_cell hk3 6).trans rfl
    have hSof : ∀ w', Below w3.heap.size w3 w' → (Below w3.heap.size w3 w' ∧ w'.cell? ⟨g, 2, none⟩ = some (.slice (some ad3) L e3) ∧ w'.cell? (ad3.add m) = some (.int .i64 h0') ∧ w'.cell? ⟨w2.heap.size, 0, none⟩ = some (.int .i64 n.f0) ∧ w'.cell? ⟨w2.heap.size, 1, none⟩ = some (.int .i64 n.f1) ∧ w'.cell? ⟨w2.heap.size, 2, none⟩ = some (.int .i64 n.f2) ∧ w'.cell? ⟨w2.heap.size, 3, none⟩ = some (.int .i64 n.f3) ∧ w'.cell? ⟨w2.heap.size, 4, none⟩ = some (.slice A4 n.f4.length c4) ∧ w'.cell? ⟨w2.heap.size, 5, none⟩ = some (.string n.f5) ∧ w'.cell? ⟨w2.heap.size, 6, none⟩ = some (.slice A6 n.f6.length c6)) := fun w' hb => ⟨hb, (hb.cell (World.block_lt_of_cell? w3 _ y2)).trans y2, (hb.cell (World.block_lt_of_cell? w3 _ q0)).trans q0, (hb.cell (World.block_lt_of_cell? w3 _ z0)).trans z0, (hb.cell (World.block_lt_of_cell? w3 _ z1)).trans z1, (hb.cell (World.block_lt_of_cell? w3 _ z2)).trans z2, (hb.cell (World.block_lt_of_cell? w3 _ z3)).trans z3, (hb.cell (World.block_lt_of_cell? w3 _ z4)).trans z4, (hb.cell (World.block_lt_of_cell? w3 _ z5)).trans z5, (hb.cell (World.block_lt_of_cell? w3 _ z6)).trans z6⟩
    have i0 : 0 ≤ (m : Int) := by omega
    have i1 : (m : Int) < (L : Int) := by omega
    have hwr : IntKind.i64.wrap ((L : Int) - 1) = (m : Int) := by rw [IntKind.wrap_i64]; omega
    have hwo : IntKind.i64.wrap (h0' + o) = h0' + o := by rw [IntKind.wrap_i64]; omega
    have hS0 : Below w3.heap.size w3 w3 := Below.refl _ _
    replace hLm := Aside0.mk hLm
    replace hL := Aside0.mk hL
    replace hB3 := Aside0.mk hB3
    replace hk3 := Aside0.mk hk3
    replace HC3 := Aside0.mk HC3
    replace hb23 := Aside0.mk hb23
    replace g4' := Aside0.mk g4'
    replace g6' := Aside0.mk g6'
    replace hCh := Aside0.mk hCh
    rw [hw3]
    clear hw3
    go_region_held3 (fun w' => Below w3.heap.size w3 w' ∧ w'.cell? ⟨g, 2, none⟩ = some (.slice (some ad3) L e3) ∧ w'.cell? (ad3.add m) = some (.int .i64 h0') ∧ w'.cell? ⟨w2.heap.size, 0, none⟩ = some (.int .i64 n.f0) ∧ w'.cell? ⟨w2.heap.size, 1, none⟩ = some (.int .i64 n.f1) ∧ w'.cell? ⟨w2.heap.size, 2, none⟩ = some (.int .i64 n.f2) ∧ w'.cell? ⟨w2.heap.size, 3, none⟩ = some (.int .i64 n.f3) ∧ w'.cell? ⟨w2.heap.size, 4, none⟩ = some (.slice A4 n.f4.length c4) ∧ w'.cell? ⟨w2.heap.size, 5, none⟩ = some (.string n.f5) ∧ w'.cell? ⟨w2.heap.size, 6, none⟩ = some (.slice A6 n.f6.length c6))
      ((refine hSof _ ?_; repeat (first | assumption | refine below_drew ?_ | refine below_alloc ?_ _)))
      ((go_at_call 46; refine (cown_calls n A4 c4 A6 c6 o _ (Kd.C_below g4'.out (‹Below w3.heap.size w3 _ ∧ _›).1) l4 ho.out).mono ?_; rintro e w7 ⟨rfl, hb7⟩; have hb8 := below_step (‹Below w3.heap.size w3 _ ∧ _›).1 hb7))
    rename_i hHeld
    clear hHeld hSof y2 q0 z0 z1 z2 z3 z4 z5 z6 hwr i0 i1 hS0 hb7
    have HC7 := HC3.out.below hb8
    have hk7 := blk_below hk3.out hb8
    have G6 := Kd.C_below g6'.out hb8
    have hB7 := below_step hB3.out hb8
    have z6 : w7.cell? ⟨w2.heap.size, 6, none⟩ = some (.slice A6 n.f6.length c6) := (blk_cell hk7 6).trans rfl
    replace HC7 := Aside0.mk HC7
    replace hk7 := Aside0.mk hk7
    replace G6 := Aside0.mk G6
    replace hb8 := Aside0.mk hb8
    replace hB7 := Aside0.mk hB7
    by_cases hf : at_ < h0' + o
    · have hfb := decide_eq_true hf
      have hgo' := hgo.out
      rw [if_pos hf] at hgo'
      obtain rfl := Option.some.inj hgo'
      clear hgo'
      go_wp2
      go_ret
      exact ⟨rfl, _, _, _, hG.out.trans (Chg.of_below (Mine g t1 t2 (Value.slice (some ad3) L e3)) hB7.out) (fun k hk h => (hmi.out k h).elim id (fun hl => by omega)), HC7.out, hmi.out⟩
    · have hfb := decide_eq_false hf
      have hgo' := hgo.out
      rw [if_neg hf] at hgo'
      obtain ⟨j, hj, hgo'⟩ := Option.bind_eq_some_iff.1 hgo'
      obtain ⟨⟨b9, c9⟩, hd9, hgo'⟩ := Option.bind_eq_some_iff.1 hgo'
      replace hj := Aside0.mk hj
      replace hd9 := Aside0.mk hd9
      have HG9 := Aside0.mk hgo'
      clear hgo'
      clear hgo
      obtain ⟨kk, hkk⟩ : ∃ kk, kk = gk := ⟨gk, rfl⟩
      subst hkk
      obtain ⟨ww, hww⟩ : ∃ ww, ww = wr := ⟨wr, rfl⟩
      subst hww
      have hfx0 : 0 ≤ h0' + o := by omega
      replace hfx0 := Aside0.mk hfx0
      clear hf ho0 hat0 hsum
      go_wp2
      go_loopg [6, 66] n.f6.length (fun mm u6 u66 wr2 => ∃ (x : Nat) (fx : Int), u66 = .int .i64 x ∧ mm + x = n.f6.length ∧ u6 = .int .i64 fx ∧ Aside0 (0 ≤ fx ∧ (∃ jj, kidAt fu at_ (n.f6.drop x) fx = some jj ∧ x + jj = j) ∧ Below w7.heap.size w7 wr2))
      case atStart => exact ⟨0, h0' + o, rfl, by omega, rfl, ⟨hfx0.out, ⟨j, by rw [List.drop_zero]; exact hj.out, by omega⟩, Below.refl _ _⟩⟩
      case round =>
        obtain ⟨x, fx, rfl, hmx, rfl, hv2⟩ := hrel
        obtain ⟨hfx, ⟨jj, hjj, hxj⟩, hbx⟩ := hv2.out
        by_cases hxl : x < n.f6.length
        case neg =>
          rw [List.drop_of_length_le (by omega)] at hjj
          cases hjj
        have hb : decide ((x : Int) < (n.f6.length : Int)) = true := decide_eq_true (by omega)
        rw [List.drop_eq_getElem_cons hxl] at hjj
        have hkx0 : rd_T26 n.f6 (x : Int) = n.f6[x] := by simp [rd_T26, hxl]
        rw [← hkx0] at hjj
        obtain ⟨ad2, B4, d4, B6, d6, hA6, q0, q1, q2, q3, q4, q5, q6, kl4, kg4, kl6, kg6⟩ := at_T26 (Kd.C_below G6.out hbx) (x : Int) (by omega) (by omega)
        subst hA6
        simp only [Int.toNat_natCast] at q0 q1 q2 q3 q4 q5 q6
        generalize hkk : rd_T26 n.f6 (x : Int) = k at q0 q1 q2 q3 q4 q5 q6 kl4 kg4 kl6 kg6 hjj
        unfold kidAt at hjj
        obtain ⟨lk, hlk, hjj⟩ := Option.bind_eq_some_iff.1 hjj
        by_cases hs : fx + lk < 9223372036854775807
        case neg => rw [if_neg hs] at hjj; cases hjj
        rw [if_pos hs] at hjj
        have hlk0 := lenOf_nonneg hlk
        have hw1 : IntKind.i64.wrap (fx + lk) = fx + lk := by rw [IntKind.wrap_i64]; omega
        have hw2 : IntKind.i64.wrap ((x : Int) + 1) = ((x + 1 : Nat) : Int) := by rw [IntKind.wrap_i64]; omega
        have x0 : 0 ≤ (x : Int) := by omega
        have x1 : (x : Int) < (n.f6.length : Int) := by omega
        replace hbx := Aside0.mk hbx
        replace kg4 := Aside0.mk kg4
        replace kg6 := Aside0.mk kg6
        replace hlk := Aside0.mk hlk
        replace hfx := Aside0.mk hfx
        replace hmx := Aside0.mk hmx
        replace hxj := Aside0.mk hxj
        clear hkx0 hkk hs hlk0
        go_upto_region 11 with (fail)
        obtain ⟨wx, hwx⟩ : ∃ wx, wr.alloc (Obj.cells #[.int .i64 k.f0, .int .i64 k.f1, .int .i64 k.f2, .int .i64 k.f3, .slice B4 k.f4.length d4, .string k.f5, .slice B6 k.f6.length d6] 26) = wx := ⟨_, rfl⟩
        have hbwx : Below wr.heap.size wr wx := hwx ▸ below_alloc (Below.refl _ _) _
        have hkx : wx.heap[wr.heap.size]? = some (.cells #[.int .i64 k.f0, .int .i64 k.f1, .int .i64 k.f2, .int .i64 k.f3, .slice B4 k.f4.length d4, .string k.f5, .slice B6 k.f6.length d6] 26 (0, 0)) := hwx ▸ blk_new _ _
        have b0 : wx.cell? ⟨wr.heap.size, 0, none⟩ = some (.int .i64 k.f0) := (blk_cell hkx 0).trans rfl
        have b1 : wx.cell? ⟨wr.heap.size, 1, none⟩ = some (.int .i64 k.f1) := (blk_cell hkx 1).trans rfl
        have b2 : wx.cell? ⟨wr.heap.size, 2, none⟩ = some (.int .i64 k.f2) := (blk_cell hkx 2).trans rfl
        have b3 : wx.cell? ⟨wr.heap.size, 3, none⟩ = some (.int .i64 k.f3) := (blk_cell hkx 3).trans rfl
        have b4 : wx.cell? ⟨wr.heap.size, 4, none⟩ = some (.slice B4 k.f4.length d4) := (blk_cell hkx 4).trans rfl
        have b5 : wx.cell? ⟨wr.heap.size, 5, none⟩ = some (.string k.f5) := (blk_cell hkx 5).trans rfl
        have b6 : wx.cell? ⟨wr.heap.size, 6, none⟩ = some (.slice B6 k.f6.length d6) := (blk_cell hkx 6).trans rfl
        have hL9 := len_calls fu k B4 d4 B6 d6 lk wx (Kd.C_below kg4.out hbwx) kl4 (Kd.C_below kg6.out hbwx) kl6 hlk.out
        have hb7x := below_step hbx.out hbwx
        replace hL9 := Aside0.mk hL9
        replace hb7x := Aside0.mk hb7x
        rw [hwx]
        clear hwx hkx hbwx q0 q1 q2 q3 q4 q5 q6
        by_cases hf : at_ < fx + lk
        · have hfb2 := decide_eq_true hf
          rw [if_pos hf] at hjj
          obtain rfl := Option.some.inj hjj
          obtain rfl : x = j := by have := hxj.out; omega
          clear hjj hf
          go_wp2_with (first | (go_at_call 29; refine hL9.out.mono ?_; rintro e w10 ⟨rfl, hb10⟩; have hb11 := below_step hb7x.out hb10; have hD := down_F (HC7.out.below hb11) (Nat.le_trans hBr (Nat.le_trans hB7.out.size hb11.size)) fu _ _ _ hd9.out; replace hb11 := Aside0.mk hb11; replace hD := Aside0.mk hD; clear hb10) | (go_at_call 42; refine hD.out.mono ?_; rintro e w12 ⟨rfl, hm12⟩; replace hm12 := Aside0.mk hm12))
          have hM12 := Moved.trans (hG.out.trans (Chg.of_below (Mine g t1 t2 (Value.slice (some ad3) L e3)) (below_step hB7.out hb11.out)) (fun k hk h => (hmi.out k h).elim id (fun hl => by omega))) hmi.out hm12.out
          have hgo9 := HG9.out
          cases kk with
          | zero => simp [leafGo] at hgo9
          | succ kk =>
            go_roundg kk
            case measure => omega
            case rel => exact ⟨c9, ⟨hM12, hgo9⟩⟩
        · have hfb2 := decide_eq_false hf
          rw [if_neg hf] at hjj
          obtain ⟨j2, hj2, rfl⟩ := Option.map_eq_some_iff.1 hjj
          replace hj2 := Aside0.mk hj2
          clear hjj hf
          go_wp2_with (go_at_call 29; refine hL9.out.mono ?_; rintro e w10 ⟨rfl, hb10⟩; have hb11 := below_step hb7x.out hb10; replace hb11 := Aside0.mk hb11; clear hb10)
          go_roundg (n.f6.length - (x + 1))
          case measure => have := hmx.out; omega
          case rel => exact ⟨x + 1, fx + lk, rfl, by omega, rfl, ⟨by have := hfx.out; have := lenOf_nonneg hlk.out; omega, ⟨j2, hj2.out, by have := hxj.out; omega⟩, hb11.out⟩⟩
theorem Leaf_F {B g : Nat} {v1 v2 v3 : Value} {c : Cu} {w : World} (hw : CurW B g v1 v2 v3 c w) (hBw : B ≤ w.heap.size) (fu sz : Nat) (at_ : Int) (b : Bool) (c' : Cu) (h : leafF fu sz c at_ = some (b, c')) :
    Calls Try.prog 26 #[.pointer (some ⟨g, 0, none⟩), .int .i64 at_] w fun e w' => e = .returned (.bool b) ∧ Moved B g v1 v2 v3 w c' w' := by
  unfold leafF at h
  by_cases hneg : at_ < 0
  · rw [if_pos hneg] at h
    obtain ⟨rfl, rfl⟩ := Prod.mk.inj (Option.some.inj h)
    refine (Leaf_neg hneg w).mono ?_
    rintro e w' ⟨rfl, rfl⟩
    exact ⟨rfl, .of hw (Below.refl _ _)⟩
  rw [if_neg hneg] at h
  by_cases hk : c.ok
  case neg => rw [if_neg hk] at h; cases h
  rw [if_pos hk] at h
  obtain ⟨l, hl, h⟩ := Option.bind_eq_some_iff.1 h
  by_cases hf : l ≤ at_
  · rw [if_pos hf] at h
    obtain ⟨rfl, rfl⟩ := Prod.mk.inj (Option.some.inj h)
    refine (Leaf_far hw hk fu (by omega) hl hf).mono ?_
    rintro e w' ⟨rfl, hb⟩
    exact ⟨rfl, .of hw hb⟩
  · rw [if_neg hf] at h
    obtain ⟨c2, hgo, h⟩ := Option.map_eq_some_iff.1 h
    obtain ⟨rfl, rfl⟩ := Prod.mk.inj h
    cases sz with
    | zero => simp [leafGo] at hgo
    | succ sz => exact Leaf_calls hw hBw hk fu sz (by omega) hl (by omega) c2 hgo
end Go.Proofs.Ytfekpmbecoeijaa.Hand
namespace Go.Proofs.Ytfekpmbecoeijaa.Hand
open Go.RowKit Go.Proofs.YtfekpmbecoeijaaW.PrintWords Go.Proofs.YtfekpmbecoeijaaW.PrintLast Go.Proofs.YtfekpmbecoeijaaW.PrintMore Go.Proofs.Ytfekpmbecoeijaa.Q Go.Proofs.Ytfekpmbecoeijaa.RF
set_option linter.unusedVariables false
set_option linter.unusedSimpArgs false
set_option maxRecDepth 100000
set_option maxHeartbeats 8000000 in
theorem At_nil (w : World) : Calls Try.prog 14 #[.pointer none] w fun e w' => e = .returned (.int .i64 0) ∧ w' = w := by
  go_enter Try.func14, Try.ntmps14
  go_wp2
  go_ret
  exact ⟨rfl, rfl⟩
set_option maxHeartbeats 8000000 in
theorem Path_nil (w : World) : Calls Try.prog 13 #[.pointer none] w fun e w' => e = .returned (.slice none 0 0) ∧ w' = w := by
  go_enter Try.func13, Try.ntmps13
  go_wp2
  go_ret
  exact ⟨rfl, rfl⟩
set_option maxHeartbeats 8000000 in
theorem Node_nil (w : World) : Calls Try.prog 17 #[.pointer none] w fun e w' => e = .returned (.agg #[.int .i64 0, .int .i64 0, .int .i64 0, .int .i64 0, .slice none 0 0, .string ⟨#[]⟩, .slice none 0 0]) ∧ Below w.heap.size w w' := by
  have hu26 := Try.underlying26
  have hk1 := blk_new w (.cells #[.int .i64 0, .int .i64 0, .int .i64 0, .int .i64 0, .slice none 0 0, .string ⟨#[]⟩, .slice none 0 0] 26)
  have hB1 := below_alloc (Below.refl w.heap.size w) (.cells #[.int .i64 0, .int .i64 0, .int .i64 0, .int .i64 0, .slice none 0 0, .string ⟨#[]⟩, .slice none 0 0] 26)
  obtain ⟨w1, hw1⟩ : ∃ w1, w.alloc (.cells #[.int .i64 0, .int .i64 0, .int .i64 0, .int .i64 0, .slice none 0 0, .string ⟨#[]⟩, .slice none 0 0] 26) = w1 := ⟨_, rfl⟩
  rw [hw1] at hk1 hB1
  have b0 : w1.cell? ⟨w.heap.size, 0, none⟩ = some (.int .i64 0) := (blk_cell hk1 0).trans rfl
  have f0 := blk_frozen hk1 0
  have b1 : w1.cell? ⟨w.heap.size, 1, none⟩ = some (.int .i64 0) := (blk_cell hk1 1).trans rfl
  have f1 := blk_frozen hk1 1
  have b2 : w1.cell? ⟨w.heap.size, 2, none⟩ = some (.int .i64 0) := (blk_cell hk1 2).trans rfl
  have f2 := blk_frozen hk1 2
  have b3 : w1.cell? ⟨w.heap.size, 3, none⟩ = some (.int .i64 0) := (blk_cell hk1 3).trans rfl
  have f3 := blk_frozen hk1 3
  have b4 : w1.cell? ⟨w.heap.size, 4, none⟩ = some (.slice none 0 0) := (blk_cell hk1 4).trans rfl
  have f4 := blk_frozen hk1 4
  have b5 : w1.cell? ⟨w.heap.size, 5, none⟩ = some (.string ⟨#[]⟩) := (blk_cell hk1 5).trans rfl
  have f5 := blk_frozen hk1 5
  have b6 : w1.cell? ⟨w.heap.size, 6, none⟩ = some (.slice none 0 0) := (blk_cell hk1 6).trans rfl
  have f6 := blk_frozen hk1 6
  replace hk1 := Aside0.mk hk1
  replace hB1 := Aside0.mk hB1
  go_enter Try.func17, Try.ntmps17
  go_wp2
  have hk2 := (blk_put (blk_put (blk_put (blk_put (blk_put (blk_put (blk_put hk1.out 0 (.int .i64 0) rfl) 1 (.int .i64 0) rfl) 2 (.int .i64 0) rfl) 3 (.int .i64 0) rfl) 4 (.slice none 0 0) rfl) 5 (.string ⟨#[]⟩) rfl) 6 (.slice none 0 0) rfl)
  have hg := Nat.le_refl w.heap.size
  have hBe := (below_set (g := w.heap.size) (j := 6) (v := .slice none 0 0) (below_set (g := w.heap.size) (j := 5) (v := .string ⟨#[]⟩) (below_set (g := w.heap.size) (j := 4) (v := .slice none 0 0) (below_set (g := w.heap.size) (j := 3) (v := .int .i64 0) (below_set (g := w.heap.size) (j := 2) (v := .int .i64 0) (below_set (g := w.heap.size) (j := 1) (v := .int .i64 0) (below_set (g := w.heap.size) (j := 0) (v := .int .i64 0) hB1.out hg) hg) hg) hg) hg) hg) hg)
  refine bodyPost_ret (results_single rfl (.cell w.heap.size 26 _ (0, 0) _ rfl hk2 Try.underlying26 rfl (by kernel_rfl) .nil)) rfl ⟨rfl, hBe⟩
theorem Mine.ge {B g : Nat} {v1 v2 v3 : Value} {c : Cu} {w : World} (h : CurW B g v1 v2 v3 c w) {k : Nat} (hk : Mine g v1 v2 v3 k) : B ≤ k ∧ k < w.heap.size := by
  rcases hk with rfl | hk | hk | hk
  · exact ⟨h.lg, h.g_lt⟩
  · exact ⟨(h.r1.own k hk.symm).2.1, (h.r1.own k hk.symm).2.2⟩
  · exact ⟨(h.r2.own k hk.symm).2.1, (h.r2.own k hk.symm).2.2⟩
  · exact ⟨(h.r3.own k hk.symm).2.1, (h.r3.own k hk.symm).2.2⟩
def Cur (B g : Nat) (w0 : World) (c : Cu) (w : World) : Prop := ∃ v1 v2 v3, CurW B g v1 v2 v3 c w ∧ Below B w0 w ∧ B ≤ w.heap.size
section
variable {B g : Nat} {w0 w w' : World} {c c' : Cu}
theorem Cur.below (h : Cur B g w0 c w) (hb : Below w.heap.size w w') : Cur B g w0 c w' := by
  obtain ⟨v1, v2, v3, h1, h2, h3⟩ := h
  exact ⟨v1, v2, v3, h1.below hb, h2.trans (hb.mono h3), Nat.le_trans h3 hb.size⟩
theorem Cur.moved {v1 v2 v3 : Value} (h1 : CurW B g v1 v2 v3 c w) (h2 : Below B w0 w) (h3 : B ≤ w.heap.size) (h : Moved B g v1 v2 v3 w c' w') : Cur B g w0 c' w' := by
  obtain ⟨u1, u2, u3, hG, hC, _⟩ := h
  exact ⟨u1, u2, u3, hC, hG.below_then h2 h3 (fun k hk hm => by have := (Mine.ge h1 hm).1; omega), Nat.le_trans h3 hG.size⟩
theorem Cur.leaf (h : Cur B g w0 c w) (fu sz : Nat) (at_ : Int) (b : Bool) (c' : Cu) (hf : leafF fu sz c at_ = some (b, c')) :
    Calls Try.prog 26 #[.pointer (some ⟨g, 0, none⟩), .int .i64 at_] w fun e w' => e = .returned (.bool b) ∧ Cur B g w0 c' w' := by
  obtain ⟨v1, v2, v3, h1, h2, h3⟩ := h
  refine (Leaf_F h1 h3 fu sz at_ b c' hf).mono ?_
  rintro e w' ⟨rfl, hm⟩
  exact ⟨rfl, .moved h1 h2 h3 hm⟩
theorem Cur.next (h : Cur B g w0 c w) (fu : Nat) (b : Bool) (c' : Cu) (hf : nextF fu c = some (b, c')) :
    Calls Try.prog 23 #[.pointer (some ⟨g, 0, none⟩)] w fun e w' => e = .returned (.bool b) ∧ Cur B g w0 c' w' := by
  obtain ⟨v1, v2, v3, h1, h2, h3⟩ := h
  refine (Next_calls h1 h3 fu b c' hf).mono ?_
  rintro e w' ⟨rfl, hm⟩
  exact ⟨rfl, .moved h1 h2 h3 hm⟩
theorem Cur.prev (h : Cur B g w0 c w) (fu sz : Nat) (b : Bool) (c' : Cu) (hf : prevF fu sz c = some (b, c')) :
    Calls Try.prog 24 #[.pointer (some ⟨g, 0, none⟩)] w fun e w' => e = .returned (.bool b) ∧ Cur B g w0 c' w' := by
  obtain ⟨v1, v2, v3, h1, h2, h3⟩ := h
  refine (Prev_calls h1 h3 fu sz b c' hf).mono ?_
  rintro e w' ⟨rfl, hm⟩
  exact ⟨rfl, .moved h1 h2 h3 hm⟩
theorem Cur.down (h : Cur B g w0 c w) (fu : Nat) (i : Int) (b : Bool) (c' : Cu) (hf : downF fu c i = some (b, c')) :
    Calls Try.prog 21 #[.pointer (some ⟨g, 0, none⟩), .int .i64 i] w fun e w' => e = .returned (.bool b) ∧ Cur B g w0 c' w' := by
  obtain ⟨v1, v2, v3, h1, h2, h3⟩ := h
  refine (Down_calls h1 h3 fu i b c' hf).mono ?_
  rintro e w' ⟨rfl, hm⟩
  exact ⟨rfl, .moved h1 h2 h3 hm⟩
theorem Cur.up (h : Cur B g w0 c w) (hk : c.ok) (m : Nat) (hm : c.ps.length = m + 1) :
    Calls Try.prog 22 #[.pointer (some ⟨g, 0, none⟩)] w fun e w' => e = .returned (.bool true) ∧ Cur B g w0 c.up w' := by
  obtain ⟨v1, v2, v3, h1, h2, h3⟩ := h
  refine (Up_calls h1 hk m hm).mono ?_
  rintro e w' ⟨rfl, hm⟩
  exact ⟨rfl, .moved h1 h2 h3 hm⟩
theorem Cur.at_ (h : Cur B g w0 c w) (hk : c.ok) : Calls Try.prog 14 #[.pointer (some ⟨g, 0, none⟩)] w fun e w' => e = .returned (.int .i64 c.at_) ∧ Cur B g w0 c w' := by
  obtain ⟨v1, v2, v3, h1, h2, h3⟩ := h
  refine (at_calls h1 c.ps.length hk.2.1 (by have := hk.2.2; omega)).mono ?_
  rintro e w' ⟨rfl, hb⟩
  exact ⟨rfl, Cur.below ⟨v1, v2, v3, h1, h2, h3⟩ hb⟩
theorem Cur.path (h : Cur B g w0 c w) (hk : c.ok) : Calls Try.prog 13 #[.pointer (some ⟨g, 0, none⟩)] w fun e w' => ∃ A cp, e = .returned (.slice A c.ps.length cp) ∧ c.ps.length ≤ cp ∧ Kd.C (Kd.int .i64) w' A c.ps.length c.ps ∧ Cur B g w0 c w' := by
  obtain ⟨v1, v2, v3, h1, h2, h3⟩ := h
  refine (path_calls h1 (by have := hk.2.2; omega)).mono ?_
  rintro e w' ⟨v, rfl, hR, hb⟩
  obtain ⟨A, cp, rfl⟩ := Kd.R_slice hR
  exact ⟨A, cp, rfl, (Kd.R_reads' hR).2.1, (Kd.R_reads' hR).2.2, Cur.below ⟨v1, v2, v3, h1, h2, h3⟩ hb⟩
theorem Cur.node (h : Cur B g w0 c w) (hk : c.ok) (fu : Nat) (hcl : cloneB fu c.now = true) : Calls Try.prog 17 #[.pointer (some ⟨g, 0, none⟩)] w fun e w' => ∃ A4 c4 A6 c6, e = .returned (.agg #[.int .i64 c.now.f0, .int .i64 c.now.f1, .int .i64 c.now.f2, .int .i64 c.now.f3, .slice A4 c.now.f4.length c4, .string c.now.f5, .slice A6 c.now.f6.length c6]) ∧ Cur B g w0 c w' := by
  obtain ⟨v1, v2, v3, h1, h2, h3⟩ := h
  refine (node_calls h1 fu c.ps.length hk.1 (by have := hk.2.2; omega) hcl).mono ?_
  rintro e w' ⟨v4, v6, rfl, r4, r6, hb⟩
  obtain ⟨A4, c4, rfl⟩ := Kd.R_slice r4
  obtain ⟨A6, c6, rfl⟩ := Kd.R_slice r6
  exact ⟨A4, c4, A6, c6, rfl, Cur.below ⟨v1, v2, v3, h1, h2, h3⟩ hb⟩
end
end Go.Proofs.Ytfekpmbecoeijaa.Hand
