/- The law CursorBack, walked. -/
import Derived.Test.YtfekpmbecoeijaaDd
namespace Go.Proofs.Ytfekpmbecoeijaa.Hand
open Go.RowKit Go.Proofs.YtfekpmbecoeijaaW.PrintWords Go.Proofs.YtfekpmbecoeijaaW.PrintLast Go.Proofs.YtfekpmbecoeijaaW.PrintMore Go.Proofs.Ytfekpmbecoeijaa.Q Go.Proofs.Ytfekpmbecoeijaa.RF Go.Proofs.Ytfekpmbecoeijaa.Pure
set_option linter.unusedVariables false
set_option linter.unusedSimpArgs false
set_option maxRecDepth 100000

theorem mem0 {α : Type} {a : α} {l : List α} : a ∈ a :: l := List.mem_cons_self
theorem mem1 {α : Type} {a b : α} {l : List α} : a ∈ b :: a :: l := List.mem_cons_of_mem _ mem0
theorem mem2 {α : Type} {a b c : α} {l : List α} : a ∈ b :: c :: a :: l := List.mem_cons_of_mem _ mem1

set_option maxHeartbeats 8000000 in
theorem lawBack_knows (k : Nat) (n : S26) (A4 : Option Addr) (c4 : Nat) (A6 : Option Addr) (c6 : Nat) (A1 : Option Addr) (c1 : Nat) (l1 : List Int) (at_ : Int) (b : Bool) (w : World) (hf : arboristref42_Few.f k n.f0 n.f1 n.f2 n.f3 n.f4 n.f5 n.f6 80 = some b) (hx : b = false ∨ 20 < l1.length)
    (hr4 : Kd.C k76 w A4 n.f4.length n.f4) (hc4 : n.f4.length ≤ c4) (hr6 : Kd.C k26 w A6 n.f6.length n.f6) (hc6 : n.f6.length ≤ c6) :
    Calls Try.prog 5 #[nodeV n A4 c4 A6 c6, .slice A1 l1.length c1, .int .i64 at_] w fun e w' => e = .returned (.bool true) ∧ Below w.heap.size w w' := by
  have hu26 := Try.underlying26
  obtain ⟨ob, hob⟩ : ∃ ob, ob = Obj.cells #[.int .i64 n.f0, .int .i64 n.f1, .int .i64 n.f2, .int .i64 n.f3, .slice A4 n.f4.length c4, .string n.f5, .slice A6 n.f6.length c6] 26 := ⟨_, rfl⟩
  have hB1 : Below w.heap.size w (w.alloc ob) := below_alloc (Below.refl _ _) _
  have hN1 : NodeB n A4 c4 A6 c6 w.heap.size (w.alloc ob) := ⟨by rw [hob]; exact blk_new _ _, hc4, Kd.C_below hr4 hB1, hc6, Kd.C_below hr6 hB1⟩
  have hfew := arboristref42_Few.calls k n.f0 n.f1 n.f2 n.f3 A4 c4 n.f4 n.f5 A6 c6 n.f6 80 b _ hN1.g4 hN1.l4 hN1.g6 hN1.l6 hf
  obtain ⟨L, hL⟩ : ∃ L, l1.length = L := ⟨_, rfl⟩
  rw [hL] at hx ⊢
  replace hB1 := Aside0.mk hB1
  replace hfew := Aside0.mk hfew
  subst hob
  clear hr4 hr6 hf hN1
  cases b with
  | false =>
    clear hx
    go_enter Try.func5, Try.ntmps5
    go_wp2_with (first
      | (go_at_call 8; refine (knows_calls _).mono ?_; rintro e w3 ⟨rfl, hb3⟩; replace hb3 := Aside0.mk hb3)
      | (go_at_call 7; refine hfew.out.mono ?_; rintro e w2 ⟨rfl, hb2⟩; replace hb2 := Aside0.mk hb2))
    go_ret
    exact ⟨rfl, below_step (below_step hB1.out hb2.out) hb3.out⟩
  | true =>
    have hgt0 : 20 < L := hx.elim (fun h => by cases h) id
    have hgt : decide ((L : Int) > 20) = true := decide_eq_true (by omega)
    have hgt2 : decide ((20 : Int) < (L : Int)) = true := hgt
    have hgt3 : decide (20 < L) = true := decide_eq_true hgt0
    clear hx
    go_enter Try.func5, Try.ntmps5
    go_wp2_with (first
      | (go_at_call 8; refine (knows_calls _).mono ?_; rintro e w3 ⟨rfl, hb3⟩; replace hb3 := Aside0.mk hb3)
      | (go_at_call 7; refine hfew.out.mono ?_; rintro e w2 ⟨rfl, hb2⟩; replace hb2 := Aside0.mk hb2))
    go_ret
    exact ⟨rfl, below_step (below_step hB1.out hb2.out) hb3.out⟩

set_option maxHeartbeats 8000000 in
theorem lawBack_true (k : Nat) (n : S26) (A4 : Option Addr) (c4 : Nat) (A6 : Option Addr) (c6 : Nat) (A1 : Option Addr) (c1 : Nat) (l1 : List Int) (at_ : Int) (w : World) (hf : arboristref42_Few.f k n.f0 n.f1 n.f2 n.f3 n.f4 n.f5 n.f6 80 = some true) (hO : OkT n) (htot : tot 100 n ≤ 2480) (hx : l1.length ≤ 20)
    (hr4 : Kd.C k76 w A4 n.f4.length n.f4) (hc4 : n.f4.length ≤ c4) (hr6 : Kd.C k26 w A6 n.f6.length n.f6) (hc6 : n.f6.length ≤ c6) (hr1 : Kd.C (Kd.int .i64) w A1 l1.length l1) (hc1 : l1.length ≤ c1) :
    Calls Try.prog 5 #[nodeV n A4 c4 A6 c6, .slice A1 l1.length c1, .int .i64 at_] w fun e w' => e = .returned (.bool true) ∧ Below w.heap.size w w' := by
  have hu26 := Try.underlying26
  obtain ⟨ob, hob⟩ : ∃ ob, ob = Obj.cells #[.int .i64 n.f0, .int .i64 n.f1, .int .i64 n.f2, .int .i64 n.f3, .slice A4 n.f4.length c4, .string n.f5, .slice A6 n.f6.length c6] 26 := ⟨_, rfl⟩
  have hB1 : Below w.heap.size w (w.alloc ob) := below_alloc (Below.refl _ _) _
  have hN1 : NodeB n A4 c4 A6 c6 w.heap.size (w.alloc ob) := ⟨by rw [hob]; exact blk_new _ _, hc4, Kd.C_below hr4 hB1, hc6, Kd.C_below hr6 hB1⟩
  have hfew := arboristref42_Few.calls k n.f0 n.f1 n.f2 n.f3 A4 c4 n.f4 n.f5 A6 c6 n.f6 80 true _ hN1.g4 hN1.l4 hN1.g6 hN1.l6 hf
  obtain ⟨L, hL⟩ : ∃ L, l1.length = L := ⟨_, rfl⟩
  rw [hL] at hx hr1 hc1 ⊢
  have hgt : decide ((L : Int) > 20) = false := decide_eq_false (by omega)
  have hgt2 : decide ((20 : Int) < (L : Int)) = false := hgt
  have hgt3 : decide (20 < L) = false := decide_eq_false (by omega)
  replace hN1 := Aside0.mk hN1
  replace hB1 := Aside0.mk hB1
  replace hfew := Aside0.mk hfew
  replace hO := Aside0.mk hO
  replace hr1 := Aside0.mk hr1
  replace htot := Aside0.mk htot
  subst hob
  clear hr4 hr6 hf
  go_enter Try.func5, Try.ntmps5
  go_upto_region 3 with (go_at_call 7; refine hfew.out.mono ?_; rintro e w2 ⟨rfl, hb2⟩; replace hb2 := Aside0.mk hb2)
  have hN2 := hN1.out.below hb2.out
  have hB2 := below_step hB1.out hb2.out
  have hR2 := Kd.C_below hr1.out hB2
  obtain ⟨x0, x1, x2, x3, x4, x5, x6⟩ := hN2.cells
  have hw2 : w.heap.size < w2.heap.size := World.block_lt_of_cell? _ _ x0
  replace hN2 := Aside0.mk hN2
  replace hB2 := Aside0.mk hB2
  replace hR2 := Aside0.mk hR2
  go_wp2_with (go_at_call 9; refine (new_cur hO.out w2 hN2.out.l4 hN2.out.g4 hN2.out.l6 hN2.out.g6).mono ?_; rintro e w3 ⟨g, rfl, hC3⟩; replace hC3 := Aside0.mk hC3)
  clear x0 x1 x2 x3 x4 x5 x6
  go_loopg [8] L (fun mm u8 wr => ∃ (i : Nat) (p : List Int) (y : S26), u8 = .int .i64 (i : Int) ∧ mm + i = L ∧ Aside0 (getP n p = some y ∧ Held w2.heap.size g w2 [] (curP 100 n p) wr))
  case atStart => exact ⟨0, [], n, rfl, by omega, rfl, .of hC3.out⟩
  case round =>
    obtain ⟨i, p, y, rfl, hmi, hv⟩ := hrel
    obtain ⟨hg, hH⟩ := hv.out
    have hok := ok_cur hO.out.sm (show 100 < 1000000 by omega) hg
    have hpl := (getP_small p 100 n y hO.out.sm hg).1
    have hlp : p.length < 1000000 := by omega
    by_cases hlt : i < L
    · have hb : decide ((i : Int) < (L : Int)) = true := decide_eq_true (by omega)
      have hb2' : decide (i < L) = true := decide_eq_true hlt
      have hw1 : IntKind.i64.wrap ((i : Int) + 1) = ((i + 1 : Nat) : Int) := by rw [IntKind.wrap_i64]; omega
      have i0 : 0 ≤ (i : Int) := by omega
      have i1 : (i : Int) < (L : Int) := by omega
      replace hg := Aside0.mk hg
      replace hH := Aside0.mk hH
      clear hv
      go_upto_region 10 with (go_at_call 13; refine (hH.out.path hok (p := p) rfl).mono ?_; rintro e w4 ⟨A9, c9, rfl, hD4⟩; replace hD4 := Aside0.mk hD4)
      obtain ⟨ad, hA, q2⟩ := Kd.at_int hR2.out (i : Int) i0 i1
      subst hA
      simp only [Int.toNat_natCast] at q2
      generalize rd l1 (i : Int) = v at q2
      have hadl := World.block_lt_of_cell? _ _ q2
      have q0 := (hD4.out.cur.bel.cell hadl).trans q2
      replace q2 := Aside0.mk q2
      replace hadl := Aside0.mk hadl
      by_cases hvi : 0 ≤ v ∧ v < (y.f6.length : Int)
      · have hdn := down_yes hO.out.sm (show 100 < 1000000 by omega) hO.out.tt hg.out v hvi
        have hg2 : getP n (p ++ [v]) = some (rd_T26 y.f6 v) := by rw [getP_snoc p n y v hg.out, if_pos hvi]
        have hok2 := ok_cur hO.out.sm (show 100 < 1000000 by omega) hg2
        have hpl2 := (getP_small (p ++ [v]) 100 n _ hO.out.sm hg2).1
        have hupc : (curP 100 n (p ++ [v])).up = curP 100 n p := up_cur hg.out (by simpa using hpl2)
        have hps2 : (curP 100 n (p ++ [v])).ps.length = p.length + 1 := by simp [curP]
        have hlp2 : (p ++ [v]).length < 1000000 := by omega
        have hps3 : (curP 100 n (p ++ [v])).ps = p ++ [v] := rfl
        generalize hpv : p ++ [v] = pv at hdn hg2 hok2 hpl2 hupc hps2 hlp2 hps3
        clear hpl2 hpv
        replace hps3 := Aside0.mk hps3
        replace hdn := Aside0.mk hdn
        replace hg2 := Aside0.mk hg2
        replace hupc := Aside0.mk hupc
        replace hps2 := Aside0.mk hps2
        clear hvi
        go_upto_region 12 with (first
          | (go_at_call 13; refine (hD5.out.path hok2 hps3.out).mono ?_; rintro e w6 ⟨A10, c10, rfl, hD6⟩; replace hD6 := Aside0.mk hD6)
          | (go_at_call 21; refine (hD4.out.down 100 v _ _ hdn.out).mono ?_; rintro e w5 ⟨rfl, hD5⟩; replace hD5 := Aside0.mk hD5))
        go_wp2_with (first
          | (go_at_call 12; refine (hD11.out.same (r1 := ⟨A12, c12, pv⟩) (r2 := ⟨A10, c10, pv⟩) mem0 mem2 rfl hlp2).mono ?_; rintro e w12 ⟨rfl, hD12⟩; replace hD12 := Aside0.mk hD12)
          | (go_at_call 13; refine (hD10.out.path hok2 hps3.out).mono ?_; rintro e w11 ⟨A12, c12, rfl, hD11⟩; replace hD11 := Aside0.mk hD11)
          | (go_at_call 21; refine (hD9.out.down 100 v _ _ hdn.out).mono ?_; rintro e w10 ⟨rfl, hD10⟩; replace hD10 := Aside0.mk hD10)
          | (go_at_call 12; refine (hD8.out.same (r1 := ⟨A11, c11, p⟩) (r2 := ⟨A9, c9, p⟩) mem0 mem2 rfl hlp).mono ?_; rintro e w9 ⟨rfl, hD9⟩; have q9 := (hD9.cur.bel.cell hadl.out).trans q2.out; replace hD9 := Aside0.mk hD9)
          | (go_at_call 13; refine (hD7.out.path hok (p := p) rfl).mono ?_; rintro e w8 ⟨A11, c11, rfl, hD8⟩; replace hD8 := Aside0.mk hD8)
          | (go_at_call 22; refine (hD6.out.up hok2 p.length hps2.out hupc.out).mono ?_; rintro e w7 ⟨rfl, hD7⟩; replace hD7 := Aside0.mk hD7))
        go_roundg (L - (i + 1))
        case measure => omega
        case rel => exact ⟨i + 1, pv, _, rfl, by omega, hg2.out, hD12.out.only (fun r hr => by cases hr)⟩
      · have hdn := down_no hO.out.sm (show 100 < 1000000 by omega) hg.out v hvi
        replace hdn := Aside0.mk hdn
        clear hvi
        go_wp2_with (go_at_call 21; refine (hD4.out.down 100 v _ _ hdn.out).mono ?_; rintro e w5 ⟨rfl, hD5⟩; replace hD5 := Aside0.mk hD5)
        go_roundg (L - (i + 1))
        case measure => omega
        case rel => exact ⟨i + 1, p, y, rfl, by omega, hg.out, hD5.out.only (fun r hr => by cases hr)⟩
    · have hb : decide ((i : Int) < (L : Int)) = false := decide_eq_false (by omega)
      have hb2' : decide (i < L) = false := decide_eq_false hlt
      obtain ⟨Ao, Bo, hord⟩ := ord_split hO.out hg
      obtain ⟨yy, hP⟩ := place hO.out hord
      have hnx := hP.next
      replace hg := Aside0.mk hg
      replace hH := Aside0.mk hH
      replace hord := Aside0.mk hord
      replace hP := Aside0.mk hP
      replace hnx := Aside0.mk hnx
      clear hv
      go_upto_region 15 with (go_at_call 13; refine (hH.out.path hok (p := p) rfl).mono ?_; rintro e w4 ⟨A9, c9, rfl, hD4⟩; replace hD4 := Aside0.mk hD4)
      go_cut [85] (fun v85 wc => v85 = .bool false ∧ Aside0 (Held w2.heap.size g w2 [⟨A9, c9, p⟩] (curP 100 n p) wc))
      case first =>
        cases Bo with
        | nil =>
          go_wp2_with (go_at_call 23; refine (hD4.out.next 100 _ _ hnx.out).mono ?_; rintro e w5 ⟨rfl, hD5⟩; replace hD5 := Aside0.mk hD5)
          go_meet
          case rel => exact ⟨rfl, hD5⟩
        | cons q Bo =>
          obtain ⟨yq, hQ⟩ := place hO.out (A := Ao ++ [p]) (p := q) (B := Bo) (by rw [hord.out, List.append_assoc]; rfl)
          have hpv := hQ.prev
          rw [List.getLast?_concat] at hpv
          replace hpv := Aside0.mk hpv
          clear hQ
          go_wp2_with (first
            | (go_at_call 12; refine (hD8.out.same (r1 := ⟨A11, c11, p⟩) (r2 := ⟨A9, c9, p⟩) mem0 mem1 rfl hlp).mono ?_; rintro e w9 ⟨rfl, hD9⟩; replace hD9 := Aside0.mk hD9)
            | (go_at_call 13; refine (hD6.out.path hok (p := p) rfl).mono ?_; rintro e w8 ⟨A11, c11, rfl, hD8⟩; replace hD8 := Aside0.mk hD8)
            | (go_at_call 24; refine (hD5.out.prev 100 100 _ _ hpv.out).mono ?_; rintro e w6 ⟨rfl, hD6⟩; replace hD6 := Aside0.mk hD6)
            | (go_at_call 23; refine (hD4.out.next 100 _ _ hnx.out).mono ?_; rintro e w5 ⟨rfl, hD5⟩; replace hD5 := Aside0.mk hD5))
          go_meet
          case rel => exact ⟨rfl, ⟨hD9.out.only (fun r hr => List.mem_cons_of_mem _ hr)⟩⟩
      obtain ⟨rfl, hDc⟩ := hcut
      have hNc := hN2.out.below hDc.out.cur.bel
      obtain ⟨x0, x1, x2, x3, x4, x5, x6⟩ := hNc.cells
      have htx := text_calls 100 n A4 c4 A6 c6 wc (pre 100 n) hNc.g4 hNc.l4 hNc.g6 hNc.l6 (preF_some 100 n hO.out.sm) ⟨fun m hm => by have := pre_small 100 n hO.out.sm m hm; omega, by rw [lenL_pre 100 n hO.out.sm]; have := htot.out; omega⟩
      have hTs : (txtJ (pre 100 n) (pre 100 n).length).size = tot 100 n := by rw [txtJ_size, List.take_length, lenL_pre 100 n hO.out.sm]
      have hex := fun {A B q y'} (hQ : PlaceT n A q B y') => own_at hO.out hQ
      generalize txtJ (pre 100 n) (pre 100 n).length = T at htx hTs hex
      obtain ⟨N, hN⟩ : ∃ N, tot 100 n = N := ⟨_, rfl⟩
      rw [hN] at hTs
      have hN62 : N ≤ 2480 := by rw [← hN]; exact htot.out
      obtain ⟨was, hwas⟩ : ∃ was : Pth, was = ⟨A9, c9, p⟩ := ⟨_, rfl⟩
      have hcps : (curP 100 n p).ps = p := rfl
      replace hNc := Aside0.mk hNc
      replace htx := Aside0.mk htx
      replace hex := Aside0.mk @hex
      replace hN := Aside0.mk hN
      replace hTs := Aside0.mk hTs
      clear hnx hH hD4
      by_cases hno : at_ < 0 ∨ (N : Int) ≤ at_
      · have hlf := leaf_no hO.out hg.out (at_ := at_) (by rw [hN.out]; exact hno)
        replace hlf := Aside0.mk hlf
        go_upto_region 19 with (first
          | (go_at_call 26; refine (hD5.out.leaf 100 100 at_ _ _ hlf.out).mono ?_; rintro e w6 ⟨rfl, hD6⟩; replace hD6 := Aside0.mk hD6)
          | (go_at_call 25; refine htx.out.mono ?_; rintro e w5 ⟨rfl, hb5⟩; have hD5 := hDc.out.below hb5; replace hD5 := Aside0.mk hD5; clear hb5))
        by_cases hneg : at_ < 0
        · have hng := decide_eq_true hneg
          clear hno hneg
          go_wp2_with (first
            | (go_at_call 8; refine (knows_calls _).mono ?_; rintro e w14 ⟨rfl, hb14⟩; have hC14 := hD9.out.below hb14; replace hC14 := Aside0.mk hC14; clear hb14)
            | (go_at_call 13; refine (hD8.out.path hok hcps).mono ?_; rintro e w9 ⟨A12, c12, rfl, hD9⟩; replace hD9 := Aside0.mk hD9)
            | (go_at_call 12; refine (hD7.out.same (r1 := ⟨A11, c11, p⟩) (r2 := ⟨A9, c9, p⟩) mem0 mem1 rfl hlp).mono ?_; rintro e w8 ⟨rfl, hD8⟩; replace hD8 := Aside0.mk hD8)
            | (go_at_call 13; refine (hD6.out.path hok hcps).mono ?_; rintro e w7 ⟨A11, c11, rfl, hD7⟩; replace hD7 := Aside0.mk hD7))
          go_ret
          exact ⟨rfl, hB2.out.trans (hC14.out.cur.bel.mono hB2.out.size)⟩
        · have hng := decide_eq_false hneg
          have hge0 : (N : Int) ≤ at_ := hno.elim (fun h => absurd h hneg) id
          have hge : decide (at_ ≥ (T.size : Int)) = true := decide_eq_true (by have := hTs.out; omega)
          have hge2 : decide ((T.size : Int) ≤ at_) = true := hge
          clear hno hneg
          go_wp2_with (first
            | (go_at_call 8; refine (knows_calls _).mono ?_; rintro e w14 ⟨rfl, hb14⟩; have hC14 := hD9.out.below hb14; replace hC14 := Aside0.mk hC14; clear hb14)
            | (go_at_call 13; refine (hD8.out.path hok hcps).mono ?_; rintro e w9 ⟨A12, c12, rfl, hD9⟩; replace hD9 := Aside0.mk hD9)
            | (go_at_call 12; refine (hD7.out.same (r1 := ⟨A11, c11, p⟩) (r2 := ⟨A9, c9, p⟩) mem0 mem1 rfl hlp).mono ?_; rintro e w8 ⟨rfl, hD8⟩; replace hD8 := Aside0.mk hD8)
            | (go_at_call 13; refine (hD6.out.path hok hcps).mono ?_; rintro e w7 ⟨A11, c11, rfl, hD7⟩; replace hD7 := Aside0.mk hD7))
          go_ret
          exact ⟨rfl, hB2.out.trans (hC14.out.cur.bel.mono hB2.out.size)⟩
      · obtain ⟨Aq, q, Bq, yq, hordq, hQ, hlf, hfr, hto⟩ := leaf_yes hO.out hg.out (at_ := at_) (by omega) (by rw [hN.out]; omega)
        have hxt := hex.out hQ
        have hst := lens_step hO.out hQ.nth
        have hln := hst.2
        rw [hst.1, hN.out] at hln
        obtain ⟨os, hos⟩ : ∃ os, ownT yq = os := ⟨_, rfl⟩
        have hsz : os.size = textLen yq := by rw [← hos]; exact ownT_size yq
        have hatq := hQ.at_
        obtain ⟨fr, hfrq⟩ : ∃ fr, lenL ((pre 100 n).take Aq.length) = fr := ⟨_, rfl⟩
        rw [hfrq] at hln hatq hxt hfr hto
        rw [hos] at hxt
        rw [← hsz] at hln hto
        have hTN := hTs.out
        have c1' : decide ((fr : Int) ≤ at_) = true := decide_eq_true hfr
        obtain ⟨hi, hhi⟩ : ∃ hi, fr + os.size = hi := ⟨_, rfl⟩
        have hwr : IntKind.i64.wrap ((fr : Int) + (os.size : Int)) = (hi : Int) := by rw [IntKind.wrap_i64]; omega
        have c2' : decide (at_ < (hi : Int)) = true := decide_eq_true (by omega)
        have c3' : decide ((fr : Int) ≥ 0) = true := decide_eq_true (by omega)
        have c3'' : decide (0 ≤ (fr : Int)) = true := c3'
        have hT1 : hi ≤ T.size := by omega
        have c4' : decide ((hi : Int) ≤ (T.size : Int)) = true := decide_eq_true (by omega)
        have c5' : decide (hi ≤ T.size) = true := decide_eq_true hT1
        have b0 : 0 ≤ (fr : Int) := by omega
        have b1 : (fr : Int) ≤ (hi : Int) := by omega
        have b2 : (hi : Int) ≤ (T.size : Int) := by omega
        have b3 : fr ≤ hi := by omega
        rw [hhi] at hxt
        have hQ' := hQ
        replace hQ := Aside0.mk hQ
        replace hlf := Aside0.mk hlf
        replace hhi := Aside0.mk hhi
        replace hordq := Aside0.mk hordq
        replace hos := Aside0.mk hos
        replace hatq := Aside0.mk hatq
        replace hfrq := Aside0.mk hfrq
        clear hno hst hln hsz hfr hto hTN hQ' hP
        go_upto_region 22 with (first
          | (go_at_call 14; refine (hD7.out.at_ hQ.out.ok hatq.out).mono ?_; rintro e w8 ⟨rfl, hD8⟩; replace hD8 := Aside0.mk hD8)
          | (go_at_call 27; refine hown.out.mono ?_; rintro e w7 ⟨rfl, hb7⟩; have hD7 := hD6b.out.below hb7; replace hD7 := Aside0.mk hD7; clear hb7)
          | (go_at_call 17; refine (hD6.out.cur.nodeB hQ.out.ok (Classical.choose hQ.out.sm) hQ.out.now (small_clone _ _ (Classical.choose_spec hQ.out.sm))).mono ?_; rintro e w6b ⟨E4, e4, E6, e6, rfl, l4, r4, l6, r6, hb6⟩; have hD6b := hD6.out.below hb6; have hown := refOwn_calls hQ.out.lead hQ.out.txt l4 r4 l6 r6; rw [hos.out] at hown; replace hown := Aside0.mk hown; replace hD6b := Aside0.mk hD6b; clear l4 r4 l6 r6 hb6)
          | (go_at_call 26; refine (hD5.out.leaf 100 100 at_ _ _ hlf.out).mono ?_; rintro e w6 ⟨rfl, hD6⟩; replace hD6 := Aside0.mk hD6)
          | (go_at_call 25; refine htx.out.mono ?_; rintro e w5 ⟨rfl, hb5⟩; have hD5 := hDc.out.below hb5; replace hD5 := Aside0.mk hD5; clear hb5))
        go_wp2_with (go_at_call 8; refine (knows_calls _).mono ?_; rintro e w14 ⟨rfl, hb14⟩; have hC14 := hD8.out.below hb14; replace hC14 := Aside0.mk hC14; clear hb14)
        go_ret
        exact ⟨rfl, hB2.out.trans (hC14.out.cur.bel.mono hB2.out.size)⟩
end Go.Proofs.Ytfekpmbecoeijaa.Hand
