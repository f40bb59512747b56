import Derived.Test.YtfekpmbecoeijaaCt
import Derived.Test.YtfekpmbecoeijaaQf31
import Derived.Test.YtfekpmbecoeijaaQf12
namespace Go.Proofs.Ytfekpmbecoeijaa.Hand
open Go.RowKit Go.Proofs.YtfekpmbecoeijaaW.PrintWords Go.Proofs.YtfekpmbecoeijaaW.PrintLast Go.Proofs.YtfekpmbecoeijaaW.PrintMore Go.Proofs.Ytfekpmbecoeijaa.Q Go.Proofs.Ytfekpmbecoeijaa.RF
set_option linter.unusedVariables false
set_option linter.unusedSimpArgs false
set_option maxRecDepth 100000
def kt1 : S26 := ⟨2, -1, 0, 0, [], ⟨#[49]⟩, []⟩
def ktp : S26 := ⟨3, -1, 0, 0, [], ⟨#[43]⟩, []⟩
def kt2 : S26 := ⟨2, -1, 0, 0, [], ⟨#[50]⟩, []⟩
def kn1 : S26 := ⟨-2, 2, 0, 0, [], ⟨#[]⟩, [kt1]⟩
def kn2 : S26 := ⟨-2, 2, 0, 0, [], ⟨#[]⟩, [kt2]⟩
def ksum : S26 := ⟨-2, 1, 0, 0, [], ⟨#[]⟩, [kn1, ktp, kn2]⟩
def kc0 : Cu := ⟨[ksum], [], [0]⟩
def kc1 : Cu := ⟨[ksum, ktp], [1], [0, 1]⟩
def kc3 : Cu := ⟨[ksum, kn1], [0], [0, 0]⟩
def kc4 : Cu := ⟨[ksum, kn1, kt1], [0, 0], [0, 0, 0]⟩
theorem ev_clone : cloneB 10 ksum = true := by kernel_rfl
theorem ev_leaf : leafF 10 10 kc0 1 = some (true, kc1) := by kernel_rfl
theorem ev_up : kc1.up = kc0 := by kernel_rfl
theorem ev_next1 : nextF 10 kc0 = some (true, kc3) := by kernel_rfl
theorem ev_next2 : nextF 10 kc3 = some (true, kc4) := by kernel_rfl
theorem ev_prev : prevF 10 10 kc4 = some (true, kc3) := by kernel_rfl
theorem ev_down1 : downF 10 kc3 0 = some (true, kc4) := by kernel_rfl
theorem ev_down2 : downF 10 kc4 0 = some (false, kc4) := by kernel_rfl
theorem ev_same : arboristref45_Same.f 10 [1] [1] = some true := by kernel_rfl
theorem ev_sum : arboristlaw45_sum.f = some (ksum.f0, ksum.f1, ksum.f2, ksum.f3, ksum.f4, ksum.f5, ksum.f6) := by kernel_rfl
theorem ok1 : kc1.ok := by unfold Cu.ok kc1; simp
theorem ok4 : kc4.ok := by unfold Cu.ok kc4; simp
theorem ev_cl1 : cloneB 10 kc1.now = true := by kernel_rfl
theorem ev_cl4 : cloneB 10 kc4.now = true := by kernel_rfl
theorem sum_C (w : World) : Calls Try.prog 31 #[] w fun e w' => ∃ A4 c4 A6 c6, e = .returned (nodeV ksum A4 c4 A6 c6) ∧ ksum.f4.length ≤ c4 ∧ Kd.C k76 w' A4 ksum.f4.length ksum.f4 ∧ ksum.f6.length ≤ c6 ∧ Kd.C k26 w' A6 ksum.f6.length ksum.f6 ∧ Below w.heap.size w w' := by
  refine (arboristlaw45_sum.calls _ _ _ _ _ _ _ w ev_sum).mono ?_
  rintro e w' ⟨v4, v6, rfl, r4, r6, hb⟩
  obtain ⟨A4, c4, rfl⟩ := Kd.R_slice r4
  obtain ⟨A6, c6, rfl⟩ := Kd.N_slice r6
  exact ⟨A4, c4, A6, c6, rfl, (Kd.R_reads' r4).2.1, (Kd.R_reads' r4).2.2, (Kd.N_reads' r6).2.1, (Kd.N_reads' r6).2.2, hb⟩
theorem new_C {w1 : World} (w : World) {A4 : Option Addr} {c4 : Nat} {A6 : Option Addr} {c6 : Nat} (l4 : ksum.f4.length ≤ c4) (g4 : Kd.C k76 w A4 ksum.f4.length ksum.f4) (l6 : ksum.f6.length ≤ c6) (g6 : Kd.C k26 w A6 ksum.f6.length ksum.f6) :
    Calls Try.prog 9 #[nodeV ksum A4 c4 A6 c6] w fun e w' => ∃ g, e = .returned (.pointer (some ⟨g, 0, none⟩)) ∧ Cur w.heap.size g w kc0 w' := by
  refine (new_calls 10 ksum A4 c4 A6 c6 w ev_clone g4 l4 g6 l6).mono ?_
  rintro e w' ⟨g, v1, v2, v3, rfl, hC, hb⟩
  exact ⟨g, rfl, v1, v2, v3, hC, hb, hb.size⟩
theorem Cur.text {B g : Nat} {w0 w : World} {c : Cu} (h : Cur B g w0 c w) (hk : c.ok) (fu : Nat) (hcl : cloneB fu c.now = true) (t : ByteArray) (ht : c.now.f5 = t) : Calls Try.prog 17 #[.pointer (some ⟨g, 0, none⟩)] w fun e w' => ∃ f0 f1 f2 f3 A4 l4 c4 A6 l6 c6, e = .returned (.agg #[.int .i64 f0, .int .i64 f1, .int .i64 f2, .int .i64 f3, .slice A4 l4 c4, .string t, .slice A6 l6 c6]) ∧ Cur B g w0 c w' := by
  refine (h.node hk fu hcl).mono ?_
  rintro e w' ⟨A4, c4, A6, c6, rfl, hC⟩
  exact ⟨_, _, _, _, _, _, _, _, _, _, by rw [ht], hC⟩
theorem same_one {w : World} {A : Option Addr} {cp : Nat} (hc : 1 ≤ cp) (hC : Kd.C (Kd.int .i64) w A 1 [1]) : Calls Try.prog 12 #[.slice A 1 cp, .slice (some ⟨w.heap.size, 0, none⟩) 1 1] (w.alloc (.cells #[.int .i64 1] 3)) fun e w' => e = .returned (.bool true) ∧ Below w.heap.size w w' := by
  have hb := below_alloc (Below.refl w.heap.size w) (.cells #[.int .i64 1] 3)
  have hR := R_one (d := Kd.int .i64) (e := 3) (W := w) (B := 0) (x := (1 : Int)) (cs := [.int .i64 1]) (okp := fun _ => False) (ok := fun _ => True) (by rfl) rfl (Nat.zero_le _) (fun k h _ => h.elim) trivial
  refine (arboristref45_Same.calls 10 A cp [1] (some ⟨w.heap.size, 0, none⟩) 1 [1] true _ (Kd.C_below hC hb) hc (Kd.R_reads' hR).2.2 (Nat.le_refl 1) ev_same).mono ?_
  rintro e w' ⟨rfl, hd⟩
  exact ⟨rfl, below_step hb hd.below⟩
theorem path1 {B g : Nat} {w0 w : World} (h : Cur B g w0 kc1 w) : Calls Try.prog 13 #[.pointer (some ⟨g, 0, none⟩)] w fun e w' => ∃ A cp, e = .returned (.slice A 1 cp) ∧ 1 ≤ cp ∧ Kd.C (Kd.int .i64) w' A 1 [1] ∧ Cur B g w0 kc1 w' := h.path ok1
set_option maxHeartbeats 8000000 in
theorem knows_calls (w : World) : Calls Try.prog 8 #[] w fun e w' => e = .returned (.bool true) ∧ Below w.heap.size w w' := by
  have hfd0 := field26_0
  have hfd5 := field26_5
  go_enter Try.func8, Try.ntmps8
  go_upto_region 3 with (first
    | (go_at_call 31; refine (sum_C _).mono ?_; rintro e w2 ⟨A4, c4, A6, c6, rfl, l4, g4, l6, g6, hb2⟩; have hnew := new_C (w1 := w) w2 l4 g4 l6 g6; replace hnew := Aside0.mk hnew; replace hb2 := Aside0.mk hb2; clear l4 g4 l6 g6)
    | (go_at_call 9; refine hnew.out.mono ?_; rintro e w3 ⟨g, rfl, hC3⟩; replace hC3 := Aside0.mk hC3))
  go_upto_region 5 with (first
    | (go_at_call 23; refine (Next_nil _).mono ?_; rintro e w' ⟨rfl, rfl⟩)
    | (go_at_call 21; refine (Down_nil _ _).mono ?_; rintro e w' ⟨rfl, rfl⟩)
    | (go_at_call 26; refine (Leaf_nil _ _).mono ?_; rintro e w' ⟨rfl, rfl⟩)
    | (go_at_call 14; refine (At_nil _).mono ?_; rintro e w' ⟨rfl, rfl⟩)
    | (go_at_call 13; refine (Path_nil _).mono ?_; rintro e w' ⟨rfl, rfl⟩)
    | (go_at_call 17; refine (Node_nil _).mono ?_; rintro e w4 ⟨rfl, hb4⟩; have hC4 := hC3.out.below hb4; replace hC4 := Aside0.mk hC4; clear hb4))
  have hat1 : kc1.at_ = 1 := by kernel_rfl
  go_wp2_with (first
    | (go_at_call 26; refine (hC4.out.leaf 10 10 1 _ _ ev_leaf).mono ?_; rintro e w' ⟨rfl, D1⟩; replace D1 := Aside0.mk D1)
    | (go_at_call 14; refine (D1.out.at_ ok1).mono ?_; rintro e w' ⟨rfl, D2⟩; replace D2 := Aside0.mk D2)
    | (go_at_call 17; refine (D8.out.text ok4 10 ev_cl4 ⟨#[49]⟩ rfl).mono ?_; rintro e w' ⟨f0, f1, f2, f3, A4, l4, c4, A6, l6, c6, rfl, D9⟩; replace D9 := Aside0.mk D9)
    | (go_at_call 17; refine (D2.out.text ok1 10 ev_cl1 ⟨#[43]⟩ rfl).mono ?_; rintro e w' ⟨f0, f1, f2, f3, A4, l4, c4, A6, l6, c6, rfl, D3⟩; replace D3 := Aside0.mk D3)
    | (go_at_call 13; refine (path1 D3.out).mono ?_; rintro e w' ⟨A, cp, rfl, pc, pC, D4⟩; have hsm := same_one pc pC; replace hsm := Aside0.mk hsm; replace D4 := Aside0.mk D4; clear pc pC)
    | (go_at_call 12; refine hsm.out.mono ?_; rintro e w' ⟨rfl, hb⟩; have D5 := D4.out.below hb; replace D5 := Aside0.mk D5; clear hb)
    | (go_at_call 22; refine (D5.out.up ok1 0 rfl).mono ?_; rintro e w' ⟨rfl, D6⟩; rw [ev_up] at D6; replace D6 := Aside0.mk D6)
    | (go_at_call 23; refine (D7.out.next 10 _ _ ev_next2).mono ?_; rintro e w' ⟨rfl, D8⟩; replace D8 := Aside0.mk D8)
    | (go_at_call 23; refine (D6.out.next 10 _ _ ev_next1).mono ?_; rintro e w' ⟨rfl, D7⟩; replace D7 := Aside0.mk D7)
    | (go_at_call 24; refine (D9.out.prev 10 10 _ _ ev_prev).mono ?_; rintro e w' ⟨rfl, D10⟩; replace D10 := Aside0.mk D10)
    | (go_at_call 21; refine (D11.out.down 10 0 _ _ ev_down2).mono ?_; rintro e w' ⟨rfl, D12⟩; replace D12 := Aside0.mk D12)
    | (go_at_call 21; refine (D10.out.down 10 0 _ _ ev_down1).mono ?_; rintro e w' ⟨rfl, D11⟩; replace D11 := Aside0.mk D11))
  go_ret
  obtain ⟨_, _, _, _, hB, _⟩ := D12.out
  refine ⟨rfl, hb2.out.trans (hB.mono hb2.out.size)⟩
end Go.Proofs.Ytfekpmbecoeijaa.Hand
