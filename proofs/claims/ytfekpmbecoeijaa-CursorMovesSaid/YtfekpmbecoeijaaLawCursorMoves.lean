-- By this session's program plugprint.py, over the kit's print; Lean checks it.
import Derived.Test.YtfekpmbecoeijaaRows
import Derived.Test.YtfekpmbecoeijaaQf3
import Derived.Test.YtfekpmbecoeijaaQOp
import Derived.Test.YtfekpmbecoeijaaPureCursorMoves
import Derived.Test.YtfekpmbecoeijaaPuA
import Derived.WalkKit
import Derived.ProofKit
import Derived.OpenShut
import Derived.ShutString
import Derived.ChangeOld
import Derived.Below
import Derived.SizedLaws
import Derived.WideShapes
namespace Go.Proofs.Ytfekpmbecoeijaa.cursorMoves
open Go.ChangeShapes Go.WideShapes Go.ChangeAt Go.RowKit Go.Proofs.Ytfekpmbecoeijaa.Q Go.Proofs.YtfekpmbecoeijaaW.PrintWords Go.Proofs.Ytfekpmbecoeijaa.Op
open Go.ChangeMaps (open_string shut_string)
set_option linter.unusedVariables false
theorem own : ownKnob Try.prog.godebug = none := by kernel_rfl
theorem laidOut : laidOutB Try.prog = true := by kernel_rfl
set_option maxRecDepth 100000 in
theorem lifted (os : Os) (started : os.Started) (H : Type) (enc : TypeId × Value → H) :
    ReturnsInHanded {} Try.checked os 3 .any (Rows.cursorMovesSpec.pre6 enc Try.prog Try.f3 Rows.cursorMovesRow.domain false) (Rows.cursorMovesSpec.post enc Try.prog Try.f3 false true false false) := by
  refine returnsInHanded_of_change_sized (C := Try.checked) own started (by kernel_rfl) Try.func3
    (ChangeSpec.witness6 (enc := enc) (C := Try.checked) false ⟨#[], #[(.agg #[(.int .i64 0), (.int .i64 0), (.int .i64 0), (.int .i64 0), (.slice none 0 0), (.string ⟨#[]⟩), (.slice none 0 0)]), .slice none 0 0], []⟩ 12 (by kernel_rfl) (by kernel_rfl) (by kernel_rfl) (by kernel_rfl)) ?_
  intro W base args ds gs before hval0 hW hcnd hsz0 _
  have hval : ∀ (j : Nat) t v, Try.f3.params[j]? = some t → args[j]? = some v → Value.okWide Try.prog W .any base t v := hval0
  have hW' := hW
  obtain ⟨p, q, hA0, hV, rfl, hfz, hnd⟩ := hW
  have hA : DataW.TrodAll enc Try.prog W 0 (fun _ => true) true Try.f3.params.toList args.toList ds p := hA0
  rw [Try.params3] at hA hval
  obtain ⟨v0, vs0, d0, ds0, p0, q0, hargs, rfl, rfl, h0, t0_⟩ := trodAll_cons hA
  obtain ⟨v1, vs1, d1, ds1, p1, q1, rfl, rfl, rfl, h1, t1_⟩ := trodAll_cons t0_
  obtain ⟨rfl, rfl, rfl⟩ := trodAll_nil t1_
  obtain rfl : args = #[v0, v1] := by cases args; simp_all
  obtain ⟨rfl, rfl⟩ := trodVars_none hV
  have k0 := h0
  have lt0 : ∀ x ∈ p0, x.block < W.heap.size := by obtain ⟨m, hm⟩ := k0; exact DataW.trod_lt m _ _ _ hm
  obtain ⟨fu0, hf0⟩ := h0
  have hw0 : ∀ m ∈ d0.weights Try.prog 26, m ≤ 140737488351232 := fun m hm => of_decide_eq_true (List.all_eq_true.1 hsz0 m (DataW.weights_mem_each (j := 0) (t := 26) (d := d0) rfl rfl m hm))
  obtain ⟨x0, K0, G0⟩ := (fun n_ => opB_S26 n_) fu0 _ _ hf0 hw0
  obtain ⟨cs0, rfl⟩ := okWide_agg Try.underlying26 (hval 0 26 v0 rfl rfl)
  obtain ⟨A0_4, c0_4, A0_6, c0_6, Q0, l0_4, r0_4, l0_6, r0_6⟩ := k26_open K0
  obtain rfl : cs0 = #[.int .i64 x0.f0, .int .i64 x0.f1, .int .i64 x0.f2, .int .i64 x0.f3, .slice A0_4 x0.f4.length c0_4, .string x0.f5, .slice A0_6 x0.f6.length c0_6] := Array.toList_inj.1 Q0
  have k1 := h1
  have lt1 : ∀ x ∈ p1, x.block < W.heap.size := by obtain ⟨m, hm⟩ := k1; exact DataW.trod_lt m _ _ _ hm
  obtain ⟨fu1, hf1⟩ := h1
  obtain ⟨x1, K1, G1⟩ := (fun n_ => op_slice Try.underlying27 (by exact cellsOf39) (fun m_ _ => (fun n_ => op_S39 n_) m_)) fu1 _ _ hf1
  obtain ⟨a1, len1, cap1, rfl⟩ := okWide_slice Try.underlying27 (hval 1 27 v1 rfl rfl)
  obtain ⟨A1, c1, Q1, l1, r1⟩ := K1
  have Q1 : [Value.slice a1 len1 cap1] = [Value.slice A1 x1.length c1] := Q1
  simp only [List.cons.injEq, Value.slice.injEq, and_true] at Q1
  obtain ⟨rfl, rfl, rfl⟩ := Q1
  obtain ⟨k, hk⟩ := Pure.CursorMoves x0 x1 G0 G1
  refine (arboristlaw45_CursorMoves.calls k x0.f0 x0.f1 x0.f2 x0.f3 A0_4 c0_4 x0.f4 x0.f5 A0_6 c0_6 x0.f6 _ _ x1 true W r0_4 l0_4 r0_6 l0_6 r1 l1 hk).mono fun e W' ⟨he, bel0⟩ => ?_
  have bel : Below W.heap.size W W' := bel0
  subst he
  exact ⟨_, rfl, _, _, _, [], _, [], hW', trodAll_mk1 (shut_bool Try.underlying4 _), (trodAll_cons_mk (Below.trod laidOut (by kernel_rfl) (of_decide_eq_true (by kernel_rfl)) k0 bel lt0) (trodAll_cons_mk (Below.trod laidOut (by kernel_rfl) (of_decide_eq_true (by kernel_rfl)) k1 bel lt1) trodAll_mk0)), rfl, bel.frame _, fun h => by cases h⟩
theorem over : Rows.cursorMovesRow.holds Try.pinned (OpenSpec.ofChange Rows.cursorMovesSpec) :=
  OpenClaim.holds_of_wide 3 Try.f3 rfl rfl rfl rfl rfl rfl rfl ⟨rfl, rfl, rfl, rfl, rfl⟩ rfl rfl rfl rfl rfl (by kernel_rfl) Try.func3 (by kernel_rfl)
    (of_decide_eq_true (by kernel_rfl)) (by unfold Func.isWrapper; first | (rw [if_pos (by decide +kernel)]; kernel_rfl) | (rw [if_neg (by decide +kernel)]; exact ⟨rfl, rfl⟩))
    (fun os started H enc _ => lifted os started H enc)
theorem proved : Rows.CursorMovesSaid := over
#print axioms proved
end Go.Proofs.Ytfekpmbecoeijaa.cursorMoves
namespace Go.Proofs.Ytfekpmbecoeijaa
theorem cursorMoves_holds : Rows.CursorMovesSaid := cursorMoves.proved
end Go.Proofs.Ytfekpmbecoeijaa
