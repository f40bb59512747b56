-- By this session's program plugprint.py, over the kit's print; Lean checks it.
import Derived.Test.YtfofdmoakjkndaaQ0
import Derived.Test.YtfofdmoakjkndaaQOp0
namespace Go.Proofs.Ytfofdmoakjkndaa.Op
open Go.RowKit Go.Proofs.Ytfofdmoakjkndaa.Q Go.Proofs.YtfofdmoakjkndaaW.PrintWords Go.Proofs.YtfofdmoakjkndaaW.PrintLast
set_option linter.unusedVariables false
theorem cellsOf3 : Try.prog.cellsOf 3 = 1 := by kernel_rfl
theorem cellsOf9 : Try.prog.cellsOf 9 = 1 := by kernel_rfl
theorem cellsOf32 : Try.prog.cellsOf 32 = 3 := by kernel_rfl
def W32 (x : S32) : Prop := (Lit.int .i64 x.f0).wf = true ∧ (Lit.int .i64 x.f1).wf = true ∧ x.f2.size ≤ 9223372036854775807
theorem op_S32 {H : Type} {enc : TypeId × Value → H} {w : World} (fuel : Nat) : OpF enc Try.prog w k32 32 W32 fuel := by
  intro cs x h
  obtain ⟨xs, n, rfl, rfl, hl, hlen, hf⟩ := DataW.trod_struct Try.underlying32 h
  rw [cellsOf32] at hl
  obtain ⟨y0, e0⟩ := field_of hlen hf 0 _ rfl (sz := 1) (by exact cellsOf3)
  obtain ⟨a0, k0_, g0⟩ := (fun n_ => op_int Try.underlying3 n_) n _ _ e0
  have q0 := k0_
  obtain ⟨y1, e1⟩ := field_of hlen hf 1 _ rfl (sz := 1) (by exact cellsOf3)
  obtain ⟨a1, k1_, g1⟩ := (fun n_ => op_int Try.underlying3 n_) n _ _ e1
  have q1 := k1_
  obtain ⟨y2, e2⟩ := field_of hlen hf 2 _ rfl (sz := 1) (by exact cellsOf9)
  obtain ⟨a2, k2_, g2⟩ := (fun n_ => op_string Try.underlying9 n_) n _ _ e2
  have q2 := k2_
  have hcs := (cat cs 0 1).trans (congr (congrArg (fun x y => x ++ y) q0) ((cat cs 1 1).trans (congr (congrArg (fun x y => x ++ y) q1) ((last_ cs 2 1 hl).trans q2))))
  refine ⟨(⟨a0, a1, a2⟩ : S32), ?_, g0, g1, g2⟩
  rw [show cs = _ from hcs]
  exact k32_mk w (⟨a0, a1, a2⟩ : S32) 

end Go.Proofs.Ytfofdmoakjkndaa.Op
