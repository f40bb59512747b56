import Derived.Test.YtfekpmbecoeijaaQ0
import Derived.Test.YtfekpmbecoeijaaQOp0
namespace Go.Proofs.Ytfekpmbecoeijaa.Op
open Go.RowKit Go.Proofs.Ytfekpmbecoeijaa.Q Go.Proofs.YtfekpmbecoeijaaW.PrintWords Go.Proofs.YtfekpmbecoeijaaW.PrintLast
set_option linter.unusedVariables false
theorem cellsOf3 : Try.prog.cellsOf 3 = 1 := by kernel_rfl
theorem cellsOf9 : Try.prog.cellsOf 9 = 1 := by kernel_rfl
theorem cellsOf22 : Try.prog.cellsOf 22 = 1 := by kernel_rfl
theorem cellsOf23 : Try.prog.cellsOf 23 = 1 := by kernel_rfl
theorem cellsOf24 : Try.prog.cellsOf 24 = 1 := by kernel_rfl
theorem cellsOf26 : Try.prog.cellsOf 26 = 7 := by kernel_rfl
theorem cellsOf39 : Try.prog.cellsOf 39 = 2 := by kernel_rfl
theorem cellsOf74 : Try.prog.cellsOf 74 = 1 := by kernel_rfl
theorem cellsOf76 : Try.prog.cellsOf 76 = 3 := by kernel_rfl
def W39 (x : S39) : Prop := (Lit.int .i64 x.f0).wf = true ∧ (Lit.int .i64 x.f1).wf = true
theorem op_S39 {H : Type} {enc : TypeId × Value → H} {w : World} (fuel : Nat) : OpF enc Try.prog w k39 39 W39 fuel := by
  intro cs x h
  obtain ⟨xs, n, rfl, rfl, hl, hlen, hf⟩ := DataW.trod_struct Try.underlying39 h
  rw [cellsOf39] at hl
  obtain ⟨y0, e0⟩ := field_of hlen hf 0 _ rfl (sz := 1) (by exact cellsOf3)
  obtain ⟨a0, k0_, g0⟩ := (fun n_ => op_int Try.underlying3 n_) n _ _ e0
  have q0 := k0_
  obtain ⟨y1, e1⟩ := field_of hlen hf 1 _ rfl (sz := 1) (by exact cellsOf3)
  obtain ⟨a1, k1_, g1⟩ := (fun n_ => op_int Try.underlying3 n_) n _ _ e1
  have q1 := k1_
  have hcs := (cat cs 0 1).trans (congr (congrArg (fun x y => x ++ y) q0) ((last_ cs 1 1 hl).trans q1))
  refine ⟨(⟨a0, a1⟩ : S39), ?_, g0, g1⟩
  rw [show cs = _ from hcs]
  exact k39_mk w (⟨a0, a1⟩ : S39) 
end Go.Proofs.Ytfekpmbecoeijaa.Op
