-- By this session's program plugprint.py, over the kit's print; Lean checks it.
import Derived.Test.YtfekpmbecoeijaaQ0
import Derived.Test.YtfekpmbecoeijaaQOp0
namespace Go.Proofs.Ytfekpmbecoeijaa.Op
open Go.RowKit Go.Proofs.Ytfekpmbecoeijaa.Q Go.Proofs.YtfekpmbecoeijaaW.PrintWords Go.Proofs.YtfekpmbecoeijaaW.PrintLast
set_option linter.unusedVariables false
theorem cellsOf3 : Try.prog.cellsOf 3 = 1 := by kernel_rfl
theorem cellsOf9 : Try.prog.cellsOf 9 = 1 := by kernel_rfl
theorem cellsOf22 : Try.prog.cellsOf 22 = 1 := by kernel_rfl
theorem cellsOf23 : Try.prog.cellsOf 23 = 1 := by kernel_rfl
theorem cellsOf24 : Try.prog.cellsOf 24 = 1 := by kernel_rfl
theorem cellsOf26 : Try.prog.cellsOf 26 = 7 := by kernel_rfl
theorem cellsOf74 : Try.prog.cellsOf 74 = 1 := by kernel_rfl
theorem cellsOf76 : Try.prog.cellsOf 76 = 3 := by kernel_rfl
def W76 (x : S76) : Prop := (Lit.int .i64 x.f0).wf = true ∧ (Lit.int .i64 x.f1).wf = true ∧ x.f2.size ≤ 9223372036854775807
theorem op_S76 {H : Type} {enc : TypeId × Value → H} {w : World} (fuel : Nat) : OpF enc Try.prog w k76 76 W76 fuel := by
  intro cs x h
  obtain ⟨xs, n, rfl, rfl, hl, hlen, hf⟩ := DataW.trod_struct Try.underlying76 h
  rw [cellsOf76] at hl
  obtain ⟨y0, e0⟩ := field_of hlen hf 0 _ rfl (sz := 1) (by exact cellsOf74)
  obtain ⟨a0, k0_, g0⟩ := (fun n_ => op_int Try.underlying74 n_) n _ _ e0
  have q0 := k0_
  obtain ⟨y1, e1⟩ := field_of hlen hf 1 _ rfl (sz := 1) (by exact cellsOf3)
  obtain ⟨a1, k1_, g1⟩ := (fun n_ => op_int Try.underlying3 n_) n _ _ e1
  have q1 := k1_
  obtain ⟨y2, e2⟩ := field_of hlen hf 2 _ rfl (sz := 1) (by exact cellsOf9)
  obtain ⟨a2, k2_, g2⟩ := (fun n_ => op_string Try.underlying9 n_) n _ _ e2
  have q2 := k2_
  have hcs := (cat cs 0 1).trans (congr (congrArg (fun x y => x ++ y) q0) ((cat cs 1 1).trans (congr (congrArg (fun x y => x ++ y) q1) ((last_ cs 2 1 hl).trans q2))))
  refine ⟨(⟨a0, a1, a2⟩ : S76), ?_, g0, g1, g2⟩
  rw [show cs = _ from hcs]
  exact k76_mk w (⟨a0, a1, a2⟩ : S76) 

inductive W26 : S26 → Prop
  | mk (x : S26) (h0 : (Lit.int .i64 x.f0).wf = true) (h1 : (Lit.int .i64 x.f1).wf = true) (h2 : (Lit.int .i64 x.f2).wf = true) (h3 : (Lit.int .i64 x.f3).wf = true) (h4 : (∀ a_ ∈ x.f4, W76 a_)) (h5 : x.f5.size ≤ 9223372036854775807) (h6 : (∀ a_ ∈ x.f6, W26 a_)) : W26 x
theorem op_S26 {H : Type} {enc : TypeId × Value → H} {w : World} (fuel : Nat) : OpF enc Try.prog w k26 26 W26 fuel := by
  induction fuel using Nat.strongRecOn with
  | _ fuel ih =>
  intro cs x h
  obtain ⟨xs, n, rfl, rfl, hl, hlen, hf⟩ := DataW.trod_struct Try.underlying26 h
  rw [cellsOf26] at hl
  obtain ⟨y0, e0⟩ := field_of hlen hf 0 _ rfl (sz := 1) (by exact cellsOf3)
  obtain ⟨a0, k0_, g0⟩ := (fun n_ => op_int Try.underlying3 n_) n _ _ e0
  have q0 := k0_
  obtain ⟨y1, e1⟩ := field_of hlen hf 1 _ rfl (sz := 1) (by exact cellsOf3)
  obtain ⟨a1, k1_, g1⟩ := (fun n_ => op_int Try.underlying3 n_) n _ _ e1
  have q1 := k1_
  obtain ⟨y2, e2⟩ := field_of hlen hf 2 _ rfl (sz := 1) (by exact cellsOf3)
  obtain ⟨a2, k2_, g2⟩ := (fun n_ => op_int Try.underlying3 n_) n _ _ e2
  have q2 := k2_
  obtain ⟨y3, e3⟩ := field_of hlen hf 3 _ rfl (sz := 1) (by exact cellsOf22)
  obtain ⟨a3, k3_, g3⟩ := (fun n_ => op_int Try.underlying22 n_) n _ _ e3
  have q3 := k3_
  obtain ⟨y4, e4⟩ := field_of hlen hf 4 _ rfl (sz := 1) (by exact cellsOf23)
  obtain ⟨a4, k4_, g4⟩ := (fun n_ => op_slice Try.underlying23 (by exact cellsOf76) (fun m_ _ => (fun n_ => op_S76 n_) m_)) n _ _ e4
  obtain ⟨A4, c4, q4, l4, r4⟩ := k4_
  obtain ⟨y5, e5⟩ := field_of hlen hf 5 _ rfl (sz := 1) (by exact cellsOf9)
  obtain ⟨a5, k5_, g5⟩ := (fun n_ => op_string Try.underlying9 n_) n _ _ e5
  have q5 := k5_
  obtain ⟨y6, e6⟩ := field_of hlen hf 6 _ rfl (sz := 1) (by exact cellsOf24)
  obtain ⟨a6, k6_, g6⟩ := (fun n_ hn_ => op_slice Try.underlying24 (by exact cellsOf26) (fun m_ hm_ => ih m_ (by omega))) n (Nat.le_refl _) _ _ e6
  obtain ⟨A6, c6, q6, l6, r6⟩ := k6_
  have hcs := (cat cs 0 1).trans (congr (congrArg (fun x y => x ++ y) q0) ((cat cs 1 1).trans (congr (congrArg (fun x y => x ++ y) q1) ((cat cs 2 1).trans (congr (congrArg (fun x y => x ++ y) q2) ((cat cs 3 1).trans (congr (congrArg (fun x y => x ++ y) q3) ((cat cs 4 1).trans (congr (congrArg (fun x y => x ++ y) q4) ((cat cs 5 1).trans (congr (congrArg (fun x y => x ++ y) q5) ((last_ cs 6 1 hl).trans q6))))))))))))
  refine ⟨(⟨a0, a1, a2, a3, a4, a5, a6⟩ : S26), ?_, W26.mk _ g0 g1 g2 g3 g4 g5 g6⟩
  rw [show cs = _ from hcs]
  exact k26_mk w (⟨a0, a1, a2, a3, a4, a5, a6⟩ : S26) l4 r4 l6 r6

end Go.Proofs.Ytfekpmbecoeijaa.Op
