-- By this session's program plugprint.py, over the kit's print; Lean checks it.
import Derived.Test.YtgdbcogbbghjaaaRows
import Derived.Test.YtgdbcogbbghjaaaQf6
import Derived.Test.YtgdbcogbbghjaaaQOp
import Derived.Test.YtgdbcogbbghjaaaPureFieldsAll
import Derived.Test.YtgdbcogbbghjaaaPuK
import Derived.WalkKit
import Derived.ProofKit
import Derived.OpenShut
import Derived.ShutString
import Derived.ChangeOld
import Derived.Below
import Derived.SizedLaws
import Derived.WideShapes
namespace Go.Proofs.Ytgdbcogbbghjaaa.fieldsAll
open Go.ChangeShapes Go.WideShapes Go.ChangeAt Go.RowKit Go.Proofs.Ytgdbcogbbghjaaa.Q Go.Proofs.YtgdbcogbbghjaaaW.PrintWords Go.Proofs.Ytgdbcogbbghjaaa.Op
open Go.ChangeMaps (open_string shut_string)
set_option linter.unusedVariables false
theorem own : ownKnob Try.prog.godebug = none := by kernel_rfl
theorem laidOut : laidOutB Try.prog = true := by kernel_rfl
set_option maxRecDepth 100000 in
theorem lifted (os : Os) (started : os.Started) (H : Type) (enc : TypeId × Value → H) :
    ReturnsInHanded {} Try.checked os 6 .any (Rows.fieldsAllSpec.pre6 enc Try.prog Try.f6 Rows.fieldsAllRow.domain false) (Rows.fieldsAllSpec.post enc Try.prog Try.f6 false true false false) := by
  refine returnsInHanded_of_change_sized (C := Try.checked) own started (by kernel_rfl) Try.func6
    (ChangeSpec.witness6 (enc := enc) (C := Try.checked) false ⟨#[], #[(.agg #[(.slice none 0 0), (.slice none 0 0), (.slice none 0 0), (.slice none 0 0), (.slice none 0 0)]), (.agg #[(.int .i64 0), (.int .i64 0), (.int .i64 0), (.int .i64 0), (.slice none 0 0), (.string ⟨#[]⟩), (.slice none 0 0)])], []⟩ 12 (by kernel_rfl) (by kernel_rfl) (by kernel_rfl) (by kernel_rfl)) ?_
  intro W base args ds gs before hval0 hW hcnd hsz0 _
  have hval : ∀ (j : Nat) t v, Try.f6.params[j]? = some t → args[j]? = some v → Value.okWide Try.prog W .any base t v := hval0
  have hW' := hW
  obtain ⟨p, q, hA0, hV, rfl, hfz, hnd⟩ := hW
  have hA : DataW.TrodAll enc Try.prog W 0 (fun _ => true) true Try.f6.params.toList args.toList ds p := hA0
  rw [Try.params6] at hA hval
  obtain ⟨v0, vs0, d0, ds0, p0, q0, hargs, rfl, rfl, h0, r0⟩ := trodAll_cons hA
  obtain ⟨v1, vs1, d1, ds1, p1, q1, rfl, rfl, rfl, h1, r1⟩ := trodAll_cons r0
  obtain ⟨rfl, rfl, rfl⟩ := trodAll_nil r1
  obtain rfl : args = #[v0, v1] := by cases args; simp_all
  obtain ⟨rfl, rfl⟩ := trodVars_none hV
  have k0 := h0
  have lt0 : ∀ x ∈ p0, x.block < W.heap.size := by obtain ⟨m, hm⟩ := k0; exact DataW.trod_lt m _ _ _ hm
  obtain ⟨fu0, hf0⟩ := h0
  obtain ⟨x0, K0, G0⟩ := (fun n_ => op_S27 n_) fu0 _ _ hf0
  obtain ⟨cs0, rfl⟩ := okWide_agg Try.underlying27 (hval 0 27 v0 rfl rfl)
  obtain ⟨A0_0, c0_0, A0_1, c0_1, A0_2, c0_2, A0_3, c0_3, A0_4, c0_4, Q0, l0_0, r0_0, l0_1, r0_1, l0_2, r0_2, l0_3, r0_3, l0_4, r0_4⟩ := k27_open K0
  obtain rfl : cs0 = #[.slice A0_0 x0.f0.length c0_0, .slice A0_1 x0.f1.length c0_1, .slice A0_2 x0.f2.length c0_2, .slice A0_3 x0.f3.length c0_3, .slice A0_4 x0.f4.length c0_4] := Array.toList_inj.1 Q0
  have k1 := h1
  have lt1 : ∀ x ∈ p1, x.block < W.heap.size := by obtain ⟨m, hm⟩ := k1; exact DataW.trod_lt m _ _ _ hm
  obtain ⟨fu1, hf1⟩ := h1
  have hw1 : ∀ m ∈ d1.weights Try.prog 32, m ≤ 140737488351232 := fun m hm => of_decide_eq_true (List.all_eq_true.1 hsz0 m (DataW.weights_mem_each (j := 1) (t := 32) (d := d1) rfl rfl m hm))
  obtain ⟨x1, K1, G1⟩ := (fun n_ => opB_S32 n_) fu1 _ _ hf1 hw1
  obtain ⟨cs1, rfl⟩ := okWide_agg Try.underlying32 (hval 1 32 v1 rfl rfl)
  obtain ⟨A1_4, c1_4, A1_6, c1_6, Q1, l1_4, r1_4, l1_6, r1_6⟩ := k32_open K1
  obtain rfl : cs1 = #[.int .i64 x1.f0, .int .i64 x1.f1, .int .i64 x1.f2, .int .i64 x1.f3, .slice A1_4 x1.f4.length c1_4, .string x1.f5, .slice A1_6 x1.f6.length c1_6] := Array.toList_inj.1 Q1
  have hlen0 : x0.f3.length ≤ 9223372036854775807 := len27' hf0
  obtain ⟨k, hk⟩ := Pure.FieldsAll x0 x1 hlen0 G1
  refine (arboristlaw46_FieldsAll.calls k A0_0 c0_0 x0.f0 A0_1 c0_1 x0.f1 A0_2 c0_2 x0.f2 A0_3 c0_3 x0.f3 A0_4 c0_4 x0.f4 x1.f0 x1.f1 x1.f2 x1.f3 A1_4 c1_4 x1.f4 x1.f5 A1_6 c1_6 x1.f6 true W r0_0 l0_0 r0_1 l0_1 r0_2 l0_2 r0_3 l0_3 r0_4 l0_4 r1_4 l1_4 r1_6 l1_6 hk).mono fun e W' ⟨he, bel0⟩ => ?_
  have bel : Below W.heap.size W W' := bel0
  subst he
  exact ⟨_, rfl, _, _, _, [], _, [], hW', trodAll_mk1 (shut_bool Try.underlying4 _), (trodAll_cons_mk (Below.trod laidOut (by kernel_rfl) (of_decide_eq_true (by kernel_rfl)) k0 bel lt0) (trodAll_cons_mk (Below.trod laidOut (by kernel_rfl) (of_decide_eq_true (by kernel_rfl)) k1 bel lt1) trodAll_mk0)), rfl, bel.frame _, fun h => by cases h⟩
theorem over : Rows.fieldsAllRow.holds Try.pinned (OpenSpec.ofChange Rows.fieldsAllSpec) :=
  OpenClaim.holds_of_wide 6 Try.f6 rfl rfl rfl rfl rfl rfl rfl ⟨rfl, rfl, rfl, rfl, rfl⟩ rfl rfl rfl rfl rfl (by kernel_rfl) Try.func6 (by kernel_rfl)
    (of_decide_eq_true (by kernel_rfl)) (by unfold Func.isWrapper; first | (rw [if_pos (by decide +kernel)]; kernel_rfl) | (rw [if_neg (by decide +kernel)]; exact ⟨rfl, rfl⟩))
    (fun os started H enc _ => lifted os started H enc)
theorem proved : Rows.FieldsAllSaid := over
#print axioms proved
end Go.Proofs.Ytgdbcogbbghjaaa.fieldsAll
namespace Go.Proofs.Ytgdbcogbbghjaaa
theorem fieldsAll_holds : Rows.FieldsAllSaid := fieldsAll.proved
end Go.Proofs.Ytgdbcogbbghjaaa
