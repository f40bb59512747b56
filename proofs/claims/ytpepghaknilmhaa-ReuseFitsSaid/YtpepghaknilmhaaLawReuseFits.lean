-- By this session's program row.py; Lean checks it.
import Derived.Test.YtpepghaknilmhaaRows
import Derived.Test.YtpepghaknilmhaaRd
import Derived.WalkKit
import Derived.ProofKit
import Derived.OpenShut
import Derived.ShutString
import Derived.ChangeOld
import Derived.Below
import Derived.SizedLaws
import Derived.WideShapes
namespace Go.Proofs.Ytpepghaknilmhaa.reuseFits
open Go.ChangeShapes Go.WideShapes Go.ChangeAt Go.RowKit Go.Proofs.Ytpepghaknilmhaa
open Go.ChangeMaps (open_string shut_string)
set_option linter.unusedVariables false
theorem own : ownKnob Try.prog.godebug = none := by kernel_rfl
theorem laidOut : laidOutB Try.prog = true := by kernel_rfl
set_option maxRecDepth 100000 in
theorem lifted (os : Os) (started : os.Started) (H : Type) (enc : TypeId × Value → H) :
    ReturnsInHanded {} Try.checked os 4 .any (Rows.reuseFitsSpec.pre6 enc Try.prog Try.f4 Rows.reuseFitsRow.domain false) (Rows.reuseFitsSpec.post enc Try.prog Try.f4 false true false false) := by
  refine returnsInHanded_of_change_sized (C := Try.checked) own started (by kernel_rfl) Try.func4
    (ChangeSpec.witness6 (enc := enc) (C := Try.checked) false ⟨#[], #[(.agg #[(.slice none 0 0), (.slice none 0 0)]), (.agg #[(.int .i64 0), (.int .i64 0), (.int .i64 0), (.int .i64 0), (.int .i64 0), (.int .i64 0), (.int .i64 0), (.slice none 0 0), (.string ⟨#[]⟩), (.slice none 0 0)]), (.agg #[(.int .i64 0), (.int .i64 0)])], []⟩ 12 (by kernel_rfl) (by kernel_rfl) (by kernel_rfl) (by kernel_rfl)) ?_
  intro W base args ds gs before hval0 hW hcnd hsz0 _
  have hval : ∀ (j : Nat) t v, Try.f4.params[j]? = some t → args[j]? = some v → Value.okWide Try.prog W .any base t v := hval0
  have hW' := hW
  obtain ⟨p, q, hA0, hV, rfl, hfz, hnd⟩ := hW
  have hA : DataW.TrodAll enc Try.prog W 0 (fun _ => true) true Try.f4.params.toList args.toList ds p := hA0
  rw [Try.params4] at hA hval
  obtain ⟨rfl, rfl⟩ := trodVars_none hV
  have hsz : (DataW.weightsEach Try.prog [57, 63, 64] (ds ++ [])).all (· ≤ 140737488351232) = true := hsz0
  rw [List.append_nil] at hsz
  obtain ⟨hlen, ⟨pvs, hvl, htv⟩, hback⟩ := Vm.tvs_of (R := Vm.big) Vm.ts_data [57, 63, 64] args.toList ds p (by decide) hA (fun m hm => of_decide_eq_true (List.all_eq_true.1 hsz m hm)) (fun j t v h1 h2 => hval j t v (by simpa using h1) (by simpa using h2))
  have hcall : Calls Try.prog 4 args W fun e w' => e = .returned (.bool true) ∧ Below W.heap.size W w' := by
    have := Vm.calls_bool Vm.env_mixed Vm.env_ext htv.data hvl (fun k h => h) (Vm.law_fits htv)
    rw [Array.toArray_toList] at this
    exact this
  obtain ⟨d0, d1, d2, rfl⟩ : ∃ d0 d1 d2, ds = [d0, d1, d2] := by
    match ds, hlen with
    | [d0, d1, d2], _ => exact ⟨d0, d1, d2, rfl⟩
  refine hcall.mono fun e W' ⟨he, bel⟩ => ?_
  subst he
  exact ⟨_, rfl, _, _, _, [], _, [], hW', trodAll_mk1 (shut_bool Try.underlying4 _), hback laidOut (Vm.rd_of (by kernel_rfl)) W' bel, rfl, bel.frame _, fun h => by cases h⟩
theorem over : Rows.reuseFitsRow.holds Try.pinned (OpenSpec.ofChange Rows.reuseFitsSpec) :=
  OpenClaim.holds_of_wide 4 Try.f4 rfl rfl rfl rfl rfl rfl rfl ⟨rfl, rfl, rfl, rfl, rfl⟩ rfl rfl rfl rfl rfl (by kernel_rfl) Try.func4 (by kernel_rfl)
    (of_decide_eq_true (by kernel_rfl)) (by unfold Func.isWrapper; first | (rw [if_pos (by decide +kernel)]; kernel_rfl) | (rw [if_neg (by decide +kernel)]; exact ⟨rfl, rfl⟩))
    (fun os started H enc _ => lifted os started H enc)
theorem proved : Rows.ReuseFitsSaid := over
#print axioms proved
end Go.Proofs.Ytpepghaknilmhaa.reuseFits
namespace Go.Proofs.Ytpepghaknilmhaa
/-- The row, under a short name, for the claim. -/
theorem reuseFits_holds : Rows.ReuseFitsSaid := reuseFits.proved
end Go.Proofs.Ytpepghaknilmhaa
