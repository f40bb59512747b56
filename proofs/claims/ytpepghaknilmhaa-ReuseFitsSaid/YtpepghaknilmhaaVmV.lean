/- The machine of plain values: what it answers is a contract of the program's. Written once for all seats. -/
import Derived.Test.YtpepghaknilmhaaVmU
import Derived.Below
namespace Go.Proofs.Ytpepghaknilmhaa.Vm
open Go Go.RowKit
set_option linter.unusedVariables false
set_option linter.unusedSimpArgs false

theorem calls_of_wc {env : Env} (hmix : env.P.follows .mixedOrders = true) (hX : ExtOK env) {f : FuncId} {args : List PV} {vargs : Array Value} {w : World} {I : Nat → Prop} (hd : args.all isData = true) (hv : VL ⟨fun _ => none, I, w⟩ args vargs) (hI : ∀ k, I k → k < w.heap.size) {Q : PV → St → Prop} (h : WC env f args ⟨[], 0⟩ Q)
    {R : Ending → World → Prop} (hR : ∀ r sc cc rv, Q r sc → VRel cc r rv → Rel sc.heap.get (sc.next ≤ ·) cc → Below w.heap.size w cc.W → (∀ k, I k → cc.I k) → (∀ k, cc.I k → I k ∨ w.heap.size ≤ k) → (∀ k, Lb sc.heap.get cc k → w.heap.size ≤ k) → R (.returned rv) cc.W) : Calls env.P f vargs w R := by
  obtain ⟨k, r, sc, h1, h2⟩ := h
  refine Calls.mono (vm_calls hmix hX h1 hd (c := ⟨fun _ => none, I, w⟩) hv hI) ?_
  rintro e w' ⟨cc, rv, rfl, rfl, a1, a2, a3, a4, a5, a6, a7, a8, a9, a10⟩
  exact hR r sc cc rv h2 a1 a2 ⟨a3, a4, a5, a6, a7⟩ a8 a9 a10
/-- An answer yes or no. -/
theorem calls_bool {env : Env} (hmix : env.P.follows .mixedOrders = true) (hX : ExtOK env) {f : FuncId} {args : List PV} {vargs : Array Value} {w : World} {I : Nat → Prop} (hd : args.all isData = true) (hv : VL ⟨fun _ => none, I, w⟩ args vargs) (hI : ∀ k, I k → k < w.heap.size) {b : Bool} (h : WC env f args ⟨[], 0⟩ fun r _ => r = .d (.bool b)) :
    Calls env.P f vargs w fun e w' => e = .returned (.bool b) ∧ Below w.heap.size w w' := by
  refine calls_of_wc hmix hX hd hv hI h fun r sc cc rv hr hrv _ hb _ _ _ => ?_
  subst hr
  rw [bool_inv hrv]
  exact ⟨rfl, hb⟩
/-- Does the machine answer yes? -/
def yes : Option (PV × St) → Bool
  | some (.d (.bool true), _) => true
  | _ => false
theorem wc_yes {env : Env} {k : Nat} {f : FuncId} {args : List PV} {st : St} (h : yes ((lvl env k).call f args st) = true) : WC env f args st fun r _ => r = .d (.bool true) := by
  cases hx : (lvl env k).call f args st with
  | none => rw [hx] at h; cases h
  | some x =>
    obtain ⟨r, s⟩ := x
    rw [hx] at h
    refine ⟨k, r, s, hx, ?_⟩
    unfold yes at h
    split at h
    · rename_i heq; cases heq; rfl
    · cases h
theorem extOK_none {P : Program} {mode : FuncId → Mode} {own : FuncId → Tmp → Bool} : ExtOK { P := P, ext := fun _ _ => none, mode := mode, own := own } := fun f args r h => by cases h
theorem vl_nil (c : Cfg) : VL c [] #[] := ⟨rfl, fun j u hj => by simp at hj⟩
end Go.Proofs.Ytpepghaknilmhaa.Vm
