/- How the machine of plain values runs this seat's functions. -/
import Derived.Test.YtpepghaknilmhaaVnA
import Derived.Test.YtpepghaknilmhaaProg
import Derived.KernelRfl
namespace Go.Proofs.Ytpepghaknilmhaa.Vm
open Go Go.RowKit
/-- How each function is run. -/
noncomputable def env : Env where
  P := Try.prog
  ext := fun _ _ => none
  mode := fun f => if f ∈ ([36, 46, 47, 25, 30, 31, 32] : List Nat) then .heap else if f ∈ ([] : List Nat) then .data true else if f ∈ ([] : List Nat) then .snap else .data false
  own := fun f t => (f == 20 && t == 10)
theorem env_mixed : env.P.follows .mixedOrders = true := by kernel_rfl
theorem env_ext : ExtOK env := extOK_none
theorem env_P : env.P = Try.prog := rfl
theorem env_own (f : FuncId) (t : Tmp) : env.own f t = ((f == 20 && t == 10)) := rfl
theorem env_mode (f : FuncId) : env.mode f = if f ∈ ([36, 46, 47, 25, 30, 31, 32] : List Nat) then .heap else if f ∈ ([] : List Nat) then .data true else if f ∈ ([] : List Nat) then .snap else .data false := rfl
theorem ok_3 : okFn env.P 3 = true := by kernel_rfl
theorem mode_3 : env.mode 3 = .data false := rfl
theorem ok_4 : okFn env.P 4 = true := by kernel_rfl
theorem mode_4 : env.mode 4 = .data false := rfl
theorem ok_5 : okFn env.P 5 = true := by kernel_rfl
theorem mode_5 : env.mode 5 = .data false := rfl
theorem ok_6 : okFn env.P 6 = true := by kernel_rfl
theorem mode_6 : env.mode 6 = .data false := rfl
theorem ok_7 : okFn env.P 7 = true := by kernel_rfl
theorem mode_7 : env.mode 7 = .data false := rfl
theorem ok_8 : okFn env.P 8 = true := by kernel_rfl
theorem mode_8 : env.mode 8 = .data false := rfl
theorem ok_9 : okFn env.P 9 = true := by kernel_rfl
theorem mode_9 : env.mode 9 = .data false := rfl
theorem ok_10 : okFn env.P 10 = true := by kernel_rfl
theorem mode_10 : env.mode 10 = .data false := rfl
theorem ok_11 : okFn env.P 11 = true := by kernel_rfl
theorem mode_11 : env.mode 11 = .data false := rfl
theorem ok_12 : okFn env.P 12 = true := by kernel_rfl
theorem mode_12 : env.mode 12 = .data false := rfl
theorem ok_13 : okFn env.P 13 = true := by kernel_rfl
theorem mode_13 : env.mode 13 = .data false := rfl
theorem ok_14 : okFn env.P 14 = true := by kernel_rfl
theorem mode_14 : env.mode 14 = .data false := rfl
theorem ok_15 : okFn env.P 15 = true := by kernel_rfl
theorem mode_15 : env.mode 15 = .data false := rfl
theorem ok_16 : okFn env.P 16 = true := by kernel_rfl
theorem mode_16 : env.mode 16 = .data false := rfl
theorem ok_17 : okFn env.P 17 = true := by kernel_rfl
theorem mode_17 : env.mode 17 = .data false := rfl
theorem ok_18 : okFn env.P 18 = true := by kernel_rfl
theorem mode_18 : env.mode 18 = .data false := rfl
theorem ok_19 : okFn env.P 19 = true := by kernel_rfl
theorem mode_19 : env.mode 19 = .data false := rfl
theorem ok_20 : okFn env.P 20 = true := by kernel_rfl
theorem mode_20 : env.mode 20 = .data false := rfl
theorem ok_21 : okFn env.P 21 = true := by kernel_rfl
theorem mode_21 : env.mode 21 = .data false := rfl
theorem ok_22 : okFn env.P 22 = true := by kernel_rfl
theorem mode_22 : env.mode 22 = .data false := rfl
theorem ok_23 : okFn env.P 23 = true := by kernel_rfl
theorem mode_23 : env.mode 23 = .data false := rfl
theorem ok_24 : okFn env.P 24 = true := by kernel_rfl
theorem mode_24 : env.mode 24 = .data false := rfl
theorem ok_25 : okFn env.P 25 = true := by kernel_rfl
theorem mode_25 : env.mode 25 = .heap := rfl
theorem ok_26 : okFn env.P 26 = true := by kernel_rfl
theorem mode_26 : env.mode 26 = .data false := rfl
theorem ok_27 : okFn env.P 27 = true := by kernel_rfl
theorem mode_27 : env.mode 27 = .data false := rfl
theorem ok_28 : okFn env.P 28 = true := by kernel_rfl
theorem mode_28 : env.mode 28 = .data false := rfl
theorem ok_29 : okFn env.P 29 = true := by kernel_rfl
theorem mode_29 : env.mode 29 = .data false := rfl
theorem ok_30 : okFn env.P 30 = true := by kernel_rfl
theorem mode_30 : env.mode 30 = .heap := rfl
theorem ok_31 : okFn env.P 31 = true := by kernel_rfl
theorem mode_31 : env.mode 31 = .heap := rfl
theorem ok_32 : okFn env.P 32 = true := by kernel_rfl
theorem mode_32 : env.mode 32 = .heap := rfl
theorem ok_33 : okFn env.P 33 = true := by kernel_rfl
theorem mode_33 : env.mode 33 = .data false := rfl
theorem ok_34 : okFn env.P 34 = true := by kernel_rfl
theorem mode_34 : env.mode 34 = .data false := rfl
theorem ok_35 : okFn env.P 35 = true := by kernel_rfl
theorem mode_35 : env.mode 35 = .data false := rfl
theorem ok_36 : okFn env.P 36 = true := by kernel_rfl
theorem mode_36 : env.mode 36 = .heap := rfl
theorem ok_37 : okFn env.P 37 = true := by kernel_rfl
theorem mode_37 : env.mode 37 = .data false := rfl
theorem ok_38 : okFn env.P 38 = true := by kernel_rfl
theorem mode_38 : env.mode 38 = .data false := rfl
theorem ok_39 : okFn env.P 39 = true := by kernel_rfl
theorem mode_39 : env.mode 39 = .data false := rfl
theorem ok_40 : okFn env.P 40 = true := by kernel_rfl
theorem mode_40 : env.mode 40 = .data false := rfl
theorem ok_41 : okFn env.P 41 = true := by kernel_rfl
theorem mode_41 : env.mode 41 = .data false := rfl
theorem ok_42 : okFn env.P 42 = true := by kernel_rfl
theorem mode_42 : env.mode 42 = .data false := rfl
theorem ok_43 : okFn env.P 43 = true := by kernel_rfl
theorem mode_43 : env.mode 43 = .data false := rfl
theorem ok_44 : okFn env.P 44 = true := by kernel_rfl
theorem mode_44 : env.mode 44 = .data false := rfl
theorem ok_45 : okFn env.P 45 = true := by kernel_rfl
theorem mode_45 : env.mode 45 = .data false := rfl
theorem ok_46 : okFn env.P 46 = true := by kernel_rfl
theorem mode_46 : env.mode 46 = .heap := rfl
theorem ok_47 : okFn env.P 47 = true := by kernel_rfl
theorem mode_47 : env.mode 47 = .heap := rfl
theorem ok_48 : okFn env.P 48 = true := by kernel_rfl
theorem mode_48 : env.mode 48 = .data false := rfl
theorem ok_49 : okFn env.P 49 = true := by kernel_rfl
theorem mode_49 : env.mode 49 = .data false := rfl
theorem ok_50 : okFn env.P 50 = true := by kernel_rfl
theorem mode_50 : env.mode 50 = .data false := rfl
theorem ok_51 : okFn env.P 51 = true := by kernel_rfl
theorem mode_51 : env.mode 51 = .data false := rfl
theorem ok_52 : okFn env.P 52 = true := by kernel_rfl
theorem mode_52 : env.mode 52 = .data false := rfl
theorem ok_53 : okFn env.P 53 = true := by kernel_rfl
theorem mode_53 : env.mode 53 = .data false := rfl
theorem ok_54 : okFn env.P 54 = true := by kernel_rfl
theorem mode_54 : env.mode 54 = .data false := rfl
theorem ok_55 : okFn env.P 55 = true := by kernel_rfl
theorem mode_55 : env.mode 55 = .data false := rfl
theorem ok_56 : okFn env.P 56 = true := by kernel_rfl
theorem mode_56 : env.mode 56 = .data false := rfl
end Go.Proofs.Ytpepghaknilmhaa.Vm
