import Derived.Test.YtfekpmbecoeijaaQ0
import Derived.Test.YtfekpmbecoeijaaQf32
namespace Go.Proofs.Ytfekpmbecoeijaa.Q
open Go.RowKit Go.Proofs.YtfekpmbecoeijaaW.PrintWords Go.Proofs.YtfekpmbecoeijaaW.PrintLast Go.Proofs.YtfekpmbecoeijaaW.PrintMore
attribute [local go_sem] max2_int min2_int max_two min_two max_three min_three max_four min_four   -- for this text's walks alone
set_option linter.unusedVariables false
set_option linter.unusedSimpArgs false
def cursor_Get.l0 : Nat → List Int → Int → Int → Int → Int → Int → Int → List (S76) → ByteArray → List (S26) → Option (Int × Int × Int × Int × (List (S76)) × ByteArray × (List (S26)) × Bool)
 | 0, _, _, _, _, _, _, _, _, _, _ => none
 | k + 1, x8, x9, x10, x151000, x151001, x151002, x151003, x151004, x151005, x151006 => if x10 < x9 then (if 0 ≤ x10 then (if x10 < (x8.length : Int) then (if (rd x8 x10) < 0 then (some (0, 0, 0, 0, ([] : List (S76)), (⟨#[]⟩ : ByteArray), ([] : List (S26)), false)) else (if (rd x8 x10) ≥ (x151006.length : Int) then (some (0, 0, 0, 0, ([] : List (S76)), (⟨#[]⟩ : ByteArray), ([] : List (S26)), false)) else (if 0 ≤ (rd x8 x10) then (if (rd x8 x10) < (x151006.length : Int) then (cursor_Get.l0 k x8 x9 (wrap64 (x10 + 1)) ((rd_T26 x151006 (rd x8 x10)).f0) ((rd_T26 x151006 (rd x8 x10)).f1) ((rd_T26 x151006 (rd x8 x10)).f2) ((rd_T26 x151006 (rd x8 x10)).f3) ((rd_T26 x151006 (rd x8 x10)).f4) ((rd_T26 x151006 (rd x8 x10)).f5) ((rd_T26 x151006 (rd x8 x10)).f6)) else (none)) else (none)))) else (none)) else (none)) else ((cursor_clone.f k x151000 x151001 x151002 x151003 x151004 x151005 x151006).bind fun bt154 => (some (bt154.1, bt154.2.1, bt154.2.2.1, bt154.2.2.2.1, bt154.2.2.2.2.1, bt154.2.2.2.2.2.1, bt154.2.2.2.2.2.2, true)))
def cursor_Get.f (k : Nat) (a0_0 : Int) (a0_1 : Int) (a0_2 : Int) (a0_3 : Int) (l0_4 : List (S76)) (a0_5 : ByteArray) (l0_6 : List (S26)) (l1 : List Int) : Option (Int × Int × Int × Int × (List (S76)) × ByteArray × (List (S26)) × Bool) := cursor_Get.l0 k l1 (l1.length : Int) 0 a0_0 a0_1 a0_2 a0_3 l0_4 a0_5 l0_6
theorem cursor_Get.mono_l : ∀ k, (∀ y0 y1 y2 y3 y4 y5 y6 y7 y8 y9, LeO (cursor_Get.l0 k y0 y1 y2 y3 y4 y5 y6 y7 y8 y9) (cursor_Get.l0 (k + 1) y0 y1 y2 y3 y4 y5 y6 y7 y8 y9))
 | 0 => fun _ _ _ _ _ _ _ _ _ _ r h => by simp [cursor_Get.l0] at h
 | k + 1 => by
  have ih0 := cursor_Get.mono_l k
  ·intro y0 y1 y2 y3 y4 y5 y6 y7 y8 y9
   unfold cursor_Get.l0
   repeat' first
   | (with_reducible exact ih0 _ _ _ _ _ _ _ _ _ _)
   | (with_reducible exact cursor_clone.mono _ _ _ _ _ _ _ _)
   | (with_reducible exact LeO.refl _)
   | (with_reducible exact LeO.none _)
   | (with_reducible refine LeO.ite ?_ ?_)
   | (with_reducible refine LeO.bind ?_ (fun _ => ?_))
   | exact ih0 _ _ _ _ _ _ _ _ _ _
   | exact cursor_clone.mono _ _ _ _ _ _ _ _
   | exact LeO.none _
   | refine LeO.ite ?_ ?_
   | refine LeO.bind ?_ (fun _ => ?_)
theorem cursor_Get.mono : ∀ a0 a1 a2 a3 a4 a5 a6 a7 k, LeO (cursor_Get.f k a0 a1 a2 a3 a4 a5 a6 a7) (cursor_Get.f (k + 1) a0 a1 a2 a3 a4 a5 a6 a7) := by
 intro a0 a1 a2 a3 a4 a5 a6 a7 k
 have ih0 := cursor_Get.mono_l k
 unfold cursor_Get.f
 repeat' first
   | (with_reducible exact ih0 _ _ _ _ _ _ _ _ _ _)
   | (with_reducible exact cursor_clone.mono _ _ _ _ _ _ _ _)
   | (with_reducible exact LeO.refl _)
   | (with_reducible exact LeO.none _)
   | (with_reducible refine LeO.ite ?_ ?_)
   | (with_reducible refine LeO.bind ?_ (fun _ => ?_))
   | exact ih0 _ _ _ _ _ _ _ _ _ _
   | exact cursor_clone.mono _ _ _ _ _ _ _ _
   | exact LeO.none _
   | refine LeO.ite ?_ ?_
   | refine LeO.bind ?_ (fun _ => ?_)
end Go.Proofs.Ytfekpmbecoeijaa.Q
