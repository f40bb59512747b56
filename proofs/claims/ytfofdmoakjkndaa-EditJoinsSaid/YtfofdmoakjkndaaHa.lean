import Derived.Test.YtfofdmoakjkndaaProg
import Derived.Test.YtfofdmoakjkndaaWMore
import Derived.Handy
namespace Go.Proofs.Ytfofdmoakjkndaa.Hand
open Go.RowKit Go.Proofs.YtfofdmoakjkndaaW.PrintWords Go.Proofs.YtfofdmoakjkndaaW.PrintLast Go.Proofs.YtfofdmoakjkndaaW.PrintMore
set_option linter.unusedVariables false

theorem bt_eq {s : ByteArray} {i : Int} (h0 : 0 ≤ i) (h : i < s.size) : bt s i = ((s[i.toNat]'(by omega)).toNat : Int) := by unfold bt; rw [dif_pos (by omega)]

theorem same1 (a b : ByteArray) (i : Int) (ba bb : Nat) (w : World) (ha : w.heap[ba]? = some (.cells #[.string a] 9 (0,0))) (hb : w.heap[bb]? = some (.cells #[.string b] 9 (0,0)))
   (h0 : 0 ≤ i) (h1 : i < a.size) (h2 : i < b.size) :
   Calls Try.prog 24 #[.int .i64 i, .pointer (some ⟨ba,0,none⟩), .pointer (some ⟨bb,0,none⟩)] w fun e w' => e = .returned (.bool (bt a i == bt b i)) ∧ Drawn0 w w' := by
  have ca : w.cell? ⟨ba, 0, none⟩ = some (.string a) := (blk_cell ha 0).trans rfl
  have cb : w.cell? ⟨bb, 0, none⟩ = some (.string b) := (blk_cell hb 0).trans rfl
  go_enter Try.func24, Try.ntmps24
  go_wp2
  go_quiet (fail)
  go_wp2
  go_ret
  exact ⟨by rw [bt_eq h0 h1, bt_eq h0 h2]; rfl, ⟨⟨_, rfl⟩⟩⟩

theorem same2 (a b : ByteArray) (i : Int) (ba bb : Nat) (w : World) (ha : w.heap[ba]? = some (.cells #[.string a] 9 (0,0))) (hb : w.heap[bb]? = some (.cells #[.string b] 9 (0,0)))
   (h0 : 0 ≤ i) (h1 : i < a.size) (h2 : i < b.size) (ha' : a.size ≤ 9223372036854775807) (hb' : b.size ≤ 9223372036854775807) :
   Calls Try.prog 25 #[.int .i64 i, .pointer (some ⟨ba,0,none⟩), .pointer (some ⟨bb,0,none⟩)] w fun e w' => e = .returned (.bool (bt a (a.size - 1 - i) == bt b (b.size - 1 - i))) ∧ Drawn0 w w' := by
  have ca : w.cell? ⟨ba, 0, none⟩ = some (.string a) := (blk_cell ha 0).trans rfl
  have cb : w.cell? ⟨bb, 0, none⟩ = some (.string b) := (blk_cell hb 0).trans rfl
  obtain ⟨j, hj⟩ : ∃ j : Int, j = a.size - 1 - i := ⟨_, rfl⟩
  obtain ⟨k, hk⟩ : ∃ k : Int, k = b.size - 1 - i := ⟨_, rfl⟩
  have w1 : IntKind.i64.wrap ((a.size : Int) - 1) = a.size - 1 := IntWalk.i64_in _ (by omega)
  have w2 : IntKind.i64.wrap ((a.size : Int) - 1 - i) = j := by rw [hj]; exact IntWalk.i64_in _ (by omega)
  have w3 : IntKind.i64.wrap ((b.size : Int) - 1) = b.size - 1 := IntWalk.i64_in _ (by omega)
  have w4 : IntKind.i64.wrap ((b.size : Int) - 1 - i) = k := by rw [hk]; exact IntWalk.i64_in _ (by omega)
  have q1 : 0 ≤ j := by omega
  have q2 : j < a.size := by omega
  have q3 : 0 ≤ k := by omega
  have q4 : k < b.size := by omega
  have HJ := Aside0.mk hj
  have HK := Aside0.mk hk
  clear hj hk
  go_enter Try.func25, Try.ntmps25
  go_wp2
  go_quiet (fail)
  clear w1 w2 w3 w4
  go_wp2
  go_ret
  exact ⟨by rw [← HJ.out, ← HK.out, bt_eq q1 q2, bt_eq q3 q4]; rfl, ⟨⟨_, rfl⟩⟩⟩

/-- How many of 0, 1, .. below n meet p, up to the first that does not; at most m from i on. -/
def run (p : Int → Bool) : Nat → Int → Int
  | 0, i => i
  | d + 1, i => if p i then run p d (i + 1) else i
theorem run_le (p : Int → Bool) (d : Nat) : ∀ i, i ≤ run p d i ∧ run p d i ≤ i + d := by
  induction d with
  | zero => intro i; simp [run]
  | succ d ih => intro i; unfold run; split
                 · have := ih (i + 1); omega
                 · omega

theorem run_stop {p : Int → Bool} {d : Nat} {i : Int} (h : p i = false) : run p d i = i := by cases d <;> simp [run, h]
theorem run_go {p : Int → Bool} {d : Nat} {i : Int} (h : p i = true) : run p (d + 1) i = run p d (i + 1) := by simp [run, h]

theorem alike (p : Int → Bool) (most : Nat) (hm : most ≤ 9223372036854775807) (g : FuncId) (cap : Array Value) (w : World) 
   (hcf : ∀ args W, Sem.run Try.prog (callFunc g args) W = .ok (.enter g args) W)
   (hg : ∀ i : Int, 0 ≤ i → i < most → ∀ W, Drawn0 w W → Calls Try.prog g (#[.int .i64 i] ++ cap) W fun e w' => e = .returned (.bool (p i)) ∧ ∃ n, w' = W.drewN n) :
   Calls Try.prog 23 #[.int .i64 most, .func (.func g) #[] cap] w fun e w' => e = .returned (.int .i64 (run p most 0)) ∧ Drawn0 w w' := by
  go_enter Try.func23, Try.ntmps23
  go_wp2
  go_loopw [5] (fun v W => ∃ i : Nat, i ≤ most ∧ v = .int .i64 i ∧ Aside0 (run p most 0 = run p (most - i) i) ∧ Drawn0 w W) (fun v _ => most - (intOf v).toNat)
  case atStart => exact ⟨0, by omega, rfl, ⟨rfl⟩, Drawn0.refl _⟩
  case round =>
    obtain ⟨i, hi, rfl, hr, hd⟩ := hrel
    by_cases hlt : i < most
    · have hc := Aside0.mk (hg i (by omega) (by omega) wr hd)
      clear hg
      go_wp2
      refine hc.out.mono ?_
      rintro e w' ⟨rfl, n, rfl⟩
      clear hc
      cases hp : p i
      · replace hr := Aside0.mk (hr.out.trans (run_stop hp))
        clear hp
        go_wp2
        go_ret
        exact ⟨by rw [hr.out]; rfl, hd.step n⟩
      · have hr2 : Aside0 (run p most 0 = run p (most - (i + 1)) ((i + 1 : Nat) : Int)) := ⟨by
          rw [hr.out, show most - i = (most - (i + 1)) + 1 from by omega, run_go hp]; norm_cast⟩
        clear hp hr
        go_wp2
        go_roundw
        case rel => exact ⟨i + 1, by omega, by go_num, hr2, hd.step n⟩
        case measure => simp [intOf]; omega
    · obtain rfl : i = most := by omega
      replace hr : Aside0 (run p i 0 = (i : Int)) := ⟨by rw [hr.out, Nat.sub_self]; rfl⟩
      clear hg
      go_wp2
      go_ret
      exact ⟨by rw [hr.out]; rfl, hd⟩

end Go.Proofs.Ytfofdmoakjkndaa.Hand
