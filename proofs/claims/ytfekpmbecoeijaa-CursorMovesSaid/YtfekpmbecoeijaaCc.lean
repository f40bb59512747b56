import Derived.Test.YtfekpmbecoeijaaRG
import Derived.Test.YtfekpmbecoeijaaQ0
import Derived.RangeFuncBound
import Derived.Sort.LoopGhostIn
import Derived.OwnWalkIn
import Derived.TacticsInMore
import Derived.Shelf.RegionOpen
namespace Go.Proofs.Ytfekpmbecoeijaa.Hand
open Go.RowKit Go.Proofs.YtfekpmbecoeijaaW.PrintWords Go.Proofs.YtfekpmbecoeijaaW.PrintLast Go.Proofs.YtfekpmbecoeijaaW.PrintMore Go.Proofs.Ytfekpmbecoeijaa.Q Go.Proofs.Ytfekpmbecoeijaa.RF
attribute [local go_sem] Oper.semAt_some
set_option linter.unusedVariables false
set_option linter.unusedSimpArgs false
set_option maxRecDepth 100000
def preL (rec : S26 → Option (List S26)) : List S26 → Option (List S26)
  | [] => some []
  | k :: ks => (rec k).bind fun a => (preL rec ks).bind fun b => some (a ++ b)
def preF : Nat → S26 → Option (List S26)
  | 0, _ => none
  | d + 1, n => if n.f6.length < 4611686018427387904 then (preL (preF d) n.f6).bind fun l => some (n :: l) else none
structure NodeF (W : World) (ok : Nat → Prop) (n : S26) (A4 : Option Addr) (c4 : Nat) (A6 : Option Addr) (c6 : Nat) : Prop where
  l4 : n.f4.length ≤ c4
  f4 : Kd.F k76 W ok A4 n.f4.length n.f4
  l6 : n.f6.length ≤ c6
  f6 : Kd.F k26 W ok A6 n.f6.length n.f6
section
variable {W W' : World} {ok ok' : Nat → Prop} {n : S26} {A4 A6 : Option Addr} {c4 c6 : Nat}
theorem F_go {α : Type} {d : Kd α} {A : Option Addr} {m : Nat} {xs : List α} (h : Kd.F d W ok A m xs) (hm : ∀ k, ok k → k < W.heap.size → W'.heap[k]? = W.heap[k]?) (hk : ∀ k, ok k → k < W.heap.size → ok' k) : Kd.F d W' ok' A m xs :=
  Kd.F_mono (Kd.F_step (Kd.F_bound h) (fun k a b => hm k a.1 b)) (fun k a => hk k a.1 a.2)
theorem NodeF.go (h : NodeF W ok n A4 c4 A6 c6) (hm : ∀ k, ok k → k < W.heap.size → W'.heap[k]? = W.heap[k]?) (hk : ∀ k, ok k → k < W.heap.size → ok' k) : NodeF W' ok' n A4 c4 A6 c6 := ⟨h.l4, F_go h.f4 hm hk, h.l6, F_go h.f6 hm hk⟩
end
abbrev nodeV (n : S26) (A4 : Option Addr) (c4 : Nat) (A6 : Option Addr) (c6 : Nat) : Value := .agg #[.int .i64 n.f0, .int .i64 n.f1, .int .i64 n.f2, .int .i64 n.f3, .slice A4 n.f4.length c4, .string n.f5, .slice A6 n.f6.length c6]
def NodeV (W : World) (ok : Nat → Prop) (n : S26) (v : Value) : Prop := ∃ A4 c4 A6 c6, v = nodeV n A4 c4 A6 c6 ∧ NodeF W ok n A4 c4 A6 c6
def ItR (r : List S26) (i : Nat) (v : Value) (W : World) (ok : Nat → Prop) : Prop := ∃ n, r[i]? = some n ∧ NodeV W ok n v
theorem at_F26 {W : World} {ok : Nat → Prop} {A : Option Addr} {m : Nat} {xs : List S26} (h : Kd.F k26 W ok A m xs) (i : Nat) (h1 : i < m) : ∃ ad A4 c4 A6 c6, A = some ad ∧
    (W.cell? (ad.add (i * 7)) = some (.int .i64 (rd_T26 xs i).f0) ∧ W.cell? ⟨(ad.add (i * 7)).block, (ad.add (i * 7)).off + 1, none⟩ = some (.int .i64 (rd_T26 xs i).f1) ∧
    W.cell? ⟨(ad.add (i * 7)).block, (ad.add (i * 7)).off + 2, none⟩ = some (.int .i64 (rd_T26 xs i).f2) ∧ W.cell? ⟨(ad.add (i * 7)).block, (ad.add (i * 7)).off + 3, none⟩ = some (.int .i64 (rd_T26 xs i).f3) ∧
    W.cell? ⟨(ad.add (i * 7)).block, (ad.add (i * 7)).off + 4, none⟩ = some (.slice A4 (rd_T26 xs i).f4.length c4) ∧ W.cell? ⟨(ad.add (i * 7)).block, (ad.add (i * 7)).off + 5, none⟩ = some (.string (rd_T26 xs i).f5) ∧
    W.cell? ⟨(ad.add (i * 7)).block, (ad.add (i * 7)).off + 6, none⟩ = some (.slice A6 (rd_T26 xs i).f6.length c6)) ∧ NodeF W ok (rd_T26 xs i) A4 c4 A6 c6 := by
  obtain ⟨ad, c, e, _, hK, hc0, _⟩ := Kd.F_get h z26 (i : Int) (by omega) (by omega)
  have hc : ∀ j u, c[j]? = some u → W.cell? (ad.add (i * 7 + j)) = some u := hc0
  obtain ⟨A4, c4, A6, c6, rfl, l4, g4, l6, g6⟩ := k26_openF hK
  exact ⟨ad, A4, c4, A6, c6, e, ⟨hc 0 _ rfl, by rw [← add_field _ _ 1 (by omega)]; exact hc 1 _ rfl, by rw [← add_field _ _ 2 (by omega)]; exact hc 2 _ rfl, by rw [← add_field _ _ 3 (by omega)]; exact hc 3 _ rfl, by rw [← add_field _ _ 4 (by omega)]; exact hc 4 _ rfl, by rw [← add_field _ _ 5 (by omega)]; exact hc 5 _ rfl, by rw [← add_field _ _ 6 (by omega)]; exact hc 6 _ rfl⟩, l4, g4, l6, g6⟩
structure VOwn (l yb vb : Nat) (S : Nat → Prop) (W : World) : Prop where
  y : W.heap[yb]? = some (.cells #[.func (.yield l) #[] #[]] 55 (0, 0))
  sy : ¬ S yb
  v : W.heap[vb]? = some (.cells #[.func (.func 50) #[] #[.pointer (some ⟨yb, 0, none⟩), .pointer (some ⟨vb, 0, none⟩)]] 55 (0, 0))
  sv : ¬ S vb
theorem VOwn.go {l yb vb : Nat} {S S' : Nat → Prop} {W W' : World} (h : VOwn l yb vb S W) (hm : ∀ k, ¬ S k → k < W.heap.size → W'.heap[k]? = W.heap[k]?) (hS : ∀ k, S' k → S k ∨ W.heap.size ≤ k) : VOwn l yb vb S' W' := by
  have hn : ∀ k, ¬ S k → k < W.heap.size → ¬ S' k := fun k h1 h2 h3 => (hS k h3).elim h1 (fun h => by omega)
  exact ⟨(hm _ h.sy (blk_lt h.y)).trans h.y, hn _ h.sy (blk_lt h.y), (hm _ h.sv (blk_lt h.v)).trans h.v, hn _ h.sv (blk_lt h.v)⟩
def Went (J : Nat → (Nat → Prop) → World → Prop) (i : Nat) (S : Nat → Prop) (W : World) (W' : World) : Prop := ∃ S', J i S' W' ∧ Chg S W W' ∧ ∀ k, S' k → S k ∨ W.heap.size ≤ k
theorem preL_step {rec : S26 → Option (List S26)} {l : List S26} {i : Nat} {r : List S26} {k : S26} (h : preL rec (l.drop i) = some r) (hi : i < l.length) (hk : rd_T26 l (i : Int) = k) : ∃ a b, rec k = some a ∧ preL rec (l.drop (i + 1)) = some b ∧ r = a ++ b := by
  obtain rfl : l[i] = k := by rw [← hk]; simp [rd_T26, hi]
  rw [List.drop_eq_getElem_cons hi] at h
  unfold preL at h
  obtain ⟨a, ha, h⟩ := Option.bind_eq_some_iff.1 h
  obtain ⟨b, hb, h⟩ := Option.bind_eq_some_iff.1 h
  exact ⟨a, b, ha, hb, (Option.some.inj h).symm⟩
def VLoop (J : Nat → (Nat → Prop) → World → Prop) (i : Nat) (S : Nat → Prop) (W : World) (n : S26) (rl : List S26) (d : Nat) (l yb vb : Nat) (A4 : Option Addr) (c4 : Nat) (A6 : Option Addr) (c6 : Nat) (idx : Nat) (w : World) : Prop :=
  ∃ (cnt : Nat) (S1 : Nat → Prop), preL (preF d) (n.f6.drop idx) = some (rl.drop cnt) ∧ cnt ≤ rl.length ∧ idx ≤ n.f6.length ∧ J (i + 1 + cnt) S1 w ∧ VOwn l yb vb S1 w ∧ NodeF w (Fr S1 w) n A4 c4 A6 c6 ∧ Chg S W w ∧ ∀ k, S1 k → S k ∨ W.heap.size ≤ k
set_option maxHeartbeats 8000000 in
theorem visit_calls {B : Nat} {l yb vb : Nat} {r : List S26} {J : Nat → (Nat → Prop) → World → Prop} (hJst : Stable B J)
    (hY : ∀ i S W1 v, i < r.length → J i S W1 → ItR r i v W1 (Fr S W1) → YieldAt Fence.wide 0 Try.prog l #[v] W1 fun e W' => e = .returned (.bool true) ∧ ∃ S', J (i + 1) S' W' ∧ Chg S W1 W' ∧ ∀ k, S' k → S k ∨ W1.heap.size ≤ k) :
    ∀ (d : Nat) (n : S26) (r0 : List S26), preF d n = some r0 → ∀ (i : Nat) (S : Nat → Prop) (W : World) (A4 : Option Addr) (c4 : Nat) (A6 : Option Addr) (c6 : Nat), (∀ j m, r0[j]? = some m → r[i + j]? = some m) → J i S W → VOwn l yb vb S W → NodeF W (Fr S W) n A4 c4 A6 c6 →
      CallsIn Fence.wide 0 Try.prog 50 #[nodeV n A4 c4 A6 c6, .pointer (some ⟨yb, 0, none⟩), .pointer (some ⟨vb, 0, none⟩)] W fun e W' => e = .returned (.bool true) ∧ Went J (i + r0.length) S W W' := by
  intro d
  induction d with
  | zero => intro n r0 hr; simp [preF] at hr
  | succ d ih =>
    intro n r0 hr i S W A4 c4 A6 c6 hit hJ hO hN
    simp only [preF] at hr
    by_cases hsz : n.f6.length < 4611686018427387904
    case neg => rw [if_neg hsz] at hr; cases hr
    rw [if_pos hsz] at hr
    obtain ⟨rl, hrl, hr⟩ := Option.bind_eq_some_iff.1 hr
    obtain rfl := Option.some.inj hr
    clear hr
    have hu26 := Try.underlying26
    have hu55 := Try.underlying55
    have HST := Aside0.mk hJst
    have HY := Aside0.mk hY
    have HI := Aside0.mk ih
    have HT := Aside0.mk hit
    have HL : Aside0 (preL (preF d) n.f6 = some rl) := ⟨hrl⟩
    have HZ := Aside0.mk hsz
    have HJ := Aside0.mk hJ
    have HO := Aside0.mk hO
    have HN := Aside0.mk hN
    clear hJst hY ih hit hrl hsz hJ hO hN
    refine callsIn_of_wp Try.func50 rfl trivial ?_
    simp only [Try.ntmps50, List.size_toArray, List.length_cons, List.length_nil, Nat.reduceAdd, Nat.reduceSub, Array.replicate_succ, Array.replicate_zero, List.push_toArray, List.append_toArray, List.nil_append, List.cons_append]
    have y0 : ∀ o, (W.alloc o).cell? ⟨yb, 0, none⟩ = some (.func (.yield l) #[] #[]) := fun o => (blk_cell (blk_alloc HO.out.y o) 0).trans rfl
    obtain ⟨ob, hob⟩ : ∃ ob, ob = Obj.cells #[.int .i64 n.f0, .int .i64 n.f1, .int .i64 n.f2, .int .i64 n.f3, .slice A4 n.f4.length c4, .string n.f5, .slice A6 n.f6.length c6] 26 := ⟨_, rfl⟩
    have hB1 : Below W.heap.size W (W.alloc ob) := below_alloc (Below.refl _ _) _
    have hJ1 : J i S (W.alloc ob) := HST.out.step HJ.out (Chg.of_below _ hB1)
    have hS0 := (HST.out.bound HJ.out).2
    have hO1 : VOwn l yb vb S (W.alloc ob) := HO.out.go (fun k _ b => hB1.block k b) (fun k h => .inl h)
    have hN1 : NodeF (W.alloc ob) (Fr S (W.alloc ob)) n A4 c4 A6 c6 := HN.out.go (fun k _ b => hB1.block k b) (fun k a b => ⟨a.1, by simp; omega⟩)
    have hb1 : (W.alloc ob).heap[W.heap.size]? = some (.cells #[.int .i64 n.f0, .int .i64 n.f1, .int .i64 n.f2, .int .i64 n.f3, .slice A4 n.f4.length c4, .string n.f5, .slice A6 n.f6.length c6] 26 (0, 0)) := hob ▸ blk_new _ _
    have hi0 : r[i]? = some n := by simpa using HT.out 0 n rfl
    obtain ⟨fn, tmps, assign, body, hy, hR⟩ := HY.out i S (W.alloc ob) (.agg #[.int .i64 n.f0, .int .i64 n.f1, .int .i64 n.f2, .int .i64 n.f3, .slice A4 n.f4.length c4, .string n.f5, .slice A6 n.f6.length c6]) (List.getElem?_eq_some_iff.1 hi0).1 hJ1 ⟨n, hi0, A4, c4, A6, c6, rfl, hN1⟩
    replace hJ1 := Aside0.mk hJ1
    replace hO1 := Aside0.mk hO1
    replace hN1 := Aside0.mk hN1
    replace hB1 := Aside0.mk hB1
    replace hb1 := Aside0.mk hb1
    replace hR := Aside0.mk hR
    subst hob
    gi_wp2
    refine ⟨rfl, RoundIn.mono (F := Fence.wide) hR.out ?_⟩
    rintro e w2 ⟨rfl, S2, hJ2, hC2, hS2⟩
    have hz1 : (W.alloc (.cells #[.int .i64 n.f0, .int .i64 n.f1, .int .i64 n.f2, .int .i64 n.f3, .slice A4 n.f4.length c4, .string n.f5, .slice A6 n.f6.length c6] 26)).heap.size = W.heap.size + 1 := by simp
    have hnb : ¬ S W.heap.size := fun h => by have := hS0 _ h; omega
    have hb2 := hC2.same hb1.out hnb
    have hn2 : ∀ k, ¬ S k → k < W.heap.size + 1 → ¬ S2 k := fun k h1 h2 h3 => (hS2 k h3).elim h1 (fun h => by omega)
    have hVL : VLoop J i S W n rl d l yb vb A4 c4 A6 c6 0 w2 := by
      refine ⟨0, S2, by rw [List.drop_zero, List.drop_zero]; exact HL.out, by omega, by omega, hJ2, hO1.out.go (fun k a b => hC2.block k b a) hS2, hN1.out.go (fun k a b => hC2.block k b a.1) (fun k a b => ⟨hn2 k a.1 (by omega), Nat.lt_of_lt_of_le b hC2.size⟩), ?_, fun k h => ?_⟩
      · exact (Chg.of_below S hB1.out).trans hC2 (fun _ _ h => h)
      · exact (hS2 k h).imp id (fun h => by omega)
    have v6 : w2.cell? ⟨W.heap.size, 6, none⟩ = some (.slice A6 n.f6.length c6) := (blk_cell hb2 6).trans rfl
    replace hVL := Aside0.mk hVL
    replace hb2 := Aside0.mk hb2
    clear hy hR hJ1 hO1 hN1 hJ2 hC2 hS2 hb1 hn2
    gi_wp2
    gi_loopg [14] n.f6.length (fun m u14 wr => ∃ idx : Nat, u14 = .int .i64 idx ∧ m + idx = n.f6.length ∧ Aside0 (VLoop J i S W n rl d l yb vb A4 c4 A6 c6 idx wr))
    case atStart =>
      exact ⟨0, rfl, by omega, hVL⟩
    case round =>
      clear hVL hb2 v6 hB1
      obtain ⟨idx, rfl, hmi, hv⟩ := hrel
      by_cases hlt : idx < n.f6.length
      · have hb : decide ((idx : Int) < n.f6.length) = true := decide_eq_true (by omega)
        obtain ⟨cnt, S1, hk, hcnt, hidx, hJ, hO, hN, hC, hS⟩ := hv.out
        obtain ⟨ad, B4, e4, B6, e6, hA6, ⟨q0, q1, q2, q3, q4, q5, q6⟩, hNk⟩ := at_F26 hN.f6 idx hlt
        generalize hkk : rd_T26 n.f6 (idx : Int) = k at q0 q1 q2 q3 q4 q5 q6 hNk
        obtain ⟨ra, rb, hra, hrb, hab⟩ := preL_step hk hlt hkk
        subst hA6
        have i0 : 0 ≤ (idx : Int) := by omega
        have i1 : (idx : Int) < n.f6.length := by omega
        have hk := Aside0.mk hk
        have hJ := Aside0.mk hJ
        have hO := Aside0.mk hO
        have hN := Aside0.mk hN
        have hC := Aside0.mk hC
        have hS := Aside0.mk hS
        have hNk := Aside0.mk hNk
        have hra := Aside0.mk hra
        have hrb := Aside0.mk hrb
        have hab := Aside0.mk hab
        have v0 : ∀ o, (wr.alloc o).cell? ⟨vb, 0, none⟩ = some (.func (.func 50) #[] #[.pointer (some ⟨yb, 0, none⟩), .pointer (some ⟨vb, 0, none⟩)]) := fun o => (blk_cell (blk_alloc hO.out.v o) 0).trans rfl
        gi_wp2
        have hBk := below_alloc (Below.refl wr.heap.size wr) (Obj.cells #[.int .i64 k.f0, .int .i64 k.f1, .int .i64 k.f2, .int .i64 k.f3, .slice B4 k.f4.length e4, .string k.f5, .slice B6 k.f6.length e6] 26)
        refine ⟨trivial, rfl, CallsIn.mono (HI.out k ra hra.out (i + 1 + cnt) S1 _ B4 e4 B6 e6 (fun j m hj => ?_) (HST.out.step hJ.out (Chg.of_below _ hBk)) (hO.out.go (fun x _ b => hBk.block x b) (fun x h => .inl h)) (hNk.out.go (fun x _ b => hBk.block x b) (fun x a b => ⟨a.1, by simp; omega⟩))) ?_⟩
        · have h1 := HT.out (cnt + 1 + j) m
          rw [show i + 1 + cnt + j = i + (cnt + 1 + j) from by omega]
          refine h1 ?_
          rw [show cnt + 1 + j = cnt + j + 1 from by omega, List.getElem?_cons_succ, ← List.getElem?_drop, hab.out, List.getElem?_append_left (List.getElem?_eq_some_iff.1 hj).1]
          exact hj
        rintro e w3 ⟨rfl, S3, hJ3, hC3, hS3⟩
        have hJ3 := Aside0.mk hJ3
        have hC3 := Aside0.mk hC3
        have hS3 := Aside0.mk hS3
        have hBk := Aside0.mk hBk
        have hlt62 := HZ.out
        gi_wp2
        have hi1 : (idx : Int) + 1 = ((idx + 1 : Nat) : Int) := by omega
        rw [hi1]
        gi_roundg (n.f6.length - (idx + 1))
        case measure => omega
        case rel =>
          have hal : cnt + ra.length ≤ rl.length := by
            have := congrArg List.length hab.out
            simp at this
            omega
          have hCw : Chg S1 wr w3 := (Chg.of_below S1 hBk.out).trans hC3.out (fun _ _ h => h)
          have hz : (wr.alloc (Obj.cells #[.int .i64 k.f0, .int .i64 k.f1, .int .i64 k.f2, .int .i64 k.f3, .slice B4 k.f4.length e4, .string k.f5, .slice B6 k.f6.length e6] 26)).heap.size = wr.heap.size + 1 := by simp
          have hS3' : ∀ x, S3 x → S1 x ∨ wr.heap.size ≤ x := fun x h => (hS3.out x h).imp id (fun h => by omega)
          refine ⟨idx + 1, rfl, by omega, ⟨cnt + ra.length, S3, ?_, hal, by omega, ?_, hO.out.go (fun x a b => hCw.block x b a) hS3', hN.out.go (fun x a b => hCw.block x b a.1) (fun x a b => ⟨fun h => (hS3' x h).elim a.1 (fun h => by omega), Nat.lt_of_lt_of_le b hCw.size⟩), ?_, fun x h => ?_⟩⟩
          · rw [hrb.out, ← List.drop_drop, hab.out, List.drop_left]
          · rw [← Nat.add_assoc]
            exact hJ3.out
          · exact hC.out.trans hCw (fun x hx h => (hS.out x h).elim id (fun h => by omega))
          · have := hC.out.size
            exact (hS3' x h).elim (fun h => hS.out x h) (fun h => .inr (by omega))
      · have hb : decide ((idx : Int) < n.f6.length) = false := decide_eq_false (by omega)
        gi_wp2
        obtain ⟨cnt, S1, hk, hcnt, hidx, hJ, hO, hN, hC, hS⟩ := hv.out
        obtain rfl : idx = n.f6.length := by omega
        rw [List.drop_length] at hk
        have hcl := congrArg List.length (Option.some.inj hk)
        rw [List.length_drop] at hcl
        obtain rfl : cnt = rl.length := by simp at hcl; omega
        refine bodyPost_ret (results_tmp rfl _ _ _) rfl ⟨rfl, S1, ?_, hC, hS⟩
        rw [show i + (rl.length + 1) = i + 1 + rl.length from by omega]
        exact hJ
structure PreA (bn : Nat) (n : S26) (A4 : Option Addr) (c4 : Nat) (A6 : Option Addr) (c6 : Nat) (W : World) (ok : Nat → Prop) : Prop where
  hn : W.heap[bn]? = some (.cells #[.int .i64 n.f0, .int .i64 n.f1, .int .i64 n.f2, .int .i64 n.f3, .slice A4 n.f4.length c4, .string n.f5, .slice A6 n.f6.length c6] 26 (0, 0))
  kn : ok bn
  nf : NodeF W ok n A4 c4 A6 c6
theorem PreA.go {bn : Nat} {n : S26} {A4 c4 A6 c6} {W W' : World} {ok ok' : Nat → Prop} (h : PreA bn n A4 c4 A6 c6 W ok) (hm : ∀ k, ok k → k < W.heap.size → W'.heap[k]? = W.heap[k]?) (hk : ∀ k, ok k → k < W.heap.size → ok' k) : PreA bn n A4 c4 A6 c6 W' ok' :=
  ⟨(hm _ h.kn (blk_lt h.hn)).trans h.hn, hk _ h.kn (blk_lt h.hn), h.nf.go hm hk⟩
set_option maxHeartbeats 8000000 in
theorem all_gives (d : Nat) (n : S26) (r : List S26) (hr : preF d n = some r) (bn : Nat) (A4 : Option Addr) (c4 : Nat) (A6 : Option Addr) (c6 : Nat) :
    Gives Try.prog 49 #[.pointer (some ⟨bn, 0, none⟩)] r.length (ItR r) (PreA bn n A4 c4 A6 c6) := by
  intro l J S0 W hJst hJ0 hpre hY
  have hu26 := Try.underlying26
  have hu55 := Try.underlying55
  have HS := Aside0.mk hJst
  have HJ := Aside0.mk hJ0
  have HP := Aside0.mk hpre
  have HY := Aside0.mk hY
  have HR := Aside0.mk hr
  have hS0 := (hJst.bound hJ0).2
  clear hJst hJ0 hpre hY hr
  refine callsIn_of_wp Try.func49 rfl trivial ?_
  simp only [Try.ntmps49, List.size_toArray, List.length_cons, List.length_nil, Nat.reduceAdd, Nat.reduceSub, Array.replicate_succ, Array.replicate_zero, List.push_toArray, List.append_toArray, List.nil_append, List.cons_append]
  obtain ⟨fv, hfv⟩ : ∃ fv, fv = Value.func (.func 50) #[] #[.pointer (some ⟨W.heap.size, 0, none⟩), .pointer (some ⟨W.heap.size + 1, 0, none⟩)] := ⟨_, rfl⟩
  obtain ⟨o1, ho1⟩ : ∃ o1, o1 = Obj.cells #[.func (.yield l) #[] #[]] 55 := ⟨_, rfl⟩
  have k1 : ((W.alloc o1).alloc (Obj.cells #[.nilFunc] 55)).heap[W.heap.size + 1]? = some (.cells #[.nilFunc] 55 (0, 0)) := by
    have h := blk_new (W.alloc o1) (Obj.cells #[.nilFunc] 55)
    rwa [World.size_alloc] at h
  obtain ⟨W3, hW3⟩ : ∃ W3, W3 = (W.alloc o1).alloc (Obj.cells #[fv] 55) := ⟨_, rfl⟩
  have k2 : W3.heap[W.heap.size + 1]? = some (.cells #[fv] 55 (0, 0)) := by
    have h := blk_new (W.alloc o1) (Obj.cells #[fv] 55)
    rw [World.size_alloc] at h
    rw [hW3]
    exact h
  have k3 : W3.heap[W.heap.size]? = some (.cells #[.func (.yield l) #[] #[]] 55 (0, 0)) := by
    rw [hW3]
    exact blk_alloc (ho1 ▸ blk_new W _) _
  have hB3 : Below W.heap.size W W3 := by
    rw [hW3]
    exact below_alloc (below_alloc (Below.refl _ _) _) _
  have f1 : ((W.alloc o1).alloc (Obj.cells #[.nilFunc] 55)).cell? ⟨W.heap.size + 1, 0, none⟩ = some .nilFunc := (blk_cell k1 0).trans rfl
  have f2 := blk_frozen k1 0
  have g1 : W3.cell? ⟨W.heap.size + 1, 0, none⟩ = some fv := (blk_cell k2 0).trans rfl
  have hP3 := HP.out.go (W' := W3) (ok' := Fr S0 W3) (fun k _ b => hB3.block k b) (fun k a b => ⟨a.1, Nat.lt_of_lt_of_le b hB3.size⟩)
  have n0 : W3.cell? ⟨bn, 0, none⟩ = some (.int .i64 n.f0) := (blk_cell hP3.hn 0).trans rfl
  have n1 : W3.cell? ⟨bn, 1, none⟩ = some (.int .i64 n.f1) := (blk_cell hP3.hn 1).trans rfl
  have n2 : W3.cell? ⟨bn, 2, none⟩ = some (.int .i64 n.f2) := (blk_cell hP3.hn 2).trans rfl
  have n3 : W3.cell? ⟨bn, 3, none⟩ = some (.int .i64 n.f3) := (blk_cell hP3.hn 3).trans rfl
  have n4 : W3.cell? ⟨bn, 4, none⟩ = some (.slice A4 n.f4.length c4) := (blk_cell hP3.hn 4).trans rfl
  have n5 : W3.cell? ⟨bn, 5, none⟩ = some (.string n.f5) := (blk_cell hP3.hn 5).trans rfl
  have n6 : W3.cell? ⟨bn, 6, none⟩ = some (.slice A6 n.f6.length c6) := (blk_cell hP3.hn 6).trans rfl
  replace k2 := Aside0.mk k2
  replace k3 := Aside0.mk k3
  replace hB3 := Aside0.mk hB3
  have h1c : fv.oneCell' = true := by rw [hfv]; rfl
  have hst := run_store Try.prog ((W.alloc o1).alloc (Obj.cells #[.nilFunc] 55)) ⟨W.heap.size + 1, 0, none⟩ fv .plain h1c
  replace hP3 := Aside0.mk hP3
  subst hW3 hfv ho1
  clear k1
  gi_wp2
  refine ⟨trivial, rfl, CallsIn.mono (visit_calls HS.out HY.out d n r HR.out 0 S0 _ A4 c4 A6 c6 (fun j m hj => by rw [Nat.zero_add]; exact hj) (HS.out.step HJ.out (Chg.of_below _ hB3.out)) ⟨k3.out, fun h => by have := hS0 _ h; omega, k2.out, fun h => by have := hS0 _ h; omega⟩ hP3.out.nf) ?_⟩
  rintro e w4 ⟨rfl, S4, hJ4, hC4, hS4⟩
  rw [Nat.zero_add] at hJ4
  have hJ4 := Aside0.mk hJ4
  clear hC4 hS4
  gi_wp2
  exact bodyPost_end (results_none rfl _ _ _) rfl ⟨⟨_, rfl⟩, S4, hJ4.out⟩
set_option maxHeartbeats 8000000 in
/-- cst.all: the iterator, over a box of its own. -/
theorem all_calls (n : S26) (A4 : Option Addr) (c4 : Nat) (A6 : Option Addr) (c6 : Nat) (w : World) :
    Calls Try.prog 44 #[nodeV n A4 c4 A6 c6] w fun e w' => e = .returned (.func (.func 49) #[] #[.pointer (some ⟨w.heap.size, 0, none⟩)]) ∧ Below w.heap.size w w' ∧ w'.heap.size = w.heap.size + 1 ∧
      w'.heap[w.heap.size]? = some (.cells #[.int .i64 n.f0, .int .i64 n.f1, .int .i64 n.f2, .int .i64 n.f3, .slice A4 n.f4.length c4, .string n.f5, .slice A6 n.f6.length c6] 26 (0, 0)) := by
  have hu26 := Try.underlying26
  have hb := below_alloc (Below.refl w.heap.size w) (Obj.cells #[.int .i64 n.f0, .int .i64 n.f1, .int .i64 n.f2, .int .i64 n.f3, .slice A4 n.f4.length c4, .string n.f5, .slice A6 n.f6.length c6] 26)
  have hk := blk_new w (Obj.cells #[.int .i64 n.f0, .int .i64 n.f1, .int .i64 n.f2, .int .i64 n.f3, .slice A4 n.f4.length c4, .string n.f5, .slice A6 n.f6.length c6] 26)
  replace hb := Aside0.mk hb
  replace hk := Aside0.mk hk
  go_enter Try.func44, Try.ntmps44
  go_wp2
  go_ret
  exact ⟨rfl, hb.out, by simp, hk.out⟩
end Go.Proofs.Ytfekpmbecoeijaa.Hand
namespace Go.Proofs.Ytfekpmbecoeijaa.Hand
open Go.RowKit Go.Proofs.YtfekpmbecoeijaaW.PrintWords Go.Proofs.YtfekpmbecoeijaaW.PrintLast Go.Proofs.YtfekpmbecoeijaaW.PrintMore Go.Proofs.Ytfekpmbecoeijaa.Q Go.Proofs.Ytfekpmbecoeijaa.RF
attribute [local go_sem] Oper.semAt_some
set_option linter.unusedVariables false
set_option linter.unusedSimpArgs false
set_option maxRecDepth 100000
def mark (D : Nat) : Deferred := { target := .collected D, args := #[] }
theorem leaves_marks {P : Program} {fn : Func} {tmps : Array Value} {R : Ending → World → Prop} : ∀ (Ds : List Nat) (w : World), Ds.Nodup → (∀ D ∈ Ds, w.heap[D]? = some (.deferred (some []))) →
    (∀ w', Chg (fun k => k ∈ Ds) w w' → LeavesIn Fence.wide 0 P fn tmps R [] .returning w') → LeavesInM Fence.wide 0 P fn tmps R (Ds.map mark) .returning w
  | [], w, _, _, h => h w (Chg.refl _ _)
  | D :: Ds, w, hn, hd, h => by
    obtain ⟨h1, h2⟩ := List.nodup_cons.1 hn
    refine ⟨by simp, .inl ⟨D, _, rfl, run_takeDeferred (hd D List.mem_cons_self), ?_⟩⟩
    refine leaves_marks Ds _ h2 (fun E hE => (World.putObj_heap_other (fun e => h1 (by subst e; exact hE))).trans (hd E (List.mem_cons_of_mem _ hE))) fun w' hc => h w' ?_
    exact (Chg.put w D _ List.mem_cons_self).trans (hc.mono fun k _ hk => List.mem_cons_of_mem _ hk) (fun _ _ h => h)
theorem new_at {j : Nat} (w : World) (o : Obj) (h : j = w.heap.size) : (w.alloc o).heap[j]? = some o := by rw [h]; exact blk_new w o
section
variable {T bl : Nat} {w0 w8 : World} {val : Nat → Value}
structure Ctr (T : Nat) (w0 w8 : World) (bl : Nat) (val : Nat → Value) (j : Nat) (S : Nat → Prop) (W : World) : Prop where
  s : ∀ k, S k ↔ k = bl
  sz : w8.heap.size ≤ W.heap.size
  keep : ∀ k, k < w8.heap.size → k ≠ bl → W.heap[k]? = w8.heap[k]?
  hb : W.heap[bl]? = some (.cells #[val j] T (0, 0))
  lo : w0.heap.size ≤ bl
  bel : Below w0.heap.size w0 W
theorem ctr_stable (hB : w0.heap.size ≤ w8.heap.size) : Stable w8.heap.size (Ctr T w0 w8 bl val) := by
  refine ⟨fun h => ⟨h.sz, fun k hk => by rw [(h.s k).1 hk]; exact blk_lt h.hb⟩, fun {i S W W'} h hc => ?_⟩
  refine ⟨h.s, Nat.le_trans h.sz hc.size, fun k hk hn => (hc.block k (Nat.lt_of_lt_of_le hk h.sz) (fun h => by omega)).trans (h.keep k hk hn), hc.same h.hb (fun x => x.2 ((h.s bl).2 rfl)), h.lo, ?_⟩
  exact hc.below_then h.bel h.bel.size (fun k hk h => by omega)
theorem ctr_next {j : Nat} {S : Nat → Prop} {W W1 W2 : World} {a : Act} (h : Ctr T w0 w8 bl val j S W) (g : Ctr T w0 w8 bl val j S W1) (hb : W2.heap[bl]? = some (.cells #[val (j + 1)] T (0, 0)))
    (hc : Chg (fun k => k = bl) W1 W2) : RPost (Ctr T w0 w8 bl val) j S W W1 .normal a W2 := by
  refine ⟨rfl, S, ⟨h.s, Nat.le_trans g.sz hc.size, fun k hk hn => (hc.block k (Nat.lt_of_lt_of_le hk g.sz) hn).trans (g.keep k hk hn), hb, h.lo, ?_⟩, hc.mono (fun k _ hk => (h.s k).2 hk), fun k hk => .inl hk⟩
  exact hc.below_then g.bel g.bel.size (fun k hk h => by have := g.lo; omega)
end
def sizeOf (k : Nat) (n : S26) : Option Int := (preF k n).bind fun l => if l.length < 9223372036854775807 then some (l.length : Int) else none
end Go.Proofs.Ytfekpmbecoeijaa.Hand
namespace Go.Proofs.Ytfekpmbecoeijaa.Hand
open Go.RowKit Go.Proofs.YtfekpmbecoeijaaW.PrintWords Go.Proofs.YtfekpmbecoeijaaW.PrintLast Go.Proofs.YtfekpmbecoeijaaW.PrintMore Go.Proofs.Ytfekpmbecoeijaa.Q Go.Proofs.Ytfekpmbecoeijaa.RF
set_option linter.unusedVariables false
set_option linter.unusedSimpArgs false
set_option maxRecDepth 100000
theorem inf9 : (Try.prog.info? 9).map (fun i => (i.zero, i.size, i.bytes)) = some (some (.string (⟨#[]⟩ : ByteArray)), 1, 16) := by kernel_rfl
def ownL (n : S26) : List ByteArray := if n.f0 < 0 then [] else n.f4.map (·.f2) ++ [n.f5]
structure OwnI (n : S26) (A4 : Option Addr) (c4 : Nat) (A6 : Option Addr) (c6 : Nat) (w : World) (i : Nat) (v : Value) (W : World) : Prop where
  hb : W.heap[w.heap.size]? = some (.cells #[.int .i64 n.f0, .int .i64 n.f1, .int .i64 n.f2, .int .i64 n.f3, .slice A4 n.f4.length c4, .string n.f5, .slice A6 n.f6.length c6] 26 (0, 0))
  row : Kd.R Kd.string 9 W w.heap.size (fun k => k ≠ w.heap.size) v ((n.f4.take i).map (·.f2))
  bel : Below w.heap.size w W
set_option maxHeartbeats 8000000 in
theorem own_calls (n : S26) (A4 : Option Addr) (c4 : Nat) (A6 : Option Addr) (c6 : Nat) (w : World) (hlen : n.f4.length < 4398046511104)
    (hr4 : Kd.C k76 w A4 n.f4.length n.f4) (hc4 : n.f4.length ≤ c4) :
    Calls Try.prog 45 #[nodeV n A4 c4 A6 c6] w fun e w' => ∃ v, e = .returned v ∧ Kd.R Kd.string 9 w' w.heap.size (fun _ => True) v (ownL n) ∧ Below w.heap.size w w' := by
  have hu26 := Try.underlying26
  have hu72 := Try.underlying72
  obtain ⟨ob, hob⟩ : ∃ ob, ob = Obj.cells #[.int .i64 n.f0, .int .i64 n.f1, .int .i64 n.f2, .int .i64 n.f3, .slice A4 n.f4.length c4, .string n.f5, .slice A6 n.f6.length c6] 26 := ⟨_, rfl⟩
  have hB1 : Below w.heap.size w (w.alloc ob) := below_alloc (Below.refl _ _) _
  have hb1 : (w.alloc ob).heap[w.heap.size]? = some (.cells #[.int .i64 n.f0, .int .i64 n.f1, .int .i64 n.f2, .int .i64 n.f3, .slice A4 n.f4.length c4, .string n.f5, .slice A6 n.f6.length c6] 26 (0, 0)) := hob ▸ blk_new _ _
  obtain ⟨i9, hi9, hz0, hz1, hz2⟩ := info_parts inf9
  have hmk : (Instr.makeSlice 72 (.int .i64 0) (.int .i64 ((n.f4.length : Int) + 1))).run Try.prog (w.alloc ob) = .ok (.slice (some ⟨w.heap.size + 1, 0, none⟩) 0 (n.f4.length + 1)) ((w.alloc ob).alloc (.cells (madeCells #[.string ⟨#[]⟩] (n.f4.length + 1)) 9)) := by
    have h := run_make (P := Try.prog) (w.alloc ob) 72 9 i9 (.string ⟨#[]⟩) hu72 hi9 hz0 .i64 .i64 0 ((n.f4.length : Int) + 1) (by omega) (by omega) (by rw [hz2]; omega) (by omega)
    rw [hz1, World.size_alloc, show ((n.f4.length : Int) + 1).toNat = n.f4.length + 1 by omega, Nat.mul_one] at h
    exact h
  have hw : IntKind.i64.wrap ((n.f4.length : Int) + 1) = (n.f4.length : Int) + 1 := by rw [IntKind.wrap_i64]; omega
  replace hB1 := Aside0.mk hB1
  replace hb1 := Aside0.mk hb1
  replace hr4 := Aside0.mk hr4
  subst hob
  go_enter Try.func45, Try.ntmps45
  by_cases hs : n.f0 < 0
  · go_wp2
    go_ret
    refine ⟨_, rfl, ?_, hB1.out⟩
    have : ownL n = [] := if_pos hs
    rw [this]
    exact Kd.R_nil _ _ _ _ _
  · go_wp2
    go_loopg [3, 17] n.f4.length (fun m u3 u17 wr => ∃ (i : Nat), u17 = .int .i64 i ∧ m + i = n.f4.length ∧ Aside0 (OwnI n A4 c4 A6 c6 w i u3 wr))
    case atStart =>
      refine ⟨0, rfl, by omega, ⟨blk_alloc hb1.out _, ?_, below_alloc hB1.out _⟩⟩
      have h := World.ownsRow_lit (base := w.heap.size) (e := 9) (size := 1) (w.alloc (Obj.cells #[.int .i64 n.f0, .int .i64 n.f1, .int .i64 n.f2, .int .i64 n.f3, .slice A4 n.f4.length c4, .string n.f5, .slice A6 n.f6.length c6] 26)) (madeCells #[.string ⟨#[]⟩] (n.f4.length + 1)) (n.f4.length + 1) hB1.out.size (by simp [maxLen]; omega) (by simp [size_madeCells])
      have h2 := own_take h (Nat.zero_le _)
      rw [World.size_alloc] at h2
      have e0 : (n.f4.take 0).map (·.f2) = ([] : List ByteArray) := by rw [List.take_zero]; rfl
      rw [e0]
      rw [Nat.zero_mul, List.take_zero] at h2
      refine ⟨fun k hk => ?_, [], ?_, ?_⟩
      · have e : w.heap.size + 1 = k := by simpa [Value.ownBlock] using hk
        omega
      · exact h2
      · exact Reps.none _ _
    case round =>
      obtain ⟨i, rfl, hmi, hv⟩ := hrel
      by_cases hlt : i < n.f4.length
      · have hb : decide ((i : Int) < n.f4.length) = true := decide_eq_true (by omega)
        have i0 : 0 ≤ (i : Int) := by omega
        have i1 : (i : Int) < n.f4.length := by omega
        obtain ⟨ad, hA4, q0, q1, q2⟩ := at_T76 (Kd.C_below hr4.out hv.out.bel) (i : Int) i0 i1
        subst hA4
        simp only [Int.toNat_natCast] at q0 q1 q2
        generalize hkk : rd_T76 n.f4 (i : Int) = k at q0 q1 q2
        have hkk := Aside0.mk hkk
        have hsl : i < 4398046511104 := by omega
        obtain ⟨hvb, hvr, hvl⟩ := hv.out
        obtain ⟨w1, hw1⟩ : ∃ w1, wr.alloc (.cells #[.int .i64 k.f0, .int .i64 k.f1, .string k.f2] 76) = w1 := ⟨_, rfl⟩
        have hB2 : Below wr.heap.size wr w1 := hw1 ▸ below_alloc (Below.refl _ _) _
        have hr1 := Kd.R_below hvr hB2
        have hl1 := below_step hvl hB2
        have hvb1 := blk_below hvb hB2
        have hL : ((n.f4.take i).map (·.f2)).length = i := by simp; omega
        have hlw : w.heap.size < w1.heap.size := blk_lt hvb1
        have hfre : ∀ x, w1.heap.size ≤ x → x ≠ w.heap.size := fun x hx => by omega
        replace hvb := Aside0.mk hvb
        replace hvr := Aside0.mk hvr
        replace hvl := Aside0.mk hvl
        replace hB2 := Aside0.mk hB2
        replace hr1 := Aside0.mk hr1
        replace hl1 := Aside0.mk hl1
        replace hvb1 := Aside0.mk hvb1
        replace hfre := Aside0.mk hfre
        have z2 : w1.cell? ⟨wr.heap.size, 2, none⟩ = some (.string k.f2) := (blk_cell (hw1 ▸ blk_new wr _) 2).trans rfl
        go_upto_region 7 with (fail)
        go_wp2_with ((with_reducible refine gate_builtin (b := .append) (xs := #[.tmp 21, .tmp 24]) rfl ?_); at_builtin; refine Kd.R_append Kd.string (w0 := w) w.heap.size rfl (.tmp 21) (.tmp 24) 72 9 (.string ⟨#[]⟩) 16 rfl Try.underlying72 inf9 rfl (by decide) (by omega) u3 ((n.f4.take i).map (·.f2)) k.f2 [.string k.f2] (fun x => x ≠ w.heap.size) (fun _ => False) rfl rfl rfl (fun _ h => h.elim) hfre.out hr1.out hl1.out hl1.out.size (by omega) ?_; intro v1 w2 ho hb hg hat; have b2 := blk_grown hvb1.out hg (fun e => (hr1.out.1 _ e.symm) rfl); have HO := Aside0.mk ho; have HB := Aside0.mk hb; have HG := Aside0.mk hg; have B2 := Aside0.mk b2; clear ho hb hg hat b2)
        have hi1 : (i : Int) + 1 = ((i + 1 : Nat) : Int) := by omega
        rw [hi1]
        go_roundg (n.f4.length - (i + 1))
        case measure => omega
        case rel =>
          refine ⟨i + 1, rfl, by omega, ⟨B2.out, ?_, HB.out⟩⟩
          have hs : (n.f4.take (i + 1)).map (·.f2) = (n.f4.take i).map (·.f2) ++ [k.f2] := by
            have : n.f4[i] = k := by rw [← hkk.out]; simp [rd_T76, hlt]
            rw [List.take_succ_eq_append_getElem hlt, List.map_append, this]
            rfl
          rw [hs]
          exact HO.out
      · have hb : decide ((i : Int) < n.f4.length) = false := decide_eq_false (by omega)
        obtain rfl : i = n.f4.length := by omega
        have v5 : wr.cell? ⟨w.heap.size, 5, none⟩ = some (.string n.f5) := (blk_cell hv.out.hb 5).trans rfl
        have hL : ((n.f4.take n.f4.length).map (·.f2)).length = n.f4.length := by simp
        have hlw : w.heap.size < wr.heap.size := blk_lt hv.out.hb
        have hfre : ∀ x, wr.heap.size ≤ x → x ≠ w.heap.size := fun x hx => by omega
        replace hfre := Aside0.mk hfre
        go_wp2_with ((with_reducible refine gate_builtin (b := .append) (xs := #[.tmp 27, .tmp 30]) rfl ?_); at_builtin; refine Kd.R_append Kd.string (w0 := w) w.heap.size rfl (.tmp 27) (.tmp 30) 72 9 (.string ⟨#[]⟩) 16 rfl Try.underlying72 inf9 rfl (by decide) (by omega) u3 ((n.f4.take n.f4.length).map (·.f2)) n.f5 [.string n.f5] (fun x => x ≠ w.heap.size) (fun _ => False) rfl rfl rfl (fun _ h => h.elim) hfre.out hv.out.row hv.out.bel hv.out.bel.size (by omega) ?_; intro v1 w2 ho hb hg hat; have HO := Aside0.mk ho; have HB := Aside0.mk hb; clear ho hb hg hat)
        go_ret
        refine ⟨_, rfl, ?_, HB.out⟩
        have : ownL n = (n.f4.take n.f4.length).map (·.f2) ++ [n.f5] := by
          unfold ownL
          rw [if_neg (by omega), List.take_length]
        rw [this]
        exact Kd.R_mono HO.out (fun _ _ => trivial)
end Go.Proofs.Ytfekpmbecoeijaa.Hand
