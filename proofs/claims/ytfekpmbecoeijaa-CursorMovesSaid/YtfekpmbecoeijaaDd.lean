import Derived.Test.YtfekpmbecoeijaaPuK
import Derived.Laws.CopyOwn
import Derived.Laws.IdiomStrings
import Derived.Test.YtfekpmbecoeijaaCx
set_option linter.unusedVariables false
namespace Go.Proofs.Ytfekpmbecoeijaa.Pure
open Go.RowKit Go.Proofs.Ytfekpmbecoeijaa.Q Go.Proofs.YtfekpmbecoeijaaW.PrintWords Go.Proofs.YtfekpmbecoeijaaW.PrintLast
open Hand (cloneB textLen lenL ownL sizes preF preL lenOf cOwn lens offF Cu downF nextUp nextF prevF lastF leafF)
theorem sizes_app (a b : List ByteArray) : sizes (a ++ b) = sizes a + sizes b := by simp [sizes]
end Go.Proofs.Ytfekpmbecoeijaa.Pure
namespace Go.Proofs.Ytfekpmbecoeijaa.Hand
open Go.RowKit Go.Proofs.YtfekpmbecoeijaaW.PrintWords Go.Proofs.YtfekpmbecoeijaaW.PrintLast Go.Proofs.YtfekpmbecoeijaaW.PrintMore Go.Proofs.Ytfekpmbecoeijaa.Q Go.Proofs.Ytfekpmbecoeijaa.RF
open Go.Proofs.Ytfekpmbecoeijaa.Pure (cat cat_size sizes_cons sizes_app)
attribute [local go_sem] Oper.semAt_some
set_option linter.unusedVariables false
set_option linter.unusedSimpArgs false
set_option maxRecDepth 100000
end Go.Proofs.Ytfekpmbecoeijaa.Hand
namespace Go.Proofs.Ytfekpmbecoeijaa.Hand
open Go.RowKit Go.Proofs.YtfekpmbecoeijaaW.PrintWords Go.Proofs.YtfekpmbecoeijaaW.PrintLast Go.Proofs.YtfekpmbecoeijaaW.PrintMore Go.Proofs.Ytfekpmbecoeijaa.Q Go.Proofs.Ytfekpmbecoeijaa.RF
open Go.Proofs.Ytfekpmbecoeijaa.Pure (cat cat_size sizes_cons sizes_app)
attribute [local go_sem] Oper.semAt_some
set_option linter.unusedVariables false
set_option linter.unusedSimpArgs false
set_option maxRecDepth 100000
def txtJ (its : List S26) (j : Nat) : ByteArray := cat ⟨#[]⟩ ((its.take j).flatMap ownL)
end Go.Proofs.Ytfekpmbecoeijaa.Hand
set_option linter.unusedVariables false
namespace Go.Proofs.Ytfekpmbecoeijaa.Pure
open Go.RowKit Go.Proofs.Ytfekpmbecoeijaa.Q Go.Proofs.YtfekpmbecoeijaaW.PrintWords Go.Proofs.YtfekpmbecoeijaaW.PrintLast
open Hand (cloneB textLen lenL ownL sizes preF preL lenOf cOwn lens offF Cu downF nextUp nextF prevF lastF leafF leafGo kidAt rootC txtJ)
theorem ordK_mem (f : S26 → List (List Int)) : ∀ (ks : List S26) (i : Int) (j : Nat) (p : List Int) (h : j < ks.length), p ∈ f ks[j] → ((i + (j : Int)) :: p) ∈ ordK f ks i
  | k :: ks, i, 0, p, h, hp => by
    simp only [ordK]
    refine List.mem_append_left _ (List.mem_map.2 ⟨p, hp, ?_⟩)
    simp
  | k :: ks, i, j + 1, p, h, hp => by
    simp only [ordK]
    refine List.mem_append_right _ ?_
    have := ordK_mem f ks (i + 1) j p (by simpa using h) hp
    rwa [show i + 1 + (j : Int) = i + ((j + 1 : Nat) : Int) from by omega] at this
theorem ord_mem : ∀ (p : List Int) (d : Nat) (n y : S26), small d n = true → getP n p = some y → p ∈ ord d n
  | [], d, n, y, h, hg => by
    obtain ⟨l, hl⟩ := ord_head h
    rw [hl]
    exact List.mem_cons_self
  | i :: p, 0, n, y, h, hg => by simp [small] at h
  | i :: p, d + 1, n, y, h, hg => by
    unfold getP at hg
    split at hg
    · rename_i hi
      have hl : i.toNat < n.f6.length := by omega
      have hr : rd_T26 n.f6 i = n.f6[i.toNat] := by simp [rd_T26, hl]
      have ih := ord_mem p d _ y (small_rd h hi.1 hi.2) hg
      rw [hr] at ih
      simp only [ord]
      have := ordK_mem (ord d) n.f6 0 i.toNat p hl ih
      rw [show (0 : Int) + (i.toNat : Int) = i from by omega] at this
      exact List.mem_cons_of_mem _ this
    · cases hg
theorem ord_split {n y : S26} {p : List Int} (h : OkT n) (hg : getP n p = some y) : ∃ A B, ord 100 n = A ++ p :: B := List.append_of_mem (ord_mem p 100 n y h.sm hg)
theorem offE_snoc {d : Nat} {h : Int} {n y : S26} {p : List Int} {i : Int} (hg : getP n p = some y) (hp : p.length + 1 < d) :
    offE d h n (p ++ [i]) = offE d h n p + textLen y + (((y.f6.take i.toNat).map (tot (d - p.length - 1))).sum : Nat) := by
  have h1 := now_offs (p ++ [i]) d h n (by simpa using hp)
  rw [offsP_snoc p d h n y i hg hp] at h1
  have h2 := offsP_len p d h n (by omega)
  rw [← h1]
  unfold rd
  rw [List.length_append, List.length_singleton, Int.toNat_natCast, List.getD_eq_getElem?_getD, List.getElem?_append_right (by omega), h2, Nat.sub_self]
  rfl
theorem kidAt_some {e : Nat} (he : e ≤ 100) (at_ : Int) : ∀ (l : List S26) (h : Int), (∀ y ∈ l, small e y = true) → h ≤ at_ → at_ < h + ((l.map (tot e)).sum : Nat) → 0 ≤ h → h + ((l.map (tot e)).sum : Nat) < 4611686018427387904 →
    ∃ i, kidAt 100 at_ l h = some i ∧ ∃ (hi : i < l.length), h + (((l.take i).map (tot e)).sum : Nat) ≤ at_ ∧ at_ < h + (((l.take i).map (tot e)).sum : Nat) + tot e l[i]
  | [], h, _, h1, h2, _, _ => by simp at h2; omega
  | k :: l, h, hs, h1, h2, h3, h4 => by
    simp only [List.map_cons, List.sum_cons] at h2 h4
    have hk := hs k List.mem_cons_self
    obtain ⟨g1, g2⟩ := small_up hk he
    have hl : lenOf 100 k = some (tot e k : Int) := by rw [lenOf_tot g1 (by omega), g2]
    unfold kidAt
    rw [hl, Option.bind_some, if_pos (by omega)]
    by_cases hlt : at_ < h + (tot e k : Int)
    · rw [if_pos hlt]
      exact ⟨0, rfl, by simp, by simpa using h1, by simpa using hlt⟩
    · rw [if_neg hlt]
      obtain ⟨i, e1, hi, e2, e3⟩ := kidAt_some he at_ l (h + (tot e k : Int)) (fun y hy => hs y (List.mem_cons_of_mem _ hy)) (by omega) (by omega) (by omega) (by omega)
      refine ⟨i + 1, by rw [e1]; rfl, by simpa using hi, ?_, ?_⟩
      · rw [List.take_succ_cons, List.map_cons, List.sum_cons]; omega
      · rw [List.take_succ_cons, List.map_cons, List.sum_cons, List.getElem_cons_succ]; omega
theorem leafGo_cur {n : S26} (hO : OkT n) (at_ : Int) : ∀ (e : Nat) (q : List Int) (y : S26) (s : Nat), e = 100 - q.length → small e y = true → getP n q = some y → e ≤ s → offE 100 0 n q ≤ at_ → at_ < offE 100 0 n q + tot e y →
    ∃ q' y', getP n q' = some y' ∧ leafGo 100 at_ s (curP 100 n q) = some (curP 100 n q') ∧ offE 100 0 n q' ≤ at_ ∧ at_ < offE 100 0 n q' + textLen y'
  | 0, q, y, s, _, he, hg, _, _, _ => by simp [small] at he
  | e + 1, q, y, 0, _, he, hg, hs, _, _ => by omega
  | e + 1, q, y, s + 1, heq, he, hg, hs, h1, h2 => by
    obtain ⟨g4, g6, gk⟩ := small_succ.1 he
    obtain ⟨hq, hsy⟩ := getP_small q 100 n y hO.sm hg
    obtain ⟨o1, o2⟩ := offE_le q 100 0 n y hO.sm hg
    have htt := hO.tt
    have hy : tot (e + 1) y = textLen y + (y.f6.map (tot e)).sum := rfl
    rw [← heq] at o2
    unfold leafGo
    rw [now_cur hg, at_cur hO.sm hg, if_pos ⟨ok_cur hO.sm (by omega) hg, by omega, o1⟩, cOwn_len g4 (by omega), Option.bind_some, if_pos (by omega)]
    by_cases hlt : at_ < offE 100 0 n q + (textLen y : Int)
    · rw [if_pos hlt]
      exact ⟨q, y, hg, rfl, h1, hlt⟩
    · rw [if_neg hlt]
      obtain ⟨i, e1, hi, e2, e3⟩ := kidAt_some (e := e) (by omega) at_ y.f6 (offE 100 0 n q + (textLen y : Int)) gk (by omega) (by omega) (by omega) (by omega)
      rw [e1, Option.bind_some, down_yes hO.sm (by omega) hO.tt hg (i : Int) ⟨by omega, by omega⟩, Option.bind_some]
      have hr : rd_T26 y.f6 (i : Int) = y.f6[i] := rd26 (List.getElem?_eq_getElem hi)
      have hg2 : getP n (q ++ [(i : Int)]) = some y.f6[i] := by rw [getP_snoc q n y _ hg, if_pos ⟨by omega, by omega⟩, hr]
      have hq2 := (getP_small (q ++ [(i : Int)]) 100 n _ hO.sm hg2).1
      have hoff := offE_snoc (d := 100) (h := 0) (i := (i : Int)) hg (by simpa using hq2)
      rw [show 100 - q.length - 1 = e from by omega, Int.toNat_natCast] at hoff
      exact leafGo_cur hO at_ e (q ++ [(i : Int)]) _ s (by simp; omega) (gk _ (List.getElem_mem hi)) hg2 (by omega) (by omega) (by omega)
theorem root_cur (n : S26) (p : List Int) : rootC (curP 100 n p) = curP 100 n [] := by
  unfold rootC curP
  cases p with
  | nil => rfl
  | cons i p => rfl
theorem rd_root (n : S26) (p : List Int) : rd_T26 (curP 100 n p).ns 0 = n := by
  unfold curP
  cases p <;> rfl
theorem leaf_no {n y : S26} {p : List Int} (hO : OkT n) (hg : getP n p = some y) {at_ : Int} (h : at_ < 0 ∨ (tot 100 n : Int) ≤ at_) : leafF 100 100 (curP 100 n p) at_ = some (false, curP 100 n p) := by
  unfold leafF
  by_cases h0 : at_ < 0
  · rw [if_pos h0]
  · rw [if_neg h0, if_pos (ok_cur hO.sm (by omega) hg), rd_root, len_ok hO, Option.bind_some, if_pos (by omega)]
theorem leaf_yes {n y : S26} {p : List Int} (hO : OkT n) (hg : getP n p = some y) {at_ : Int} (h0 : 0 ≤ at_) (h1 : at_ < (tot 100 n : Int)) :
    ∃ A q B y', ord 100 n = A ++ q :: B ∧ PlaceT n A q B y' ∧ leafF 100 100 (curP 100 n p) at_ = some (true, curP 100 n q) ∧ (lenL ((pre 100 n).take A.length) : Int) ≤ at_ ∧ at_ < (lenL ((pre 100 n).take A.length) : Int) + textLen y' := by
  obtain ⟨q, y', e1, e2, e3, e4⟩ := leafGo_cur hO at_ 100 [] n 100 rfl hO.sm rfl (Nat.le_refl _) (by simpa [offE] using h0) (by simpa [offE] using h1)
  obtain ⟨A, B, hs⟩ := ord_split hO e1
  obtain ⟨y2, hP⟩ := place hO hs
  obtain rfl : y' = y2 := by have := hP.get; rw [e1] at this; exact Option.some.inj this
  have ho := hP.at_
  rw [at_cur hO.sm e1] at ho
  refine ⟨A, q, B, y', hs, hP, ?_, by omega, by omega⟩
  unfold leafF
  rw [if_neg (by omega), if_pos (ok_cur hO.sm (by omega) hg), rd_root, len_ok hO, Option.bind_some, if_neg (by omega), root_cur, e2]
  rfl
end Go.Proofs.Ytfekpmbecoeijaa.Pure
namespace Go.Proofs.Ytfekpmbecoeijaa.Hand
open Go.RowKit Go.Proofs.YtfekpmbecoeijaaW.PrintWords Go.Proofs.YtfekpmbecoeijaaW.PrintLast Go.Proofs.YtfekpmbecoeijaaW.PrintMore Go.Proofs.Ytfekpmbecoeijaa.Q Go.Proofs.Ytfekpmbecoeijaa.RF Go.Proofs.Ytfekpmbecoeijaa.Pure
set_option linter.unusedVariables false
set_option linter.unusedSimpArgs false
set_option maxRecDepth 100000
section
variable {B g : Nat} {w0 w w' : World} {c c' : Cu}
theorem Cur.atB (h : Cur B g w0 c w) (hk : c.ok) : Calls Try.prog 14 #[.pointer (some ⟨g, 0, none⟩)] w fun e w' => e = .returned (.int .i64 c.at_) ∧ Below w.heap.size w w' := by
  obtain ⟨v1, v2, v3, h1, h2, h3⟩ := h
  exact at_calls h1 c.ps.length hk.2.1 (by have := hk.2.2; omega)
theorem Cur.pathB (h : Cur B g w0 c w) (hk : c.ok) : Calls Try.prog 13 #[.pointer (some ⟨g, 0, none⟩)] w fun e w' => ∃ A cp, e = .returned (.slice A c.ps.length cp) ∧ c.ps.length ≤ cp ∧ Kd.C (Kd.int .i64) w' A c.ps.length c.ps ∧ Below w.heap.size w w' := by
  obtain ⟨v1, v2, v3, h1, h2, h3⟩ := h
  refine (path_calls h1 (by have := hk.2.2; omega)).mono ?_
  rintro e w' ⟨v, rfl, hR, hb⟩
  obtain ⟨A, cp, rfl⟩ := Kd.R_slice hR
  exact ⟨A, cp, rfl, (Kd.R_reads' hR).2.1, (Kd.R_reads' hR).2.2, hb⟩
theorem Cur.nodeB (h : Cur B g w0 c w) (hk : c.ok) (fu : Nat) {y : S26} (hy : c.now = y) (hcl : cloneB fu y = true) : Calls Try.prog 17 #[.pointer (some ⟨g, 0, none⟩)] w fun e w' => ∃ A4 c4 A6 c6, e = .returned (nodeV y A4 c4 A6 c6) ∧ y.f4.length ≤ c4 ∧ Kd.C k76 w' A4 y.f4.length y.f4 ∧ y.f6.length ≤ c6 ∧ Kd.C k26 w' A6 y.f6.length y.f6 ∧ Below w.heap.size w w' := by
  subst hy
  obtain ⟨v1, v2, v3, h1, h2, h3⟩ := h
  refine (node_calls h1 fu c.ps.length hk.1 (by have := hk.2.2; omega) hcl).mono ?_
  rintro e w' ⟨v4, v6, rfl, r4, r6, hb⟩
  obtain ⟨A4, c4, rfl⟩ := Kd.R_slice r4
  obtain ⟨A6, c6, rfl⟩ := Kd.R_slice r6
  exact ⟨A4, c4, A6, c6, rfl, (Kd.R_reads' r4).2.1, (Kd.R_reads' r4).2.2, (Kd.R_reads' r6).2.1, (Kd.R_reads' r6).2.2, hb⟩
theorem Cur.bel (h : Cur B g w0 c w) : Below B w0 w := by
  obtain ⟨_, _, _, _, h, _⟩ := h
  exact h
end
theorem new_cur {n : S26} (hO : OkT n) (w : World) {A4 : Option Addr} {c4 : Nat} {A6 : Option Addr} {c6 : Nat} (l4 : n.f4.length ≤ c4) (g4 : Kd.C k76 w A4 n.f4.length n.f4) (l6 : n.f6.length ≤ c6) (g6 : Kd.C k26 w A6 n.f6.length n.f6) :
    Calls Try.prog 9 #[nodeV n A4 c4 A6 c6] w fun e w' => ∃ g, e = .returned (.pointer (some ⟨g, 0, none⟩)) ∧ Cur w.heap.size g w (curP 100 n []) w' := by
  refine (new_calls 100 n A4 c4 A6 c6 w (small_clone _ _ hO.sm) g4 l4 g6 l6).mono ?_
  rintro e w' ⟨g, v1, v2, v3, rfl, hC, hb⟩
  exact ⟨g, rfl, v1, v2, v3, hC, hb, hb.size⟩
theorem same_calls {y : S26} (hs : ∃ d, small d y = true) {w : World} {A4 : Option Addr} {c4 : Nat} {A6 : Option Addr} {c6 : Nat} (l4 : y.f4.length ≤ c4) (g4 : Kd.C k76 w A4 y.f4.length y.f4) (l6 : y.f6.length ≤ c6) (g6 : Kd.C k26 w A6 y.f6.length y.f6)
    {B4 : Option Addr} {d4 : Nat} {B6 : Option Addr} {d6 : Nat} (m4 : y.f4.length ≤ d4) (h4 : Kd.C k76 w B4 y.f4.length y.f4) (m6 : y.f6.length ≤ d6) (h6 : Kd.C k26 w B6 y.f6.length y.f6) :
    Calls Try.prog 16 #[nodeV y A4 c4 A6 c6, nodeV y B4 d4 B6 d6] w fun e w' => e = .returned (.bool true) ∧ Below w.heap.size w w' := by
  obtain ⟨d, hd⟩ := hs
  obtain ⟨k, hk⟩ := (same_ev d y hd).rounds
  exact arboristref42_Same.calls k y.f0 y.f1 y.f2 y.f3 A4 c4 y.f4 y.f5 A6 c6 y.f6 y.f0 y.f1 y.f2 y.f3 B4 d4 y.f4 y.f5 B6 d6 y.f6 true w g4 l4 g6 l6 h4 m4 h6 m6 hk
theorem refOwn_calls {y : S26} (h4 : y.f4.length < 300) (ht : textLen y < 4611686018427387904) {w : World} {A4 : Option Addr} {c4 : Nat} {A6 : Option Addr} {c6 : Nat} (l4 : y.f4.length ≤ c4) (g4 : Kd.C k76 w A4 y.f4.length y.f4) (l6 : y.f6.length ≤ c6) (g6 : Kd.C k26 w A6 y.f6.length y.f6) :
    Calls Try.prog 27 #[nodeV y A4 c4 A6 c6] w fun e w' => e = .returned (.string (ownT y)) ∧ Below w.heap.size w w' := by
  obtain ⟨k, hk⟩ := (ownE y h4 (by omega)).rounds
  exact arboristref42_Own.calls k y.f0 y.f1 y.f2 y.f3 A4 c4 y.f4 y.f5 A6 c6 y.f6 (ownT y) w g4 l4 g6 l6 hk
structure NodeB (n : S26) (A4 : Option Addr) (c4 : Nat) (A6 : Option Addr) (c6 : Nat) (b : Nat) (w : World) : Prop where
  hb : w.heap[b]? = some (.cells #[.int .i64 n.f0, .int .i64 n.f1, .int .i64 n.f2, .int .i64 n.f3, .slice A4 n.f4.length c4, .string n.f5, .slice A6 n.f6.length c6] 26 (0, 0))
  l4 : n.f4.length ≤ c4
  g4 : Kd.C k76 w A4 n.f4.length n.f4
  l6 : n.f6.length ≤ c6
  g6 : Kd.C k26 w A6 n.f6.length n.f6
section
variable {n : S26} {A4 : Option Addr} {c4 : Nat} {A6 : Option Addr} {c6 b : Nat} {w w' : World}
theorem NodeB.below (h : NodeB n A4 c4 A6 c6 b w) (hb : Below w.heap.size w w') : NodeB n A4 c4 A6 c6 b w' := ⟨blk_below h.hb hb, h.l4, Kd.C_below h.g4 hb, h.l6, Kd.C_below h.g6 hb⟩
theorem NodeB.cells (h : NodeB n A4 c4 A6 c6 b w) : w.cell? ⟨b, 0, none⟩ = some (.int .i64 n.f0) ∧ w.cell? ⟨b, 1, none⟩ = some (.int .i64 n.f1) ∧ w.cell? ⟨b, 2, none⟩ = some (.int .i64 n.f2) ∧ w.cell? ⟨b, 3, none⟩ = some (.int .i64 n.f3) ∧ w.cell? ⟨b, 4, none⟩ = some (.slice A4 n.f4.length c4) ∧ w.cell? ⟨b, 5, none⟩ = some (.string n.f5) ∧ w.cell? ⟨b, 6, none⟩ = some (.slice A6 n.f6.length c6) :=
  ⟨(blk_cell h.hb 0).trans rfl, (blk_cell h.hb 1).trans rfl, (blk_cell h.hb 2).trans rfl, (blk_cell h.hb 3).trans rfl, (blk_cell h.hb 4).trans rfl, (blk_cell h.hb 5).trans rfl, (blk_cell h.hb 6).trans rfl⟩
end
end Go.Proofs.Ytfekpmbecoeijaa.Hand
namespace Go.Proofs.Ytfekpmbecoeijaa.Hand
open Go.RowKit Go.Proofs.YtfekpmbecoeijaaW.PrintWords Go.Proofs.YtfekpmbecoeijaaW.PrintLast Go.Proofs.YtfekpmbecoeijaaW.PrintMore Go.Proofs.Ytfekpmbecoeijaa.Q Go.Proofs.Ytfekpmbecoeijaa.RF Go.Proofs.Ytfekpmbecoeijaa.Pure
set_option linter.unusedVariables false
set_option linter.unusedSimpArgs false
set_option maxRecDepth 100000
structure Pth where
  A : Option Addr
  cp : Nat
  p : List Int
abbrev Pth.v (r : Pth) : Value := .slice r.A r.p.length r.cp
def Held (B g : Nat) (w0 : World) (rs : List Pth) (c : Cu) (w : World) : Prop :=
  ∃ v1 v2 v3, CurW B g v1 v2 v3 c w ∧ Below B w0 w ∧ B ≤ w.heap.size ∧ ∀ r ∈ rs, r.p.length ≤ r.cp ∧ Kd.F (Kd.int .i64) w (fun k => ¬ Mine g v1 v2 v3 k) r.A r.p.length r.p
section
variable {B g : Nat} {w0 w w' : World} {c c' : Cu} {rs rs' : List Pth}
theorem Held.cur (h : Held B g w0 rs c w) : Cur B g w0 c w := by
  obtain ⟨v1, v2, v3, h1, h2, h3, _⟩ := h
  exact ⟨v1, v2, v3, h1, h2, h3⟩
theorem Held.only (h : Held B g w0 rs c w) (hs : ∀ r ∈ rs', r ∈ rs) : Held B g w0 rs' c w := by
  obtain ⟨v1, v2, v3, h1, h2, h3, h4⟩ := h
  exact ⟨v1, v2, v3, h1, h2, h3, fun r hr => h4 r (hs r hr)⟩
theorem Held.below (h : Held B g w0 rs c w) (hb : Below w.heap.size w w') : Held B g w0 rs c w' := by
  obtain ⟨v1, v2, v3, h1, h2, h3, h4⟩ := h
  exact ⟨v1, v2, v3, h1.below hb, h2.trans (hb.mono h3), Nat.le_trans h3 hb.size, fun r hr => ⟨(h4 r hr).1, Kd.F_below (h4 r hr).2 hb⟩⟩
theorem Held.moved {v1 v2 v3 : Value} (h1 : CurW B g v1 v2 v3 c w) (h2 : Below B w0 w) (h3 : B ≤ w.heap.size) (h4 : ∀ r ∈ rs, r.p.length ≤ r.cp ∧ Kd.F (Kd.int .i64) w (fun k => ¬ Mine g v1 v2 v3 k) r.A r.p.length r.p) (h : Moved B g v1 v2 v3 w c' w') : Held B g w0 rs c' w' := by
  obtain ⟨u1, u2, u3, hG, hC, hm⟩ := h
  refine ⟨u1, u2, u3, hC, hG.below_then h2 h3 (fun k hk hm => by have := (Mine.ge h1 hm).1; omega), Nat.le_trans h3 hG.size, fun r hr => ⟨(h4 r hr).1, ?_⟩⟩
  refine Kd.F_mono (Kd.F_step (Kd.F_bound (h4 r hr).2) (fun k hk hlt => hG.block k hlt hk.1)) (fun k hk hmk => ?_)
  rcases hm k hmk with h | h
  · exact hk.1 h
  · have := hk.2; omega
theorem Held.up (h : Held B g w0 rs c w) (hk : c.ok) (m : Nat) (hm : c.ps.length = m + 1) (hc : c.up = c') :
    Calls Try.prog 22 #[.pointer (some ⟨g, 0, none⟩)] w fun e w' => e = .returned (.bool true) ∧ Held B g w0 rs c' w' := by
  subst hc
  obtain ⟨v1, v2, v3, h1, h2, h3, h4⟩ := h
  refine (Up_calls h1 hk m hm).mono ?_
  rintro e w' ⟨rfl, hm⟩
  exact ⟨rfl, .moved h1 h2 h3 h4 hm⟩
theorem Held.at_ (h : Held B g w0 rs c w) (hk : c.ok) {a : Int} (ha : c.at_ = a) : Calls Try.prog 14 #[.pointer (some ⟨g, 0, none⟩)] w fun e w' => e = .returned (.int .i64 a) ∧ Held B g w0 rs c w' := by
  subst ha
  refine (h.cur.atB hk).mono ?_
  rintro e w' ⟨rfl, hb⟩
  exact ⟨rfl, h.below hb⟩
theorem same_path (p : List Int) (hp : p.length < 1000000) : Ev (fun k => arboristref45_Same.f k p p) true := by
  have key : ∀ (q i : Nat), i + q = p.length → Ev (fun k => arboristref45_Same.l0 k p p (i : Int)) true := by
    intro q
    induction q with
    | zero =>
      intro i hi
      exact Ev.step (f := fun _ => some true) (fun k => by simp only [arboristref45_Same.l0]; rw [if_neg (by omega)]) (Ev.now _)
    | succ q ih =>
      intro i hi
      refine Ev.step (fun k => ?_) (ih (i + 1) (by omega))
      simp only [arboristref45_Same.l0]
      rw [if_pos (by omega), if_pos (by omega), if_pos (by omega), if_pos trivial, w64 (by omega) (by omega)]
      rfl
  unfold arboristref45_Same.f
  exact Ev.congr (fun k => if_pos rfl) (key p.length 0 (by omega))
end
end Go.Proofs.Ytfekpmbecoeijaa.Hand
