import Derived.Test.YtfekpmbecoeijaaPuA
import Derived.Test.YtfekpmbecoeijaaQf16
import Derived.Test.YtfekpmbecoeijaaQf19
import Derived.Test.YtfekpmbecoeijaaQf20
import Derived.Test.YtfekpmbecoeijaaQf8
import Derived.Test.YtfekpmbecoeijaaCt
import Derived.Test.YtfekpmbecoeijaaQf27
set_option linter.unusedVariables false
namespace Go.Proofs.Ytfekpmbecoeijaa.Pure
open Go.RowKit Go.Proofs.Ytfekpmbecoeijaa.Q Go.Proofs.YtfekpmbecoeijaaW.PrintWords Go.Proofs.YtfekpmbecoeijaaW.PrintLast
open Hand (cloneB)
theorem knows_ev : Ev (fun k => arboristlaw45_knows.f k) true := ⟨10, fun _ hk => if_pos hk⟩
theorem eta26 (y : S26) : (⟨y.f0, y.f1, y.f2, y.f3, y.f4, y.f5, y.f6⟩ : S26) = y := by cases y; rfl
theorem pieces_ev (l : List S76) (hl : l.length < 300) : Ev (fun k => arboristref42_SamePieces.f k l l) true := by
  have key : ∀ (q i : Nat), i + q = l.length → Ev (fun k => arboristref42_SamePieces.l0 k l l (i : Int)) true := by
    intro q
    induction q with
    | zero =>
      intro i hi
      exact Ev.step (f := fun _ => some true) (fun k => by simp only [arboristref42_SamePieces.l0]; rw [if_neg (by omega)]) (Ev.now _)
    | succ q ih =>
      intro i hi
      refine Ev.step (fun k => ?_) (ih (i + 1) (by omega))
      simp only [arboristref42_SamePieces.l0]
      rw [if_pos (by omega), if_pos (by omega), if_pos (by omega), if_neg (by simp), w64 (by omega) (by omega)]
      rfl
  unfold arboristref42_SamePieces.f
  exact Ev.congr (fun k => if_pos rfl) (key l.length 0 (by omega))
abbrev SF (k : Nat) (a b : S26) : Option Bool := arboristref42_Same.f k a.f0 a.f1 a.f2 a.f3 a.f4 a.f5 a.f6 b.f0 b.f1 b.f2 b.f3 b.f4 b.f5 b.f6
theorem rd26 {l : List S26} {i : Nat} {y : S26} (h : l[i]? = some y) : rd_T26 l (i : Int) = y := by
  unfold rd_T26
  rw [Int.toNat_natCast, List.getD_eq_getElem?_getD, h]
  rfl
theorem same_ev : ∀ (d : Nat) (n : S26), small d n = true → Ev (fun k => SF k n n) true
  | 0, n, h => by simp [small] at h
  | d + 1, n, h => by
    obtain ⟨h1, h2, h3⟩ := small_succ.1 h
    have key : ∀ (q i : Nat), i + q = n.f6.length → Ev (fun k => arboristref42_Same.l0 k (i : Int) n.f0 n.f1 n.f2 n.f3 n.f4 n.f5 n.f6 n.f0 n.f1 n.f2 n.f3 n.f4 n.f5 n.f6) true := by
      intro q
      induction q with
      | zero =>
        intro i hi
        exact Ev.step (f := fun _ => some true) (fun k => by simp only [arboristref42_Same.l0]; rw [if_neg (by omega)]) (Ev.now _)
      | succ q ih =>
        intro i hi
        have hi' : i < n.f6.length := by omega
        have hr : rd_T26 n.f6 (i : Int) = n.f6[i] := rd26 (List.getElem?_eq_getElem hi')
        have := same_ev d (n.f6[i]) (h3 _ (List.getElem_mem hi'))
        refine Ev.step (fun k => ?_) (Ev.bind (f := fun k t => if t = true then arboristref42_Same.l0 k ((i + 1 : Nat) : Int) n.f0 n.f1 n.f2 n.f3 n.f4 n.f5 n.f6 n.f0 n.f1 n.f2 n.f3 n.f4 n.f5 n.f6 else some false) this (Ev.congr (fun k => if_pos rfl) (ih (i + 1) (by omega))))
        simp only [arboristref42_Same.l0]
        rw [if_pos (by omega), if_pos (by omega), if_pos (by omega), w64 (by omega) (by omega), hr]
        rfl
    refine Ev.step (fun k => ?_) (Ev.bind (f := fun k t => if t = true then arboristref42_Same.j0 k ((n.f6.length : Int) != (n.f6.length : Int)) n.f0 n.f1 n.f2 n.f3 n.f4 n.f5 n.f6 n.f0 n.f1 n.f2 n.f3 n.f4 n.f5 n.f6 else arboristref42_Same.j0 k true n.f0 n.f1 n.f2 n.f3 n.f4 n.f5 n.f6 n.f0 n.f1 n.f2 n.f3 n.f4 n.f5 n.f6) (pieces_ev n.f4 h1) (Ev.congr (fun k => if_pos rfl) (Ev.step (fun k => ?_) (key n.f6.length 0 (by omega)))))
    · simp only [SF, arboristref42_Same.f, if_true]
    · simp only [arboristref42_Same.j0]
      rw [if_neg (by simp)]
      rfl
def getP : S26 → List Int → Option S26
  | n, [] => some n
  | n, i :: p => if 0 ≤ i ∧ i < (n.f6.length : Int) then getP (rd_T26 n.f6 i) p else none
def tup (y : S26) (b : Bool) : Int × Int × Int × Int × (List (S76)) × ByteArray × (List (S26)) × Bool := (y.f0, y.f1, y.f2, y.f3, y.f4, y.f5, y.f6, b)
def found : Option S26 → Int × Int × Int × Int × (List (S76)) × ByteArray × (List (S26)) × Bool
  | some y => tup y true
  | none => tup z26 false
theorem small_rd {d : Nat} {n : S26} {i : Int} (h : small (d + 1) n = true) (h0 : 0 ≤ i) (h1 : i < (n.f6.length : Int)) : small d (rd_T26 n.f6 i) = true := by
  have hl : i.toNat < n.f6.length := by omega
  have : rd_T26 n.f6 i = n.f6[i.toNat] := by simp [rd_T26, hl]
  rw [this]
  exact (small_succ.1 h).2.2 _ (List.getElem_mem hl)
theorem ref_get_ev (p : List Int) (hp : p.length ≤ 100) : ∀ (q i : Nat) (n : S26), i + q = p.length → Ev (fun k => arboristref45_Get.l0 k p (i : Int) n.f0 n.f1 n.f2 n.f3 n.f4 n.f5 n.f6) (found (getP n (p.drop i))) := by
  intro q
  induction q with
  | zero =>
    intro i n hi
    rw [List.drop_of_length_le (by omega)]
    refine Ev.step (f := fun _ => some (found (getP n []))) (fun k => ?_) (Ev.now _)
    simp only [arboristref45_Get.l0]
    rw [if_neg (by omega)]
    rfl
  | succ q ih =>
    intro i n hi
    have hi' : i < p.length := by omega
    have hr : rd p (i : Int) = p[i] := by simp [rd, hi']
    rw [List.drop_eq_getElem_cons hi']
    unfold getP
    by_cases h0 : p[i] < 0
    · rw [if_neg (by omega)]
      refine Ev.step (f := fun _ => some (found none)) (fun k => ?_) (Ev.now _)
      simp only [arboristref45_Get.l0]
      rw [if_pos (by omega), if_pos (by omega), hr, if_pos h0]
      rfl
    by_cases h1 : p[i] ≥ (n.f6.length : Int)
    · rw [if_neg (by omega)]
      refine Ev.step (f := fun _ => some (found none)) (fun k => ?_) (Ev.now _)
      simp only [arboristref45_Get.l0]
      rw [if_pos (by omega), if_pos (by omega), hr, if_neg h0, if_pos h1]
      rfl
    · rw [if_pos (by omega)]
      refine Ev.step (fun k => ?_) (ih (i + 1) (rd_T26 n.f6 p[i]) (by omega))
      simp only [arboristref45_Get.l0]
      rw [if_pos (by omega), if_pos (by omega), hr, if_neg h0, if_neg h1, if_pos (by omega), if_pos (by omega), w64 (by omega) (by omega)]
      rfl
end Go.Proofs.Ytfekpmbecoeijaa.Pure
set_option linter.unusedVariables false
namespace Go.Proofs.Ytfekpmbecoeijaa.Pure
open Go.RowKit Go.Proofs.Ytfekpmbecoeijaa.Q Go.Proofs.YtfekpmbecoeijaaW.PrintWords Go.Proofs.YtfekpmbecoeijaaW.PrintLast
def ordK (f : S26 → List (List Int)) : List S26 → Int → List (List Int)
  | [], _ => []
  | k :: ks, i => (f k).map (i :: ·) ++ ordK f ks (i + 1)
def ord : Nat → S26 → List (List Int)
  | 0, _ => []
  | d + 1, n => [] :: ordK (ord d) n.f6 0
def nextT : S26 → List Int → Option (List Int)
  | n, [] => if n.f6.length = 0 then none else some [0]
  | n, i :: p => match nextT (rd_T26 n.f6 i) p with
    | some q => some (i :: q)
    | none => if i + 1 < (n.f6.length : Int) then some [i + 1] else none
theorem ord_head {d : Nat} {n : S26} (h : small d n = true) : ∃ l, ord d n = [] :: l := by
  cases d with
  | zero => simp [small] at h
  | succ d => exact ⟨_, rfl⟩
theorem ordK_split (f : S26 → List (List Int)) : ∀ (ks : List S26) (i : Int) (A : List (List Int)) (p : List Int) (B : List (List Int)), ordK f ks i = A ++ p :: B →
    ∃ ks1 k ks2 A1 p' B1, ks = ks1 ++ k :: ks2 ∧ p = (i + (ks1.length : Int)) :: p' ∧ f k = A1 ++ p' :: B1 ∧ A = ordK f ks1 i ++ A1.map ((i + (ks1.length : Int)) :: ·) ∧ B = B1.map ((i + (ks1.length : Int)) :: ·) ++ ordK f ks2 (i + (ks1.length : Int) + 1)
  | [], i, A, p, B, h => by simp [ordK] at h
  | k :: ks, i, A, p, B, h => by
    simp only [ordK] at h
    rcases List.append_eq_append_iff.1 h with ⟨C, h1, h2⟩ | ⟨C, h1, h2⟩
    · obtain ⟨ks1, k', ks2, A1, p', B1, e1, e2, e3, e4, e5⟩ := ordK_split f ks (i + 1) C p B h2
      refine ⟨k :: ks1, k', ks2, A1, p', B1, by rw [e1]; rfl, ?_, e3, ?_, ?_⟩
      · rw [e2, List.length_cons]; congr 1; omega
      · rw [h1, e4]
        simp only [ordK, List.length_cons, List.append_assoc]
        rw [show i + ((ks1.length + 1 : Nat) : Int) = i + 1 + (ks1.length : Int) from by omega]
      · rw [e5, List.length_cons, show i + ((ks1.length + 1 : Nat) : Int) = i + 1 + (ks1.length : Int) from by omega]
    · cases C with
      | nil =>
        obtain ⟨ks1, k', ks2, A1, p', B1, e1, e2, e3, e4, e5⟩ := ordK_split f ks (i + 1) [] p B h2.symm
        refine ⟨k :: ks1, k', ks2, A1, p', B1, by rw [e1]; rfl, ?_, e3, ?_, ?_⟩
        · rw [e2, List.length_cons]; congr 1; omega
        · rw [List.append_nil] at h1
          rw [← h1]
          simp only [ordK, List.length_cons, List.append_assoc]
          rw [show i + ((ks1.length + 1 : Nat) : Int) = i + 1 + (ks1.length : Int) from by omega, ← e4, List.append_nil]
        · rw [e5, List.length_cons, show i + ((ks1.length + 1 : Nat) : Int) = i + 1 + (ks1.length : Int) from by omega]
      | cons c C =>
        rw [List.cons_append] at h2
        obtain ⟨rfl, h3⟩ := List.cons.inj h2
        obtain ⟨A1, R, e1, e2, e3⟩ := List.map_eq_append_iff.1 h1
        obtain ⟨p', B1, e4, e5, e6⟩ := List.map_eq_cons_iff.1 e3
        refine ⟨[], k, ks, A1, p', B1, rfl, by simpa using e5.symm, by rw [e1, e4], by simp [ordK, e2], ?_⟩
        rw [h3, ← e6]
        simp
theorem rd_mid {ks1 ks2 : List S26} {k : S26} : rd_T26 (ks1 ++ k :: ks2) ((0 : Int) + (ks1.length : Int)) = k := by
  simp [rd_T26]
theorem next_ord : ∀ (d : Nat) (n : S26), small d n = true → ∀ (A : List (List Int)) (p : List Int) (B : List (List Int)), ord d n = A ++ p :: B → nextT n p = B.head?
  | 0, n, h, A, p, B, he => by simp [small] at h
  | d + 1, n, h, A, p, B, he => by
    obtain ⟨_, _, hk⟩ := small_succ.1 h
    simp only [ord] at he
    cases A with
    | nil =>
      obtain ⟨rfl, rfl⟩ := List.cons.inj he
      simp only [nextT]
      cases hks : n.f6 with
      | nil => simp [ordK]
      | cons k ks =>
        obtain ⟨l, hl⟩ := ord_head (hk k (by rw [hks]; exact List.mem_cons_self))
        simp [ordK, hl]
    | cons a A =>
      obtain ⟨ha, he2⟩ := List.cons.inj he
      subst ha
      obtain ⟨ks1, k, ks2, A1, p', B1, e1, rfl, e3, e4, rfl⟩ := ordK_split (ord d) n.f6 0 A p B he2
      have hkk := hk k (by rw [e1]; simp)
      have ih := next_ord d k hkk A1 p' B1 e3
      simp only [nextT]
      rw [e1, rd_mid, ih]
      cases B1 with
      | cons b B1 => simp
      | nil =>
        simp only [List.head?_nil, List.map_nil, List.nil_append]
        cases ks2 with
        | nil => simp [ordK]
        | cons k2 ks2 =>
          obtain ⟨l, hl⟩ := ord_head (hk k2 (by rw [e1]; simp))
          simp [ordK, hl]
          omega
def lastT : Nat → S26 → List Int
  | 0, _ => []
  | d + 1, n => if n.f6.length = 0 then [] else ((n.f6.length : Int) - 1) :: lastT d (rd_T26 n.f6 ((n.f6.length : Int) - 1))
def prevT : Nat → S26 → List Int → Option (List Int)
  | 0, _, _ => none
  | _ + 1, _, [] => none
  | d + 1, n, i :: p => match prevT d (rd_T26 n.f6 i) p with
    | some q => some (i :: q)
    | none => if i = 0 then some [] else some ((i - 1) :: lastT d (rd_T26 n.f6 (i - 1)))
theorem ordK_snoc (f : S26 → List (List Int)) (k : S26) : ∀ (ks : List S26) (i : Int), ordK f (ks ++ [k]) i = ordK f ks i ++ (f k).map ((i + (ks.length : Int)) :: ·)
  | [], i => by simp [ordK]
  | a :: ks, i => by
    simp only [List.cons_append, ordK, ordK_snoc f k ks (i + 1), List.append_assoc, List.length_cons]
    rw [show i + ((ks.length + 1 : Nat) : Int) = i + 1 + (ks.length : Int) from by omega]
theorem rd_last {ks : List S26} {k : S26} : rd_T26 (ks ++ [k]) (((ks ++ [k]).length : Int) - 1) = k := by
  rw [List.length_append]
  simp [rd_T26]
theorem last_ord : ∀ (d : Nat) (n : S26), small d n = true → (ord d n).getLast? = some (lastT d n)
  | 0, n, h => by simp [small] at h
  | d + 1, n, h => by
    obtain ⟨_, _, hk⟩ := small_succ.1 h
    simp only [ord, lastT]
    rcases List.eq_nil_or_concat n.f6 with hn | ⟨ks, k, hn⟩
    · rw [hn]; simp [ordK]
    · have hn : n.f6 = ks ++ [k] := by rw [hn, List.concat_eq_append]
      have ih := last_ord d k (hk k (by rw [hn]; simp))
      rw [hn, if_neg (by simp), ordK_snoc, rd_last, ← List.cons_append, List.getLast?_append, List.getLast?_map, ih]
      simp
theorem prev_ord : ∀ (d : Nat) (n : S26), small d n = true → ∀ (A : List (List Int)) (p : List Int) (B : List (List Int)), ord d n = A ++ p :: B → prevT d n p = A.getLast?
  | 0, n, h, A, p, B, he => by simp [small] at h
  | d + 1, n, h, A, p, B, he => by
    obtain ⟨_, _, hk⟩ := small_succ.1 h
    simp only [ord] at he
    cases A with
    | nil =>
      obtain ⟨rfl, rfl⟩ := List.cons.inj he
      simp [prevT]
    | cons a A =>
      obtain ⟨ha, he2⟩ := List.cons.inj he
      subst ha
      obtain ⟨ks1, k, ks2, A1, p', B1, e1, rfl, e3, rfl, e5⟩ := ordK_split (ord d) n.f6 0 A p B he2
      have hkk := hk k (by rw [e1]; simp)
      have ih := prev_ord d k hkk A1 p' B1 e3
      simp only [prevT]
      rw [e1, rd_mid, ih]
      rcases List.eq_nil_or_concat A1 with hA | ⟨A2, a2, hA⟩
      · subst hA
        simp only [List.getLast?_nil, List.map_nil, List.append_nil]
        rcases List.eq_nil_or_concat ks1 with hn | ⟨ks, k1, hn⟩
        · subst hn; simp [ordK]
        · have hn : ks1 = ks ++ [k1] := by rw [hn, List.concat_eq_append]
          subst hn
          have hl := last_ord d k1 (hk k1 (by rw [e1]; simp))
          have hlen : ((ks ++ [k1]).length : Int) = (ks.length : Int) + 1 := by rw [List.length_append]; simp
          rw [if_neg (by omega), ordK_snoc, ← List.cons_append, List.getLast?_append, List.getLast?_map, hl]
          rw [show (0 : Int) + ((ks ++ [k1]).length : Int) - 1 = 0 + (ks.length : Int) from by omega]
          rw [show (ks ++ [k1]) ++ k :: ks2 = ks ++ k1 :: (k :: ks2) from by simp, rd_mid]
          simp
      · have hA : A1 = A2 ++ [a2] := by rw [hA, List.concat_eq_append]
        subst hA
        simp [List.getLast?_append, List.getLast?_cons]
end Go.Proofs.Ytfekpmbecoeijaa.Pure
set_option linter.unusedVariables false
namespace Go.Proofs.Ytfekpmbecoeijaa.Pure
open Go.RowKit Go.Proofs.Ytfekpmbecoeijaa.Q Go.Proofs.YtfekpmbecoeijaaW.PrintWords Go.Proofs.YtfekpmbecoeijaaW.PrintLast
open Hand (cloneB textLen lenL ownL sizes preF preL lenOf sizeOf cOwn lens offF Cu)
def tot : Nat → S26 → Nat
  | 0, _ => 0
  | d + 1, n => textLen n + (n.f6.map (tot d)).sum
def pre : Nat → S26 → List S26
  | 0, _ => []
  | d + 1, n => n :: n.f6.flatMap (pre d)
theorem tot_mono : ∀ (d : Nat) (n : S26), small d n = true → tot (d + 1) n = tot d n
  | 0, n, h => by simp [small] at h
  | d + 1, n, h => by
    obtain ⟨_, _, hk⟩ := small_succ.1 h
    show textLen n + (n.f6.map (tot (d + 1))).sum = textLen n + (n.f6.map (tot d)).sum
    rw [List.map_congr_left (fun y hy => tot_mono d y (hk y hy))]
theorem preL_some {f : S26 → Option (List S26)} {g : S26 → List S26} : ∀ {l : List S26}, (∀ y ∈ l, f y = some (g y)) → preL f l = some (l.flatMap g)
  | [], _ => rfl
  | k :: l, h => by
    have ih := preL_some (f := f) (g := g) (l := l) fun y hy => h y (List.mem_cons_of_mem _ hy)
    unfold preL
    rw [h k List.mem_cons_self, ih]
    rfl
theorem preF_some : ∀ (d : Nat) (n : S26), small d n = true → preF d n = some (pre d n)
  | 0, n, h => by simp [small] at h
  | d + 1, n, h => by
    obtain ⟨_, h6, hk⟩ := small_succ.1 h
    unfold preF
    rw [if_pos (by omega), preL_some (g := pre d) (fun y hy => preF_some d y (hk y hy))]
    rfl
theorem lenL_append (a b : List S26) : lenL (a ++ b) = lenL a + lenL b := by
  unfold lenL
  rw [List.map_append, List.sum_append]
theorem lenL_flat {g : S26 → List S26} {t : S26 → Nat} : ∀ {l : List S26}, (∀ y ∈ l, lenL (g y) = t y) → lenL (l.flatMap g) = (l.map t).sum
  | [], _ => rfl
  | k :: l, h => by
    rw [List.flatMap_cons, lenL_append, h k List.mem_cons_self, lenL_flat (fun y hy => h y (List.mem_cons_of_mem _ hy))]
    rfl
theorem lenL_pre : ∀ (d : Nat) (n : S26), small d n = true → lenL (pre d n) = tot d n
  | 0, n, h => by simp [small] at h
  | d + 1, n, h => by
    obtain ⟨_, h6, hk⟩ := small_succ.1 h
    show lenL (n :: n.f6.flatMap (pre d)) = textLen n + (n.f6.map (tot d)).sum
    rw [show n :: n.f6.flatMap (pre d) = [n] ++ n.f6.flatMap (pre d) from rfl, lenL_append, lenL_flat (fun y hy => lenL_pre d y (hk y hy))]
    simp [lenL]
theorem pre_small : ∀ (d : Nat) (n : S26), small d n = true → ∀ m ∈ pre d n, m.f4.length < 300
  | 0, n, h, m, hm => by simp [small] at h
  | d + 1, n, h, m, hm => by
    obtain ⟨h4, h6, hk⟩ := small_succ.1 h
    rcases List.mem_cons.1 hm with rfl | hm
    · exact h4
    · obtain ⟨y, hy, hm⟩ := List.mem_flatMap.1 hm
      exact pre_small d y (hk y hy) m hm
theorem lenOf_tot {d : Nat} {n : S26} (h : small d n = true) (ht : tot d n < 9223372036854775807) : lenOf d n = some (tot d n : Int) := by
  unfold lenOf
  rw [preF_some d n h, Option.bind_some, lenL_pre d n h, if_pos ⟨fun m hm => by have := pre_small d n h m hm; omega, ht⟩]
theorem pre_len : ∀ (d : Nat) (n : S26), small d n = true → (pre d n).length = cnt d n
  | 0, n, h => by simp [small] at h
  | d + 1, n, h => by
    obtain ⟨h4, h6, hk⟩ := small_succ.1 h
    show (n :: n.f6.flatMap (pre d)).length = 1 + (n.f6.map (cnt d)).sum
    rw [List.length_cons, List.length_flatMap, List.map_congr_left (fun y hy => pre_len d y (hk y hy))]
    omega
theorem cOwn_len {n : S26} (h : n.f4.length < 300) (ht : textLen n < 9223372036854775807) : cOwn n = some (textLen n : Int) := by
  unfold cOwn
  by_cases h0 : n.f0 < 0
  · rw [if_pos h0]
    simp [textLen, ownL, h0, sizes]
  · rw [if_neg h0, if_pos ⟨by omega, ht⟩]
theorem lens_tot {d : Nat} : ∀ {l : List S26}, (∀ y ∈ l, small d y = true) → (l.map (tot d)).sum < 9223372036854775807 → lens d l = some (((l.map (tot d)).sum : Nat) : Int)
  | [], _, _ => rfl
  | k :: l, h, ht => by
    rw [List.map_cons, List.sum_cons] at ht
    unfold lens
    rw [lenOf_tot (h k List.mem_cons_self) (by omega), Option.bind_some, lens_tot (fun y hy => h y (List.mem_cons_of_mem _ hy)) (by omega), Option.bind_some, List.map_cons, List.sum_cons]
    congr 1
end Go.Proofs.Ytfekpmbecoeijaa.Pure
set_option linter.unusedVariables false
namespace Go.Proofs.Ytfekpmbecoeijaa.Pure
open Go.RowKit Go.Proofs.Ytfekpmbecoeijaa.Q Go.Proofs.YtfekpmbecoeijaaW.PrintWords Go.Proofs.YtfekpmbecoeijaaW.PrintLast
open Hand (cloneB textLen lenL ownL sizes preF preL lenOf sizeOf cOwn lens offF Cu downF nextUp nextF prevF lastF leafF)
def nodesP : S26 → List Int → List S26
  | n, [] => [n]
  | n, i :: p => n :: nodesP (rd_T26 n.f6 i) p
def offsP : Nat → Int → S26 → List Int → List Int
  | _, h, _, [] => [h]
  | 0, h, _, _ :: _ => [h]
  | d + 1, h, n, i :: p => h :: offsP d (h + textLen n + (((n.f6.take i.toNat).map (tot d)).sum : Nat)) (rd_T26 n.f6 i) p
def curP (d : Nat) (n : S26) (p : List Int) : Cu := ⟨nodesP n p, p, offsP d 0 n p⟩
theorem nodesP_len : ∀ (n : S26) (p : List Int), (nodesP n p).length = p.length + 1
  | n, [] => rfl
  | n, i :: p => by simp [nodesP, nodesP_len]
theorem getP_small : ∀ (p : List Int) (d : Nat) (n y : S26), small d n = true → getP n p = some y → p.length < d ∧ small (d - p.length) y = true
  | [], d, n, y, h, hg => by
    obtain rfl := Option.some.inj hg
    refine ⟨?_, h⟩
    cases d with
    | zero => simp [small] at h
    | succ d => simp
  | i :: p, 0, n, y, h, hg => by simp [small] at h
  | i :: p, d + 1, n, y, h, hg => by
    unfold getP at hg
    split at hg
    · rename_i hi
      obtain ⟨h1, h2⟩ := getP_small p d _ y (small_rd h hi.1 hi.2) hg
      exact ⟨by simpa using h1, by rw [List.length_cons, show d + 1 - (p.length + 1) = d - p.length from by omega]; exact h2⟩
    · cases hg
theorem offsP_len : ∀ (p : List Int) (d : Nat) (h : Int) (n : S26), p.length < d → (offsP d h n p).length = p.length + 1
  | [], d, h, n, _ => by cases d <;> rfl
  | i :: p, 0, h, n, hd => by simp at hd
  | i :: p, d + 1, h, n, hd => by
    simp only [offsP, List.length_cons]
    rw [offsP_len p d _ _ (by simpa using hd)]
theorem now_nodes : ∀ (p : List Int) (n y : S26), getP n p = some y → rd_T26 (nodesP n p) (p.length : Int) = y
  | [], n, y, hg => by
    obtain rfl := Option.some.inj hg
    simp [rd_T26, nodesP]
  | i :: p, n, y, hg => by
    unfold getP at hg
    split at hg
    · have ih := now_nodes p _ y hg
      simp only [nodesP]
      generalize rd_T26 n.f6 i = m at ih
      unfold rd_T26 at ih ⊢
      simpa using ih
    · cases hg
theorem nodesP_snoc : ∀ (p : List Int) (n y : S26) (i : Int), getP n p = some y → nodesP n (p ++ [i]) = nodesP n p ++ [rd_T26 y.f6 i]
  | [], n, y, i, hg => by
    obtain rfl := Option.some.inj hg
    rfl
  | j :: p, n, y, i, hg => by
    unfold getP at hg
    split at hg
    · simp only [List.cons_append, nodesP]
      rw [nodesP_snoc p _ y i hg]
    · cases hg
theorem getP_snoc : ∀ (p : List Int) (n y : S26) (i : Int), getP n p = some y → getP n (p ++ [i]) = if 0 ≤ i ∧ i < (y.f6.length : Int) then some (rd_T26 y.f6 i) else none
  | [], n, y, i, hg => by
    obtain rfl := Option.some.inj hg
    simp [getP]
  | j :: p, n, y, i, hg => by
    unfold getP at hg
    split at hg
    · rename_i hj
      rw [List.cons_append]
      unfold getP
      rw [if_pos hj]
      exact getP_snoc p _ y i hg
    · cases hg
def offE : Nat → Int → S26 → List Int → Int
  | _, h, _, [] => h
  | 0, h, _, _ :: _ => h
  | d + 1, h, n, i :: p => offE d (h + textLen n + (((n.f6.take i.toNat).map (tot d)).sum : Nat)) (rd_T26 n.f6 i) p
theorem now_offs : ∀ (p : List Int) (d : Nat) (h : Int) (n : S26), p.length < d → rd (offsP d h n p) (p.length : Int) = offE d h n p
  | [], d, h, n, _ => by cases d <;> simp [rd, offsP, offE]
  | i :: p, 0, h, n, hd => by simp at hd
  | i :: p, d + 1, h, n, hd => by
    have ih := now_offs p d (h + textLen n + (((n.f6.take i.toNat).map (tot d)).sum : Nat)) (rd_T26 n.f6 i) (by simpa using hd)
    simp only [offE]
    rw [← ih]
    simp [rd, offsP]
theorem offsP_snoc : ∀ (p : List Int) (d : Nat) (h : Int) (n y : S26) (i : Int), getP n p = some y → p.length + 1 < d → offsP d h n (p ++ [i]) = offsP d h n p ++ [offE d h n p + textLen y + (((y.f6.take i.toNat).map (tot (d - p.length - 1))).sum : Nat)]
  | [], 0, h, n, y, i, hg, hd => by simp at hd
  | [], d + 1, h, n, y, i, hg, hd => by
    obtain rfl := Option.some.inj hg
    cases d <;> simp [offsP, offE]
  | j :: p, 0, h, n, y, i, hg, hd => by simp at hd
  | j :: p, d + 1, h, n, y, i, hg, hd => by
    unfold getP at hg
    split at hg
    · simp only [List.cons_append, offsP, offE]
      rw [offsP_snoc p d _ _ y i hg (by simpa using hd)]
      simp
    · cases hg
end Go.Proofs.Ytfekpmbecoeijaa.Pure
set_option linter.unusedVariables false
namespace Go.Proofs.Ytfekpmbecoeijaa.Pure
open Go.RowKit Go.Proofs.Ytfekpmbecoeijaa.Q Go.Proofs.YtfekpmbecoeijaaW.PrintWords Go.Proofs.YtfekpmbecoeijaaW.PrintLast
open Hand (cloneB textLen lenL ownL sizes preF preL lenOf sizeOf cOwn lens offF Cu downF nextUp nextF prevF lastF leafF)
theorem sizes_le {l : List ByteArray} {M : Nat} (h : ∀ b ∈ l, b.size ≤ M) : sizes l ≤ l.length * M := by
  induction l with
  | nil => simp [sizes]
  | cons b l ih =>
    have h1 := h b List.mem_cons_self
    have h2 := ih fun c hc => h c (List.mem_cons_of_mem _ hc)
    unfold sizes at h2 ⊢
    rw [List.map_cons, List.sum_cons, List.length_cons, Nat.succ_mul]
    omega
theorem text_le {n : S26} (hB : Bnd n) (h : n.f4.length < 300) : textLen n ≤ 42221246505369600 := by
  unfold textLen ownL
  by_cases h0 : n.f0 < 0
  · simp [h0, sizes]
  · rw [if_neg h0]
    have := sizes_le (l := n.f4.map (·.f2) ++ [n.f5]) (M := 140737488351232) (fun b hb => by
      rcases List.mem_append.1 hb with hb | hb
      · obtain ⟨t, ht, rfl⟩ := List.mem_map.1 hb
        exact hB.lead t ht
      · rw [List.mem_singleton.1 hb]
        exact hB.text)
    rw [List.length_append, List.length_map, List.length_singleton] at this
    have h2 : (n.f4.length + 1) * 140737488351232 ≤ 300 * 140737488351232 := Nat.mul_le_mul_right _ (by omega)
    omega
theorem sum_le {l : List S26} {f g : S26 → Nat} {M : Nat} (h : ∀ y ∈ l, f y ≤ g y * M) : (l.map f).sum ≤ (l.map g).sum * M := by
  induction l with
  | nil => simp
  | cons y l ih =>
    have h1 := h y List.mem_cons_self
    have h2 := ih fun z hz => h z (List.mem_cons_of_mem _ hz)
    rw [List.map_cons, List.sum_cons, List.map_cons, List.sum_cons, Nat.add_mul]
    omega
theorem tot_le : ∀ (d : Nat) (n : S26), Bnd n → small d n = true → tot d n ≤ cnt d n * 42221246505369600
  | 0, n, _, h => by simp [small] at h
  | d + 1, n, hB, h => by
    obtain ⟨h4, _, hk⟩ := small_succ.1 h
    have h1 := text_le hB h4
    have h2 := sum_le (l := n.f6) (f := tot d) (g := cnt d) (M := 42221246505369600) (fun y hy => tot_le d y (hB.kids y hy) (hk y hy))
    show textLen n + (n.f6.map (tot d)).sum ≤ (1 + (n.f6.map (cnt d)).sum) * 42221246505369600
    rw [Nat.add_mul]
    omega
theorem sum_take {l : List S26} {f : S26 → Nat} {i : Nat} (h : i < l.length) : ((l.take i).map f).sum + f l[i] ≤ (l.map f).sum := by
  have e : l = l.take i ++ l[i] :: l.drop (i + 1) := by
    conv => lhs; rw [← List.take_append_drop i l, List.drop_eq_getElem_cons h]
  have : (l.map f).sum = ((l.take i).map f).sum + (f l[i] + ((l.drop (i + 1)).map f).sum) := by
    conv => lhs; rw [e]
    rw [List.map_append, List.sum_append, List.map_cons, List.sum_cons]
  omega
theorem offE_le : ∀ (p : List Int) (d : Nat) (h : Int) (n y : S26), small d n = true → getP n p = some y → h ≤ offE d h n p ∧ offE d h n p + tot (d - p.length) y ≤ h + tot d n
  | [], d, h, n, y, hs, hg => by
    obtain rfl := Option.some.inj hg
    cases d <;> simp [offE]
  | i :: p, 0, h, n, y, hs, hg => by simp [small] at hs
  | i :: p, d + 1, h, n, y, hs, hg => by
    unfold getP at hg
    split at hg
    · rename_i hi
      have hl : i.toNat < n.f6.length := by omega
      have hr : rd_T26 n.f6 i = n.f6[i.toNat] := by simp [rd_T26, hl]
      obtain ⟨h1, h2⟩ := offE_le p d (h + textLen n + (((n.f6.take i.toNat).map (tot d)).sum : Nat)) (rd_T26 n.f6 i) y (small_rd hs hi.1 hi.2) hg
      have h3 := sum_take (f := tot d) hl
      rw [← hr] at h3
      simp only [offE, List.length_cons]
      rw [show d + 1 - (p.length + 1) = d - p.length from by omega]
      have h4 : tot (d + 1) n = textLen n + (n.f6.map (tot d)).sum := rfl
      constructor
      · omega
      · omega
    · cases hg
theorem small_up {e d : Nat} {n : S26} (h : small e n = true) (hd : e ≤ d) : small d n = true ∧ tot d n = tot e n := by
  obtain ⟨j, rfl⟩ := Nat.exists_eq_add_of_le hd
  clear hd
  induction j with
  | zero => exact ⟨h, rfl⟩
  | succ j ih => exact ⟨(small_mono _ _ ih.1).1, (tot_mono _ _ ih.1).trans ih.2⟩
theorem ok_cur {d : Nat} {n y : S26} {p : List Int} (hs : small d n = true) (hd : d < 1000000) (hg : getP n p = some y) : (curP d n p).ok := by
  obtain ⟨h1, _⟩ := getP_small p d n y hs hg
  exact ⟨nodesP_len n p, offsP_len p d 0 n h1, show p.length < 1000000 by omega⟩
theorem now_cur {d : Nat} {n y : S26} {p : List Int} (hg : getP n p = some y) : (curP d n p).now = y := now_nodes p n y hg
theorem at_cur {d : Nat} {n y : S26} {p : List Int} (hs : small d n = true) (hg : getP n p = some y) : (curP d n p).at_ = offE d 0 n p := now_offs p d 0 n (getP_small p d n y hs hg).1
theorem down_no {d : Nat} {n y : S26} {p : List Int} (hs : small d n = true) (hd : d < 1000000) (hg : getP n p = some y) (i : Int) (hi : ¬ (0 ≤ i ∧ i < (y.f6.length : Int))) : downF d (curP d n p) i = some (false, curP d n p) := by
  unfold downF
  rw [if_pos (ok_cur hs hd hg), now_cur hg, if_pos (by omega)]
theorem down_yes {d : Nat} {n y : S26} {p : List Int} (hs : small d n = true) (hd : d < 1000000) (ht : tot d n < 4611686018427387904) (hg : getP n p = some y) (i : Int) (hi : 0 ≤ i ∧ i < (y.f6.length : Int)) : downF d (curP d n p) i = some (true, curP d n (p ++ [i])) := by
  have hg2 : getP n (p ++ [i]) = some (rd_T26 y.f6 i) := by rw [getP_snoc p n y i hg, if_pos hi]
  obtain ⟨h1, h2⟩ := getP_small p d n y hs hg
  obtain ⟨h3, _⟩ := getP_small (p ++ [i]) d n _ hs hg2
  rw [List.length_append, List.length_singleton] at h3
  obtain ⟨e, he⟩ : ∃ e, d - p.length = e + 1 := ⟨d - p.length - 1, by omega⟩
  rw [he] at h2
  obtain ⟨g4, g6, gk⟩ := small_succ.1 h2
  obtain ⟨o1, o2⟩ := offE_le p d 0 n y hs hg
  rw [he] at o2
  have hy : tot (e + 1) y = textLen y + (y.f6.map (tot e)).sum := rfl
  have htk : ((y.f6.take i.toNat).map (tot d)).sum = ((y.f6.take i.toNat).map (tot e)).sum := by
    rw [List.map_congr_left (fun z hz => (small_up (gk z (List.mem_of_mem_take hz)) (by omega)).2)]
  have hl : i.toNat < y.f6.length := by omega
  have hst := sum_take (f := tot e) hl
  have hlens : lens d (y.f6.take i.toNat) = some ((((y.f6.take i.toNat).map (tot e)).sum : Nat) : Int) := by
    rw [lens_tot (fun z hz => (small_up (gk z (List.mem_of_mem_take hz)) (show e ≤ d by omega)).1) (by rw [htk]; omega), htk]
  unfold downF
  rw [if_pos (ok_cur hs hd hg), now_cur hg, at_cur hs hg, if_neg (by omega), if_pos (by omega)]
  unfold offF
  rw [cOwn_len g4 (by omega), Option.bind_some, hlens, Option.bind_some, if_pos ⟨o1, by omega⟩]
  simp only [Option.map_some, curP]
  rw [nodesP_snoc p n y i hg, offsP_snoc p d 0 n y i hg h3, show d - p.length - 1 = e from by omega]
end Go.Proofs.Ytfekpmbecoeijaa.Pure
set_option linter.unusedVariables false
namespace Go.Proofs.Ytfekpmbecoeijaa.Pure
open Go.RowKit Go.Proofs.Ytfekpmbecoeijaa.Q Go.Proofs.YtfekpmbecoeijaaW.PrintWords Go.Proofs.YtfekpmbecoeijaaW.PrintLast
open Hand (cloneB textLen lenL ownL sizes preF preL lenOf sizeOf cOwn lens offF Cu downF nextUp nextF prevF lastF leafF)
def skipT : S26 → List Int → Option (List Int)
  | _, [] => none
  | n, i :: p => match skipT (rd_T26 n.f6 i) p with
    | some q => some (i :: q)
    | none => if i + 1 < (n.f6.length : Int) then some [i + 1] else none
theorem getP_init : ∀ (p : List Int) (n z : S26) (i : Int), getP n (p ++ [i]) = some z → ∃ y, getP n p = some y ∧ 0 ≤ i ∧ i < (y.f6.length : Int)
  | [], n, z, i, h => by
    simp only [List.nil_append, getP] at h
    split at h
    · rename_i hi
      exact ⟨n, rfl, hi⟩
    · cases h
  | j :: p, n, z, i, h => by
    rw [List.cons_append] at h
    unfold getP at h ⊢
    split at h
    · rename_i hj
      rw [if_pos hj]
      exact getP_init p _ z i h
    · cases h
theorem next_skip : ∀ (p : List Int) (n y : S26), getP n p = some y → nextT n p = if y.f6.length = 0 then skipT n p else some (p ++ [0])
  | [], n, y, h => by
    obtain rfl := Option.some.inj h
    simp only [nextT, skipT]
    split <;> rfl
  | i :: p, n, y, h => by
    unfold getP at h
    split at h
    · simp only [nextT, skipT]
      rw [next_skip p _ y h]
      by_cases h0 : y.f6.length = 0
      · simp only [if_pos h0]
        all_goals (cases skipT (rd_T26 n.f6 i) p <;> rfl)
      · simp only [if_neg h0]
        all_goals rfl
    · cases h
theorem skip_snoc : ∀ (p : List Int) (n y : S26) (i : Int), getP n p = some y → skipT n (p ++ [i]) = if i + 1 < (y.f6.length : Int) then some (p ++ [i + 1]) else skipT n p
  | [], n, y, i, h => by
    obtain rfl := Option.some.inj h
    simp only [List.nil_append, skipT]
  | j :: p, n, y, i, h => by
    unfold getP at h
    split at h
    · simp only [List.cons_append, skipT]
      rw [skip_snoc p _ y i h]
      by_cases h0 : i + 1 < (y.f6.length : Int)
      · simp only [if_pos h0]
      · simp only [if_neg h0]
    · cases h
theorem up_cur {d : Nat} {n y : S26} {p : List Int} {i : Int} (hg : getP n p = some y) (hd : p.length + 1 < d) : (curP d n (p ++ [i])).up = curP d n p := by
  have h1 := nodesP_len n p
  have h2 := offsP_len p d 0 n (by omega)
  simp only [Hand.Cu.up, curP, List.length_append, List.length_singleton, Nat.add_sub_cancel]
  rw [nodesP_snoc p n y i hg, offsP_snoc p d 0 n y i hg hd, List.take_left' h1, List.take_left' h2, List.take_left' rfl]
theorem snoc_of {p : List Int} (h : p ≠ []) : ∃ q i, p = q ++ [i] := by
  rcases List.eq_nil_or_concat p with e | ⟨q, i, e⟩
  · exact absurd e h
  · exact ⟨q, i, by rw [e, List.concat_eq_append]⟩
theorem rd_snoc {p : List Int} {i : Int} : rd (p ++ [i]) (((p ++ [i]).length - 1 : Nat) : Int) = i := by
  simp [rd]
theorem nextUp_cur {d : Nat} {n : S26} (hs : small d n = true) (hd : d < 1000000) (ht : tot d n < 4611686018427387904) : ∀ (s : Nat) (p : List Int) (y : S26), p.length < s → getP n p = some y →
    ∃ b c, nextUp d s (curP d n p) = some (b, c) ∧ match skipT n p with | some q => b = true ∧ c = curP d n q | none => b = false
  | 0, p, y, hl, hg => by omega
  | s + 1, p, y, hl, hg => by
    by_cases hp : p = []
    · subst hp
      refine ⟨false, curP d n [], ?_, rfl⟩
      unfold nextUp
      rw [if_pos (show (curP d n []).ps.length = 0 from rfl)]
    · obtain ⟨q, i, rfl⟩ := snoc_of hp
      obtain ⟨x, hx, hi⟩ := getP_init q n y i hg
      have hq := (getP_small _ d n y hs hg).1
      rw [List.length_append, List.length_singleton] at hq hl
      have hsx := (getP_small q d n x hs hx).2
      obtain ⟨e, he⟩ : ∃ e, d - q.length = e + 1 := ⟨d - q.length - 1, by omega⟩
      rw [he] at hsx
      obtain ⟨_, g6, _⟩ := small_succ.1 hsx
      rw [skip_snoc q n x i hx]
      unfold nextUp
      have hps : (curP d n (q ++ [i])).ps = q ++ [i] := rfl
      rw [hps, if_neg (by simp), rd_snoc, if_pos ⟨by omega, by omega, ok_cur hs hd hg⟩, up_cur hx hq]
      by_cases hn : i + 1 < (x.f6.length : Int)
      · rw [down_yes hs hd ht hx (i + 1) ⟨by omega, hn⟩, if_pos hn]
        exact ⟨true, _, rfl, rfl, rfl⟩
      · rw [down_no hs hd hx (i + 1) (by omega), if_neg hn]
        exact nextUp_cur hs hd ht s q x (by omega) hx
theorem next_cur {d : Nat} {n y : S26} {p : List Int} (hs : small d n = true) (hd : d < 1000000) (ht : tot d n < 4611686018427387904) (hg : getP n p = some y) :
    nextF d (curP d n p) = some (match nextT n p with | some q => (true, curP d n q) | none => (false, curP d n p)) := by
  rw [next_skip p n y hg]
  unfold nextF
  by_cases h0 : y.f6.length = 0
  · rw [if_pos h0, down_no hs hd hg 0 (by omega)]
    obtain ⟨b, c, h1, h2⟩ := nextUp_cur hs hd ht (p.length + 1) p y (by omega) hg
    have hps : (curP d n p).ps = p := rfl
    simp only [Option.bind_some, Bool.false_eq_true, if_false, hps]
    rw [h1]
    cases hk : skipT n p with
    | some q => rw [hk] at h2; obtain ⟨rfl, rfl⟩ := h2; rfl
    | none => rw [hk] at h2; have h2 : b = false := h2; subst h2; rfl
  · rw [if_neg h0, down_yes hs hd ht hg 0 ⟨by omega, by omega⟩]
    rfl
end Go.Proofs.Ytfekpmbecoeijaa.Pure
set_option linter.unusedVariables false
namespace Go.Proofs.Ytfekpmbecoeijaa.Pure
open Go.RowKit Go.Proofs.Ytfekpmbecoeijaa.Q Go.Proofs.YtfekpmbecoeijaaW.PrintWords Go.Proofs.YtfekpmbecoeijaaW.PrintLast
open Hand (cloneB textLen lenL ownL sizes preF preL lenOf sizeOf cOwn lens offF Cu downF nextUp nextF prevF lastF leafF)
theorem last_cur {d : Nat} {n : S26} (hs : small d n = true) (hd : d < 1000000) (ht : tot d n < 4611686018427387904) : ∀ (e : Nat) (p : List Int) (y : S26) (s : Nat), small e y = true → getP n p = some y → e ≤ s →
    lastF d s (curP d n p) = some (curP d n (p ++ lastT e y))
  | 0, p, y, s, he, hg, hle => by simp [small] at he
  | e + 1, p, y, 0, he, hg, hle => by omega
  | e + 1, p, y, s + 1, he, hg, hle => by
    obtain ⟨_, g6, gk⟩ := small_succ.1 he
    unfold lastF lastT
    rw [now_cur hg, if_pos ⟨ok_cur hs hd hg, by omega⟩]
    by_cases h0 : y.f6.length = 0
    · rw [if_pos h0, down_no hs hd hg _ (by omega), List.append_nil]
      rfl
    · rw [if_neg h0, down_yes hs hd ht hg _ ⟨by omega, by omega⟩]
      have hg2 : getP n (p ++ [(y.f6.length : Int) - 1]) = some (rd_T26 y.f6 ((y.f6.length : Int) - 1)) := by rw [getP_snoc p n y _ hg, if_pos ⟨by omega, by omega⟩]
      have ih := last_cur hs hd ht e (p ++ [(y.f6.length : Int) - 1]) _ s (small_rd he (by omega) (by omega)) hg2 (by omega)
      rw [List.append_assoc] at ih
      exact ih
theorem prevT_nil (d : Nat) (n : S26) : prevT d n [] = none := by cases d <;> rfl
theorem prevT_snoc : ∀ (q : List Int) (d : Nat) (n x : S26) (i : Int), getP n q = some x → q.length < d → prevT d n (q ++ [i]) = if i = 0 then some q else some (q ++ (i - 1) :: lastT (d - q.length - 1) (rd_T26 x.f6 (i - 1)))
  | [], 0, n, x, i, hg, hd => by simp at hd
  | [], d + 1, n, x, i, hg, hd => by
    obtain rfl := Option.some.inj hg
    simp only [List.nil_append, prevT, prevT_nil]
    rfl
  | j :: q, 0, n, x, i, hg, hd => by simp at hd
  | j :: q, d + 1, n, x, i, hg, hd => by
    unfold getP at hg
    split at hg
    · simp only [List.cons_append, prevT]
      rw [prevT_snoc q d _ x i hg (by simpa using hd)]
      by_cases h0 : i = 0
      · simp only [if_pos h0]
      · simp only [if_neg h0, List.length_cons]
        rw [show d + 1 - (q.length + 1) - 1 = d - q.length - 1 from by omega]
    · cases hg
theorem prev_cur {d : Nat} {n y : S26} {p : List Int} (hs : small d n = true) (hd : d < 1000000) (ht : tot d n < 4611686018427387904) (hg : getP n p = some y) :
    prevF d d (curP d n p) = some (match prevT d n p with | some q => (true, curP d n q) | none => (false, curP d n p)) := by
  unfold prevF
  by_cases hp : p = []
  · subst hp
    rw [if_pos (show (curP d n []).ps.length = 0 from rfl), prevT_nil]
  · obtain ⟨q, i, rfl⟩ := snoc_of hp
    obtain ⟨x, hx, hi⟩ := getP_init q n y i hg
    have hq := (getP_small _ d n y hs hg).1
    rw [List.length_append, List.length_singleton] at hq
    have hsx := (getP_small q d n x hs hx).2
    obtain ⟨e, he⟩ : ∃ e, d - q.length = e + 1 := ⟨d - q.length - 1, by omega⟩
    rw [he] at hsx
    obtain ⟨_, g6, _⟩ := small_succ.1 hsx
    rw [prevT_snoc q d n x i hx (by omega)]
    have hps : (curP d n (q ++ [i])).ps = q ++ [i] := rfl
    rw [hps, if_neg (by simp), rd_snoc, if_pos ⟨by omega, by omega, ok_cur hs hd hg⟩, up_cur hx hq]
    by_cases h0 : i = 0
    · simp only [if_pos h0]
    · simp only [if_neg h0]
      rw [down_yes hs hd ht hx (i - 1) ⟨by omega, by omega⟩]
      have hg2 : getP n (q ++ [i - 1]) = some (rd_T26 x.f6 (i - 1)) := by rw [getP_snoc q n x _ hx, if_pos ⟨by omega, by omega⟩]
      have hl := last_cur hs hd ht e (q ++ [i - 1]) _ d (small_rd hsx (by omega) (by omega)) hg2 (by omega)
      rw [show d - q.length - 1 = e from by omega]
      simp only [Option.bind_some]
      rw [hl, List.append_assoc]
      rfl
end Go.Proofs.Ytfekpmbecoeijaa.Pure
set_option linter.unusedVariables false
namespace Go.Proofs.Ytfekpmbecoeijaa.Pure
open Go.RowKit Go.Proofs.Ytfekpmbecoeijaa.Q Go.Proofs.YtfekpmbecoeijaaW.PrintWords Go.Proofs.YtfekpmbecoeijaaW.PrintLast
open Hand (cloneB textLen lenL ownL sizes preF preL lenOf sizeOf cOwn lens offF Cu downF nextUp nextF prevF lastF leafF)
theorem ord_len : ∀ (d : Nat) (n : S26), small d n = true → (ord d n).length = (pre d n).length
  | 0, n, h => by simp [small] at h
  | d + 1, n, h => by
    obtain ⟨_, _, hk⟩ := small_succ.1 h
    have key : ∀ (l : List S26) (i : Int), (∀ y ∈ l, small d y = true) → (ordK (ord d) l i).length = (l.flatMap (pre d)).length := by
      intro l
      induction l with
      | nil => intro i _; rfl
      | cons k l ih =>
        intro i hl
        rw [List.flatMap_cons, List.length_append]
        simp only [ordK, List.length_append, List.length_map]
        rw [ord_len d k (hl k List.mem_cons_self), ih (i + 1) (fun y hy => hl y (List.mem_cons_of_mem _ hy))]
    simp only [ord, pre, List.length_cons]
    rw [key n.f6 0 hk]
theorem ordK_len {d : Nat} {l : List S26} (i : Int) (hl : ∀ y ∈ l, small d y = true) : (ordK (ord d) l i).length = (l.flatMap (pre d)).length := by
  induction l generalizing i with
  | nil => rfl
  | cons k l ih =>
    rw [List.flatMap_cons, List.length_append]
    simp only [ordK, List.length_append, List.length_map]
    rw [ord_len d k (hl k List.mem_cons_self), ih (i + 1) (fun y hy => hl y (List.mem_cons_of_mem _ hy))]
theorem take_add {α : Type} (a b : List α) (i : Nat) : (a ++ b).take (a.length + i) = a ++ b.take i := by
  rw [List.take_append, List.take_of_length_le (l := a) (Nat.le_add_right _ _), Nat.add_sub_cancel_left]
theorem ord_at : ∀ (d : Nat) (n : S26), small d n = true → ∀ (h : Int) (A : List (List Int)) (p : List Int) (B : List (List Int)), ord d n = A ++ p :: B →
    ∃ y, getP n p = some y ∧ (pre d n)[A.length]? = some y ∧ offE d h n p = h + (lenL ((pre d n).take A.length) : Int)
  | 0, n, h, _, A, p, B, he => by simp [small] at h
  | d + 1, n, h, h0, A, p, B, he => by
    obtain ⟨_, _, hk⟩ := small_succ.1 h
    simp only [ord] at he
    cases A with
    | nil =>
      obtain ⟨rfl, rfl⟩ := List.cons.inj he
      refine ⟨n, rfl, rfl, ?_⟩
      simp [offE, lenL]
    | cons a A =>
      obtain ⟨ha, he2⟩ := List.cons.inj he
      subst ha
      obtain ⟨ks1, k, ks2, A1, p', B1, e1, rfl, e3, rfl, e5⟩ := ordK_split (ord d) n.f6 0 A p B he2
      have hkk := hk k (by rw [e1]; simp)
      have hks1 : ∀ y ∈ ks1, small d y = true := fun y hy => hk y (by rw [e1]; simp [hy])
      obtain ⟨y, g1, g2, g3⟩ := ord_at d k hkk (h0 + textLen n + (((n.f6.take ((0 : Int) + (ks1.length : Int)).toNat).map (tot d)).sum : Nat)) A1 p' B1 e3
      have hlt : A1.length < (pre d k).length := (List.getElem?_eq_some_iff.1 g2).1
      have hto : ((0 : Int) + (ks1.length : Int)).toNat = ks1.length := by omega
      have hpre : pre (d + 1) n = n :: (ks1.flatMap (pre d) ++ (pre d k ++ ks2.flatMap (pre d))) := by
        simp only [pre]
        rw [e1, List.flatMap_append, List.flatMap_cons]
      refine ⟨y, ?_, ?_, ?_⟩
      · unfold getP
        rw [if_pos ⟨by omega, by rw [e1, List.length_append, List.length_cons]; omega⟩, e1, rd_mid]
        exact g1
      · rw [hpre]
        simp only [List.length_cons, List.length_append, List.length_map, List.getElem?_cons_succ]
        rw [ordK_len 0 hks1, List.getElem?_append_right (by omega), Nat.add_sub_cancel_left, List.getElem?_append_left hlt]
        exact g2
      · simp only [offE]
        rw [show rd_T26 n.f6 ((0 : Int) + (ks1.length : Int)) = k from by rw [e1, rd_mid], g3, hpre, hto]
        simp only [List.length_cons, List.length_append, List.length_map, List.take_succ_cons]
        rw [ordK_len 0 hks1, take_add, List.take_append_of_le_length (Nat.le_of_lt hlt)]
        rw [show n :: (ks1.flatMap (pre d) ++ (pre d k).take A1.length) = [n] ++ (ks1.flatMap (pre d) ++ (pre d k).take A1.length) from rfl, lenL_append, lenL_append, lenL_flat (t := tot d) (fun y hy => lenL_pre d y (hks1 y hy))]
        rw [show n.f6.take ks1.length = ks1 from by rw [e1]; simp]
        have : lenL [n] = textLen n := by simp [lenL]
        omega
end Go.Proofs.Ytfekpmbecoeijaa.Pure
set_option linter.unusedVariables false
namespace Go.Proofs.Ytfekpmbecoeijaa.Pure
open Go.RowKit Go.Proofs.Ytfekpmbecoeijaa.Q Go.Proofs.YtfekpmbecoeijaaW.PrintWords Go.Proofs.YtfekpmbecoeijaaW.PrintLast
open Hand (cloneB textLen lenL ownL sizes preF preL lenOf cOwn lens offF Cu downF nextUp nextF prevF lastF leafF)
def cat (x : ByteArray) : List ByteArray → ByteArray
  | [] => x
  | s :: l => cat (x ++ s) l
theorem cat_size : ∀ (l : List ByteArray) (x : ByteArray), (cat x l).size = x.size + sizes l
  | [], x => by simp [cat, sizes]
  | s :: l, x => by
    have h := cat_size l (x ++ s)
    have h2 : (x ++ s).size = x.size + s.size := ByteArray.size_append
    have h3 : sizes (s :: l) = s.size + sizes l := by simp [sizes]
    simp only [cat]
    omega
theorem sizes_cons (s : ByteArray) (l : List ByteArray) : sizes (s :: l) = s.size + sizes l := by simp [sizes]
def ownT (n : S26) : ByteArray := cat ⟨#[]⟩ (ownL n)
theorem ownT_size (n : S26) : (ownT n).size = textLen n := by
  unfold ownT
  rw [cat_size]
  show (0 : Nat) + sizes (ownL n) = _
  rw [Nat.zero_add]
  rfl
theorem rd76 {l : List S76} {i : Nat} {y : S76} (h : l[i]? = some y) : rd_T76 l (i : Int) = y := by
  unfold rd_T76
  rw [Int.toNat_natCast, List.getD_eq_getElem?_getD, h]
  rfl
theorem ownE (n : S26) (h4 : n.f4.length < 300) (ht : textLen n < 9223372036854775807) : Ev (fun k => arboristref42_Own.f k n.f0 n.f1 n.f2 n.f3 n.f4 n.f5 n.f6) (ownT n) := by
  have key : ∀ (q i : Nat) (x : ByteArray), i + q = n.f4.length → x.size + sizes ((n.f4.drop i).map (·.f2) ++ [n.f5]) ≤ 9223372036854775807 →
      Ev (fun k => arboristref42_Own.l0 k x (i : Int) n.f0 n.f1 n.f2 n.f3 n.f4 n.f5 n.f6) (cat x ((n.f4.drop i).map (·.f2) ++ [n.f5])) := by
    intro q
    induction q with
    | zero =>
      intro i x hi hx
      rw [List.drop_of_length_le (by omega)] at hx ⊢
      simp only [List.map_nil, List.nil_append, sizes_cons] at hx ⊢
      refine Ev.step (f := fun _ => some (x ++ n.f5)) (fun k => ?_) (Ev.now _)
      simp only [arboristref42_Own.l0]
      rw [if_neg (by omega), if_pos (by omega)]
    | succ q ih =>
      intro i x hi hx
      have hi' : i < n.f4.length := by omega
      have hr : rd_T76 n.f4 (i : Int) = n.f4[i] := rd76 (List.getElem?_eq_getElem hi')
      rw [List.drop_eq_getElem_cons hi'] at hx ⊢
      simp only [List.map_cons, List.cons_append, sizes_cons] at hx ⊢
      have hsz : (x ++ n.f4[i].f2).size = x.size + n.f4[i].f2.size := ByteArray.size_append
      refine Ev.step (fun k => ?_) (ih (i + 1) (x ++ n.f4[i].f2) (by omega) (by omega))
      simp only [arboristref42_Own.l0]
      rw [if_pos (by omega), if_pos (by omega), hr, if_pos (by omega), w64 (by omega) (by omega)]
      rfl
  unfold ownT ownL arboristref42_Own.f
  by_cases hn : n.f0 < 0
  · rw [if_pos hn]
    exact Ev.congr (fun k => if_pos hn) (Ev.now _)
  · rw [if_neg hn]
    refine Ev.congr (fun k => if_neg hn) ?_
    have h := key n.f4.length 0 ⟨#[]⟩ (by omega) (by
      have : textLen n = sizes (n.f4.map (·.f2) ++ [n.f5]) := by unfold textLen ownL; rw [if_neg hn]
      rw [List.drop_zero]
      show (0 : Nat) + _ ≤ _
      omega)
    rw [List.drop_zero] at h
    exact h
theorem le_sum {a : Nat} : ∀ {l : List Nat}, a ∈ l → a ≤ l.sum
  | b :: l, h => by
    rw [List.sum_cons]
    rcases List.mem_cons.1 h with rfl | h
    · omega
    · have := le_sum h; omega
theorem small_low : ∀ (d : Nat) (n : S26), small d n = true → small (cnt d n) n = true
  | 0, n, h => by simp [small] at h
  | d + 1, n, h => by
    obtain ⟨h1, h2, h3⟩ := small_succ.1 h
    show small (1 + (n.f6.map (cnt d)).sum) n = true
    rw [Nat.add_comm]
    refine small_succ.2 ⟨h1, h2, fun y hy => (small_up (small_low d y (h3 y hy)) ?_).1⟩
    exact le_sum (List.mem_map_of_mem hy)
theorem cnt_up {e d : Nat} {n : S26} (h : small e n = true) (hd : e ≤ d) : cnt d n = cnt e n := by
  obtain ⟨j, rfl⟩ := Nat.exists_eq_add_of_le hd
  clear hd
  induction j with
  | zero => rfl
  | succ j ih => exact (small_mono _ _ (small_up h (Nat.le_add_right _ _)).1).2.trans ih
def okT (n : S26) : Bool := small 100 n && decide (tot 100 n < 4611686018427387904) && decide (cnt 100 n ≤ 80)
structure OkT (n : S26) : Prop where
  sm : small 100 n = true
  tt : tot 100 n < 4611686018427387904
  ct : cnt 100 n ≤ 80
theorem okT_iff {n : S26} : okT n = true ↔ OkT n := by
  simp only [okT, Bool.and_eq_true, decide_eq_true_eq]
  exact ⟨fun h => ⟨h.1.1, h.1.2, h.2⟩, fun h => ⟨⟨h.sm, h.tt⟩, h.ct⟩⟩
theorem few80 (n : S26) (hB : Bnd n) : ∃ b, Ev (fun k => arboristref42_Few.f k n.f0 n.f1 n.f2 n.f3 n.f4 n.f5 n.f6 80) b ∧ (b = true → OkT n) := by
  obtain ⟨b, hb, h⟩ := few_ev n 80 hB (by omega) (by omega)
  refine ⟨b, hb, fun e => ?_⟩
  obtain ⟨d, hs, hc⟩ := h e
  have hlow := small_low d n hs
  have hle : cnt d n ≤ 80 := by omega
  obtain ⟨h1, h2⟩ := small_up hlow (show cnt d n ≤ 100 by omega)
  have hc1 : cnt 100 n = cnt d n := by
    rcases Nat.le_total d 100 with h3 | h3
    · exact cnt_up hs h3
    · exact (cnt_up h1 h3).symm
  have := tot_le 100 n hB h1
  exact ⟨h1, by omega, by omega⟩
theorem textLen_le {d : Nat} {n : S26} (h : small d n = true) : textLen n ≤ tot d n := by
  cases d with
  | zero => simp [small] at h
  | succ d => exact Nat.le_add_right _ _
structure PlaceT (n : S26) (A : List (List Int)) (p : List Int) (B : List (List Int)) (y : S26) : Prop where
  get : getP n p = some y
  nth : (pre 100 n)[A.length]? = some y
  ok : (curP 100 n p).ok
  now : (curP 100 n p).now = y
  at_ : (curP 100 n p).at_ = (lenL ((pre 100 n).take A.length) : Int)
  sm : ∃ d, small d y = true
  lead : y.f4.length < 300
  txt : textLen y < 4611686018427387904
  len : A.length + 1 + B.length = cnt 100 n
  next : nextF 100 (curP 100 n p) = some (match B.head? with | some q => (true, curP 100 n q) | none => (false, curP 100 n p))
  prev : prevF 100 100 (curP 100 n p) = some (match A.getLast? with | some q => (true, curP 100 n q) | none => (false, curP 100 n p))
  plen : p.length < 100
theorem place {n : S26} (h : OkT n) {A : List (List Int)} {p : List Int} {B : List (List Int)} (he : ord 100 n = A ++ p :: B) : ∃ y, PlaceT n A p B y := by
  obtain ⟨y, h1, h2, h3⟩ := ord_at 100 n h.sm 0 A p B he
  obtain ⟨hp, hy⟩ := getP_small p 100 n y h.sm h1
  have hl : A.length + 1 + B.length = cnt 100 n := by
    have e1 := ord_len 100 n h.sm
    rw [pre_len 100 n h.sm, he] at e1
    simp at e1
    omega
  have ho := offE_le p 100 0 n y h.sm h1
  have ht := textLen_le hy
  have h4 : y.f4.length < 300 := by
    obtain ⟨e, hE⟩ : ∃ e, 100 - p.length = e + 1 := ⟨100 - p.length - 1, by omega⟩
    rw [hE] at hy
    exact (small_succ.1 hy).1
  have htt := h.tt
  refine ⟨y, h1, h2, ok_cur h.sm (by omega) h1, now_cur h1, ?_, ⟨_, hy⟩, h4, by omega, hl, ?_, ?_, hp⟩
  · rw [at_cur h.sm h1, h3, Int.zero_add]
  · rw [next_cur h.sm (by omega) h.tt h1, next_ord 100 n h.sm A p B he]
    all_goals (cases B.head? <;> rfl)
  · rw [prev_cur h.sm (by omega) h.tt h1, prev_ord 100 n h.sm A p B he]
    all_goals (cases A.getLast? <;> rfl)
theorem len_ok {n : S26} (h : OkT n) : lenOf 100 n = some (tot 100 n : Int) := lenOf_tot h.sm (by have := h.tt; omega)
theorem lens_step {n y : S26} {j : Nat} (h : OkT n) (hj : (pre 100 n)[j]? = some y) : lenL ((pre 100 n).take (j + 1)) = lenL ((pre 100 n).take j) + textLen y ∧ lenL ((pre 100 n).take (j + 1)) ≤ tot 100 n :=
  ⟨Hand.lenL_take hj, by have := Hand.lenL_le (l := pre 100 n) (j + 1); rw [lenL_pre 100 n h.sm] at this; exact this⟩
end Go.Proofs.Ytfekpmbecoeijaa.Pure
